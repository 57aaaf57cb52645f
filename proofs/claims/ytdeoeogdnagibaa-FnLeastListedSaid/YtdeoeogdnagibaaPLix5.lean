-- Written for this claim by a program of this session (myprint.py) over the kit's printer.
import Derived.Test.YtdeoeogdnagibaaPLix0
import Derived.Test.YtdeoeogdnagibaaPLix1
import Derived.Test.YtdeoeogdnagibaaPLix2
import Derived.Test.YtdeoeogdnagibaaPLix3
namespace Go.Proofs.Ytdeoeogdnagibaa.PLi
noncomputable section
open Go.RowKit Go.Proofs.YtdeoeogdnagibaaW.PrintWords Go.Proofs.YtdeoeogdnagibaaW.PrintLast Go.Proofs.YtdeoeogdnagibaaW.PrintMore
attribute [local go_sem] max2_int min2_int max_two min_two max_three min_three max_four min_four   -- for this text's walks alone
open List (setIfInBounds_toArray set_cons_zero set_cons_succ)
set_option maxHeartbeats 8000000
set_option maxRecDepth 100000
set_option linter.unusedVariables false
set_option linter.unusedSimpArgs false
theorem pRq5 {α : Type} {d : Kd α} {e base : Nat} {ok : Nat → Prop} {v : Value} {xs : List α} {w W : World} (h0 : Aside0 (Kd.R d e w base ok v xs)) (hp : Kd.R d e W base ok v xs := by (with_reducible repeat (first | apply Kd.R_alloc | apply Kd.R_drewN | apply Kd.R_drew)); exact Aside0.out (by with_reducible assumption)) : Kd.R d e W base ok v xs := hp
theorem pKq5 {g : Nat} {o : Obj} {w W : World} (h0 : Aside0 (w.heap[g]? = some o)) (hp : W.heap[g]? = some o := by (with_reducible repeat (first | refine blk_drewN ?_ _ | refine blk_drew ?_ | refine blk_alloc ?_ _)); exact Aside0.out (by with_reducible assumption)) : W.heap[g]? = some o := hp
theorem pBq5 {b : Nat} {w0 w W : World} (h0 : Aside0 (Below b w0 w)) (hp : Below b w0 W := by repeat (first | (with_reducible first | exact Aside0.out (by assumption) | apply below_alloc | apply pw_below_drewN | apply below_drew1 | refine below_set ?_ (Aside0.out (by assumption))))) : Below b w0 W := hp
/-! ### impl_LeastOfRank: function 17 -/
open Classical in
noncomputable def impl_LeastOfRank.ev {α : Type} (g : Nat → Option α) : Option α := if h : ∃ k r, g k = some r then g h.choose else none
theorem impl_LeastOfRank.ev_some {α : Type} {g : Nat → Option α} {r : α} (h : impl_LeastOfRank.ev g = some r) : ∃ k, g k = some r := by
 unfold impl_LeastOfRank.ev at h
 split at h
 ·exact ⟨_, h⟩
 ·cases h
mutual
noncomputable def impl_LeastOfRank.l0 : Nat → List Int → Int → Int → List Int → Int → List Int → Option (Int × List Int × Bool)
 | 0, _, _, _, _, _, _ => none
 | k + 1, x0, x1, x6, x8, x208000, x208001 => if (x8.length : Int) > 0 then (impl_LeastOfRank.l1 k x0 x1 x6 x8 (x8.length : Int) 0 x208000 x208001) else (some (x208000, x208001, true))
noncomputable def impl_LeastOfRank.l1 : Nat → List Int → Int → Int → List Int → Int → Int → Int → List Int → Option (Int × List Int × Bool)
 | 0, _, _, _, _, _, _, _, _ => none
 | k + 1, x0, x1, x6, x36, x37, x38, x208000, x208001 => if x38 < x37 then (if 0 ≤ x38 then (if x38 < (x36.length : Int) then ((impl_exchanged.f x0 (rd x36 x38)).bind fun t217 => ((impl_counter_count.f t217).bind fun t220 => (if x1 ≥ t220 then (impl_LeastOfRank.l1 k x0 (wrap64 (x1 - t220)) x6 x36 x37 (wrap64 (x38 + 1)) x208000 x208001) else (if x208001.length < 17592186044416 then ((impl_LeastOfRank.ev fun k_ => impl_descents.f k_ t217).bind fun t224 => (impl_LeastOfRank.l0 k t217 x1 x6 t224 x208000 (x208001 ++ [rd x36 x38]))) else (none))))) else (none)) else (none)) else ((impl_LeastOfRank.ev fun k_ => impl_descents.f k_ x0).bind fun t213 => (impl_LeastOfRank.l0 k x0 x1 x6 t213 x208000 x208001))
end
noncomputable def impl_LeastOfRank.g (k : Nat) (l0 : List Int) (a1 : Int) : Option (Int × List Int × Bool) := (impl_LeastOfRank.ev fun k_ => impl_isCounted.f k_ l0).bind fun t206 => (if t206 = true then ((impl_counter_count.f l0).bind fun t208 => ((impl_between.f a1 0 (wrap64 (t208 - 1))).bind fun t209 => (if t209 = true then ((impl_LeastOfRank.ev fun k_ => impl_descents.f k_ l0).bind fun t210 => (impl_LeastOfRank.l0 k l0 a1 0 t210 (l0.length : Int) ([] : List Int))) else (some (0, ([] : List Int), false))))) else (some (0, ([] : List Int), false)))
theorem impl_LeastOfRank.farB {w : World} {g : Nat} {o : Obj} (h : w.heap[g]? = some o) {p : Addr} (hp : g ≠ p.block) (u : Value) : (w.setCell p u).heap[g]? = some o := (Below.heap_setCell w p u g hp).trans h
theorem impl_LeastOfRank.newM {α : Type} {d : Kd α} {e B : Nat} {w1 W w : World} {ok : Nat → Prop} {v : Value} {xs : List α} (h : d.R e w1 W.heap.size ok v xs) (hle : w.heap.size ≤ W.heap.size) (hB : B < W.heap.size) : d.R e w1 W.heap.size (fun k_ => (w.heap.size ≤ k_ ∧ k_ ≠ B) ∧ ok k_) v xs :=
 Kd.R_mono (Kd.R_bound h) (fun k hk => ⟨⟨Nat.le_trans hle hk.2.1, by have := hk.2.1; omega⟩, hk.1⟩)
def impl_LeastOfRank.MBX (w : World) (B j : Nat) : Prop := ∃ o N, w.heap[B]? = some o ∧ N ≤ j * 1853020188851841 ∧ ∀ W : World, W.heap[B]? = some o → impl_counter_count.Mem W B N
theorem impl_LeastOfRank.ofMem {w : World} {B N : Nat} (hm : impl_counter_count.Mem w B N) : ∃ o, w.heap[B]? = some o ∧ ∀ W : World, W.heap[B]? = some o → impl_counter_count.Mem W B N := by
 obtain ⟨D, h1, h2⟩ := hm
 obtain ⟨es, clock, hb, hF, hs, hD⟩ := h1
 exact ⟨_, hb, fun W hW => ⟨D, ⟨es, clock, hW, hF, hs, hD⟩, h2⟩⟩
theorem impl_LeastOfRank.after {w : World} {B N j : Nat} (hm : impl_counter_count.Mem w B (N + 1853020188851841)) (hN : N ≤ j * 1853020188851841) : impl_LeastOfRank.MBX w B (j + 1) := by
 obtain ⟨o, h1, h2⟩ := impl_LeastOfRank.ofMem hm
 exact ⟨o, _, h1, Nat.le_trans (Nat.add_le_add_right hN _) (Nat.le_of_eq (Nat.succ_mul j _).symm), h2⟩
theorem impl_LeastOfRank.madeX (w : World) : impl_LeastOfRank.MBX (w.alloc (.map #[] 0)) w.heap.size 0 := by
 obtain ⟨o, h1, h2⟩ := impl_LeastOfRank.ofMem (impl_counter_count.Mem.made w)
 exact ⟨o, 0, h1, Nat.zero_le _, h2⟩
theorem impl_LeastOfRank.lim {N j : Nat} (h : N ≤ j * 1853020188851841) (hj : j ≤ 1000) : N + 1853020188851841 ≤ 4611686018427387904 := Nat.le_trans (Nat.add_le_add_right (Nat.le_trans h (Nat.mul_le_mul_right _ hj)) _) zq36
theorem impl_LeastOfRank.calls_g (k : Nat) (hkk : k ≤ 200) (P0_ : Nat → Prop) (A0 : Option Addr) (c0 : Nat) (l0 : List Int) (a1 : Int) (r1 : Int) (r2 : List Int) (r3 : Bool) (w : World) (hs0 : Kd.V (Kd.int .i64) 3 w w.heap.size (fun k_ => P0_ k_) (.slice A0 l0.length c0) l0) (h : impl_LeastOfRank.g k l0 a1 = some (r1, r2, r3)) :
  Calls Try.prog 17 #[.slice A0 l0.length c0, .int .i64 a1] w fun e w' => ∃ v1_ : Value, e = .returned (.tuple #[.agg #[.int .i64 r1, v1_], .bool r3]) ∧ Kd.R (Kd.int .i64) 3 w' w.heap.size (fun _ => True) v1_ r2 ∧ Below w.heap.size w w' := by
 have hu34 := Try.underlying34
 have HO0 := am (show Kd.V (Kd.int .i64) 3 w w.heap.size (fun k_ => (P0_ k_ ∨ w.heap.size ≤ k_)) (.slice A0 l0.length c0) l0 from Kd.V_mono hs0 (fun k_ hk => .inl hk))
 have HB := am (Below.refl w.heap.size w)
 have HKK := am hkk
 clear hkk
 have hmm := @run_makeMap Try.prog
 have H : ((impl_LeastOfRank.ev fun k_ => impl_isCounted.f k_ l0).bind fun t206 => (if t206 = true then ((impl_counter_count.f l0).bind fun t208 => ((impl_between.f a1 0 (wrap64 (t208 - 1))).bind fun t209 => (if t209 = true then ((impl_LeastOfRank.ev fun k_ => impl_descents.f k_ l0).bind fun t210 => (impl_LeastOfRank.l0 k l0 a1 0 t210 (l0.length : Int) ([] : List Int))) else (some (0, ([] : List Int), false))))) else (some (0, ([] : List Int), false)))) = some (r1, r2, r3) := h
 clear h
 replace H := Option.bind_eq_some_iff.mp H
 obtain ⟨t206, A30, H⟩ := H
 (try dsimp only at H)
 obtain ⟨ka3_, A30⟩ := impl_LeastOfRank.ev_some A30
 have A3 := am A30
 clear A30
 by_cases c4 : t206 = true
 ·subst c4
  rw [if_pos rfl] at H
  obtain ⟨t208, A5, H⟩ := zS H
  (try dsimp only at H)
  obtain ⟨t209, A6, H⟩ := zS H
  (try dsimp only at H)
  by_cases c7 : t209 = true
  ·subst c7
   rw [if_pos rfl] at H
   replace H := Option.bind_eq_some_iff.mp H
   obtain ⟨t210, A80, H⟩ := H
   (try dsimp only at H)
   obtain ⟨ka8_, A80⟩ := impl_LeastOfRank.ev_some A80
   have A8 := am A80
   clear A80
   have H' := am H
   clear H
   go_enter Try.func17, Try.ntmps17
   go_wp2_with (first | ((with_reducible refine gate_dst (N := 4) rfl ?_); refine zE 4 (cs := #[.int .i64 0, .slice none 0 0]) 34 ?_; intro gb205 hg w9 hbox hb; have BK205 := am (hbox); have GW205 := am ((zq67 : w.heap.size ≤ gb205)); have GE205 := am ((zq67 : w.heap.size ≤ gb205)); replace HO0 := am (Kd.V_below (Kd.V_elderB zq38 gb205 (Nat.le_of_eq hg.symm)) hb); replace HB := am (below_step (pBq5 HB) hb); clear hb hbox hg) | ((with_reducible refine gate_callee (f := 31) rfl ?_); refine goesL_ (some 14) rfl rfl Try.func31 zq26 rfl #[.slice A0 l0.length c0] rfl zq1 ?_; (with_reducible refine (impl_isCounted.calls _ _ _ l0 true _ ?side1 ?side2 A3.out).mono ?_); (case side1 => exact zq33); (case side2 => exact zq143); rintro e w' ⟨rfl, ⟨nd, rfl⟩⟩; refine ⟨_, rfl, ?_⟩; (try (rw [drewN_self w9]; generalize hq_ : World.drewN w9 _ = w9; have n0_ : Aside0 (Kd.V (Kd.int .i64) 3 w9 w.heap.size (fun k_ => (P0_ k_ ∨ w.heap.size ≤ k_) ∧ k_ ≠ gb205) (.slice A0 l0.length c0) l0) := ⟨by rw [← hq_]; exact zq38⟩; have n1_ : Aside0 (w9.heap[gb205]? = some (.cells #[.int .i64 0, .slice none 0 0] 34 (0, 0))) := ⟨by rw [← hq_]; exact (pKq5 BK205)⟩; have n2_ : Aside0 (Below w.heap.size w w9) := ⟨zq167⟩; clear HO0 BK205 HB hq_; have HO0 := n0_; have BK205 := n1_; have HB := n2_; clear n0_ n1_ n2_))) | ((with_reducible refine gate_dst (N := 7) rfl ?_); (generalize hBd : w9.heap.size = B); refine zE 7 (cs := #[.int .i64 0, .slice none 0 0]) 34 ?_; intro gb207 hg w10 hbox hb; have q1_ := Kd.V_elderB HO0.out B (Nat.le_of_eq hBd); have q2_ := Kd.V_elderB (Kd.V_alloc q1_ (.map #[] 0)) gb207 (Nat.le_of_eq hg.symm); have q3_ := Kd.V_below q2_ hb; have n0_ := am (Kd.V_mono (ok' := fun k_ => (((P0_ k_ ∨ w.heap.size ≤ k_) ∧ k_ ≠ B) ∧ k_ ≠ gb205) ∧ k_ ≠ gb207) q3_ (fun k_ hk => ⟨⟨⟨hk.1.1.1, hk.1.2⟩, hk.1.1.2⟩, hk.2⟩)); clear q1_ q2_ q3_; have n1_ := am (blk_below (pKq5 BK205) hb); have n2_ := am (below_step (pBq5 HB) hb); have n3_ := am (hbox); have n4_ := am ((zq67 : w.heap.size ≤ gb207)); have n5_ := am ((zq67 : w.heap.size ≤ gb207)); have n6_ := am ((by rw [hg]; exact Nat.ne_of_lt (blk_lt (pKq5 BK205)) : gb205 ≠ gb207)); have n7_ := am ((by rw [hg]; exact Nat.ne_of_gt (blk_lt (pKq5 BK205)) : gb207 ≠ gb205)); have hMd_ := (impl_LeastOfRank.madeX w9); rw [hBd] at hMd_; obtain ⟨oB, NN, hB1_, hN1_, hB2_⟩ := hMd_; have hB3_ := blk_below (g := B) (o := oB) hB1_ hb; have BKB := am hB3_; have HNN := am hN1_; have HMP := am hB2_; have NBB_205 := am (show B ≠ gb205 from fun e_ => by have h_ := blk_lt BK205.out; omega); have NBB_207 := am (show B ≠ gb207 from fun e_ => by have h_ := blk_lt hB1_; omega); have HBB := am (show w.heap.size ≤ B from by have h_ := (HB.out).size; omega); clear hB1_ hN1_ hB2_ hB3_; clear HO0; clear BK205; clear HB; have HO0 := n0_; have BK205 := n1_; have HB := n2_; have BK207 := n3_; have GW207 := n4_; have GE207 := n5_; have NB205_207 := n6_; have NB207_205 := n7_; clear n0_ n1_ n2_ n3_ n4_ n5_ n6_ n7_; clear hb hbox hg hBd; have hnb11 := NB207_205.out; have hnc11 := NB205_207.out; have hcz12_0 : w10.cell? ⟨gb207, 0, none⟩ = some (.int .i64 0) := (blk_cell BK207.out 0).trans rfl; have hcz12_1 : w10.cell? ⟨gb207, 1, none⟩ = some (.slice none 0 0) := (blk_cell BK207.out 1).trans rfl; have hfz12_0 := blk_frozen BK207.out 0; have hfz12_1 := blk_frozen BK207.out 1) | ((with_reducible refine gate_callee (f := 32) rfl ?_); refine goesL_ (some 24) rfl rfl Try.func32 zq26 rfl #[.map (some B), .slice A0 l0.length c0] rfl zq1 ?_; (with_reducible refine (impl_counter_count.callsN B NN _ _ l0 t208 w _ ?sB HBB.out ?sM ?sN ?side1 ?side2 A5.out).mono ?_); (case sB => exact (pBq5 HB)); (case sM => exact HMP.out _ zq16); (case sN => exact zq129); (case side1 => exact Kd.C_kept_ownV zq50 (fun k_ hk_ e_ => absurd e_ zq31)); (case side2 => exact zq143); rintro e w13 ⟨rfl, hm_, hbB_, hk_⟩; refine ⟨_, rfl, ?_⟩; replace HO0 := am (Kd.V_kept zq50 hk_ (fun k_ hk_ e_ => absurd e_ zq31)); replace BK205 := am (blk_kept (g := gb205) (o := .cells #[.int .i64 0, .slice none 0 0] 34 (0, 0))  zq112 hk_ (fun e_ => NBB_205.out e_.symm)); replace BK207 := am (blk_kept (g := gb207) (o := .cells #[.int .i64 (l0.length : Int), .slice none 0 0] 34 (0, 0))  zq91 hk_ (fun e_ => NBB_207.out e_.symm)); replace HB := am (hbB_); obtain ⟨oB, NN, hB1_, hN1_, hB2_⟩ := impl_LeastOfRank.after hm_ HNN.out; clear BKB HMP HNN; have BKB := am hB1_; have HNN := am hN1_; have HMP := am hB2_; clear hB1_ hN1_ hB2_ hm_ hbB_ hk_; (try clear hk)) | ((with_reducible refine gate_callee (f := 36) rfl ?_); refine goesL_ (some 26) rfl rfl Try.func36 zq26 rfl #[.int .i64 a1, .int .i64 0, .int .i64 (wrap64 (t208 - 1))] rfl zq1 ?_; (with_reducible refine (impl_between.calls a1 0 (wrap64 (t208 - 1)) true _ A6.out).mono ?_); rintro e w' ⟨rfl, ⟨nd, rfl⟩⟩; refine ⟨_, rfl, ?_⟩) | ((with_reducible refine gate_callee (f := 43) rfl ?_); refine goesL_ (some 30) rfl rfl Try.func43 zq26 rfl #[.slice A0 l0.length c0] rfl zq1 ?_; (with_reducible refine (impl_descents.calls _ _ _ l0 t210 _ ?side1 ?side2 A8.out).mono ?_); (case side1 => exact zq33); (case side2 => exact zq143); rintro e w14 ⟨v211, rfl, ho0, hb⟩; refine ⟨_, rfl, ?_⟩; have n0_ := am (Kd.V_elder' zq38 (Kd.R_base ho0) hb); have n1_ := am (Kd.R_lower (impl_LeastOfRank.newM ho0 (below_size (pBq5 HB)) (blk_lt (g := B) (o := oB) zq16)) (below_size (pBq5 HB))); have n2_ := am (blk_below (pKq5 BK205) hb); have nB_ := am (blk_below (g := B) (o := oB) zq23 hb); have n3_ := am (blk_below (pKq5 BK207) hb); have n4_ := am (below_step (pBq5 HB) hb); clear HO0; clear BK205 BKB; clear BK207; clear HB; have HO0 := n0_; have HO212 := n1_; have BK205 := n2_; have BKB := nB_; clear nB_; have BK207 := n3_; have HB := n4_; clear n0_ n1_ n2_ n3_ n4_; (try clear hb)))
   go_loopg [0, 1, 8] k (fun kq v0 v1 v8 w' => ∃ (x0_1 : List Int) (x1_1 : Int) (x8_1 : List Int) (x208001_1 : List Int) (u208001 : Value), v1 = .int .i64 x1_1 ∧ Aside0 (impl_LeastOfRank.l0 kq x0_1 x1_1 0 x8_1 (l0.length : Int) x208001_1 = some (r1, r2, r3)) ∧ Aside0 (kq ≤ k) ∧ Aside0 (Kd.V (Kd.int .i64) 3 w' w.heap.size (fun k_ => ((P0_ k_ ∨ w.heap.size ≤ k_) ∧ k_ ≠ B) ∧ some k_ ≠ (v8 : Value).ownBlock ∧ some k_ ≠ (u208001 : Value).ownBlock ∧ k_ ≠ gb205 ∧ k_ ≠ gb207) v0 x0_1) ∧ Aside0 (Kd.R (Kd.int .i64) 3 w' w.heap.size (fun k_ => (w.heap.size ≤ k_ ∧ k_ ≠ B) ∧ some k_ ≠ (u208001 : Value).ownBlock) v8 x8_1) ∧ Aside0 (Kd.R (Kd.int .i64) 3 w' w.heap.size (fun k_ => (w.heap.size ≤ k_ ∧ k_ ≠ B) ∧ some k_ ≠ (v8 : Value).ownBlock) u208001 x208001_1) ∧ Aside0 (impl_LeastOfRank.MBX w' B (k + 1 - kq)) ∧ Aside0 (w'.heap[gb205]? = some (.cells #[.int .i64 0, (.slice none 0 0)] 34 (0, 0))) ∧ Aside0 (w'.heap[gb207]? = some (.cells #[.int .i64 (l0.length : Int), u208001] 34 (0, 0))) ∧ Aside0 (Below w.heap.size w w'))
   case atStart => exact ⟨(l0), (a1), (t210), (([] : List Int)), (.slice none 0 0), zq13, H', ⟨Nat.le_refl _⟩, ⟨zq150⟩, ⟨by (with_reducible repeat (first | apply Kd.R_alloc | apply Kd.R_drewN | apply Kd.R_drew)); exact Kd.R_mono HO212.out (fun _ hk => ⟨hk.1, zq176⟩)⟩, ⟨zq24⟩, ⟨⟨oB, NN, zq16, Nat.le_trans HNN.out (Nat.mul_le_mul_right _ zq114), HMP.out⟩⟩, ⟨zq95⟩, ⟨zq94⟩, ⟨zq10⟩⟩
   case round =>
    clear H'
    try clear c1
    try clear p2
    try clear c4
    try clear c6
    try clear p6
    try clear c7
    try clear c11
    try clear hcz12_0
    try clear hcz12_1
    try clear hfz12_0
    try clear hfz12_1
    obtain ⟨x0_1, x1_1, x8_1, x208001_1, u208001, rfl, HA, HK1, HO_0, HO_8, HO_208001, HMX, BK205, BK207, HB⟩ := hrel
    clear BKB HNN HMP
    obtain ⟨oB, NN, hB1_, hN1_, hB2_⟩ := HMX.out
    have BKB := am hB1_
    have HNN := am hN1_
    have HMP := am hB2_
    clear HMX hB1_ hN1_ hB2_
    cases gk with
    | zero => exact absurd HA.out (by simp [impl_LeastOfRank.l0])
    | succ k1 =>
     have H := HA.out
     clear HA
     simp only [impl_LeastOfRank.l0] at H
     by_cases c15 : (x8_1.length : Int) > 0
     ·rw [if_pos c15] at H
      have c15b0 : decide (0 < (x8_1.length : Int)) = true := decide_eq_true c15
      have c15b1 : decide (0 < x8_1.length) = true := decide_eq_true zq62
      clear c15
      have H' := am H
      clear H
      obtain ⟨Ao16, co16, eo16⟩ := Kd.R_slice HO_8.out
      subst eo16
      go_wp2
      go_loopg [0, 1, 38] k1 (fun kq v0 v1 v38 w' => ∃ (x0_2 : List Int) (x1_2 : Int) (x38_2 : Int) (x208001_2 : List Int) (u208001 : Value), v1 = .int .i64 x1_2 ∧ v38 = .int .i64 x38_2 ∧ Aside0 (impl_LeastOfRank.l1 kq x0_2 x1_2 0 x8_1 (x8_1.length : Int) x38_2 (l0.length : Int) x208001_2 = some (r1, r2, r3)) ∧ Aside0 (kq ≤ k1) ∧ Aside0 (Kd.V (Kd.int .i64) 3 w' w.heap.size (fun k_ => ((P0_ k_ ∨ w.heap.size ≤ k_) ∧ k_ ≠ B) ∧ some k_ ≠ ((.slice Ao16 x8_1.length co16) : Value).ownBlock ∧ some k_ ≠ (u208001 : Value).ownBlock ∧ k_ ≠ gb205 ∧ k_ ≠ gb207) v0 x0_2) ∧ Aside0 (Kd.R (Kd.int .i64) 3 w' w.heap.size (fun k_ => (w.heap.size ≤ k_ ∧ k_ ≠ B) ∧ some k_ ≠ (u208001 : Value).ownBlock) (.slice Ao16 x8_1.length co16) x8_1) ∧ Aside0 (Kd.R (Kd.int .i64) 3 w' w.heap.size (fun k_ => (w.heap.size ≤ k_ ∧ k_ ≠ B) ∧ some k_ ≠ ((.slice Ao16 x8_1.length co16) : Value).ownBlock) u208001 x208001_2) ∧ Aside0 (impl_LeastOfRank.MBX w' B (k + 1 - kq)) ∧ Aside0 (w'.heap[gb205]? = some (.cells #[.int .i64 0, (.slice none 0 0)] 34 (0, 0))) ∧ Aside0 (w'.heap[gb207]? = some (.cells #[.int .i64 (l0.length : Int), u208001] 34 (0, 0))) ∧ Aside0 (Below w.heap.size w w'))
      case atStart => exact ⟨(x0_1), (x1_1), (0), (x208001_1), (u208001), zq13, zq13, H', ⟨Nat.le_refl _⟩, ⟨zq15⟩, ⟨by (with_reducible repeat (first | apply Kd.R_alloc | apply Kd.R_drewN | apply Kd.R_drew)); exact HO_8.out⟩, ⟨by (with_reducible repeat (first | apply Kd.R_alloc | apply Kd.R_drewN | apply Kd.R_drew)); exact HO_208001.out⟩, ⟨⟨oB, NN, zq16, Nat.le_trans HNN.out (Nat.mul_le_mul_right _ zq114), HMP.out⟩⟩, ⟨zq95⟩, ⟨zq94⟩, ⟨zq10⟩⟩
      case round =>
       clear H'
       try clear c1
       try clear p2
       try clear c4
       try clear c6
       try clear p6
       try clear c7
       try clear c11
       try clear c15
       try clear c15b0
       try clear c15b1
       try clear hcz12_0
       try clear hcz12_1
       try clear hfz12_0
       try clear hfz12_1
       try clear p2
       try clear p6
       obtain ⟨x0_2, x1_2, x38_2, x208001_2, u208001, rfl, rfl, HA, HK2, HO_0, HO_36, HO_208001, HMX, BK205, BK207, HB⟩ := hrel
       clear BKB HNN HMP
       obtain ⟨oB, NN, hB1_, hN1_, hB2_⟩ := HMX.out
       have BKB := am hB1_
       have HNN := am hN1_
       have HMP := am hB2_
       clear HMX hB1_ hN1_ hB2_
       cases gk with
       | zero => exact absurd HA.out (by simp [impl_LeastOfRank.l1])
       | succ k2 =>
        have H := HA.out
        clear HA
        simp only [impl_LeastOfRank.l1] at H
        by_cases c17 : x38_2 < (x8_1.length : Int)
        ·rw [if_pos c17] at H
         have c17b0 : decide (x38_2 < (x8_1.length : Int)) = true := decide_eq_true c17
         clear c17
         by_cases c18 : 0 ≤ x38_2
         ·rw [if_pos c18] at H
          have c18b0 : decide (0 ≤ x38_2) = true := decide_eq_true c18
          clear c18
          by_cases c19 : x38_2 < (x8_1.length : Int)
          ·rw [if_pos c19] at H
           have c19b0 : decide (x38_2 < (x8_1.length : Int)) = true := decide_eq_true c19
           clear c19
           obtain ⟨t217, A20, H⟩ := zS H
           (try dsimp only at H)
           obtain ⟨t220, A21, H⟩ := zS H
           (try dsimp only at H)
           by_cases c22 : x1_2 ≥ t220
           ·rw [if_pos c22] at H
            have c22b0 : decide (t220 ≤ x1_2) = true := decide_eq_true c22
            clear c22
            have H' := am H
            clear H
            have p216 : 0 ≤ (x38_2 : Int) := of_decide_eq_true zq9
            have q216 : x38_2 < (x8_1.length : Int) := of_decide_eq_true zq9
            obtain ⟨ad216, e216, hx216_0⟩ := Kd.at_int (Kd.R_reads' HO_36.out).2.2 x38_2 p216 q216
            cases e216
            replace p216 := eq_true p216
            replace q216 := eq_true q216
            obtain ⟨Ao23, co23, eo23⟩ := Kd.V_slice HO_0.out
            subst eo23
            go_wp2_with (first | ((with_reducible refine gate_callee (f := 37) rfl ?_); refine goesL_ (some 44) rfl rfl Try.func37 zq26 rfl #[.slice Ao23 x0_2.length co23, .int .i64 (rd x8_1 x38_2)] rfl zq1 ?_; (with_reducible refine (impl_exchanged.calls _ _ x0_2 (rd x8_1 x38_2) t217 _ ?side1 ?side2 A20.out).mono ?_); (case side1 => exact zq39); (case side2 => exact zq102); rintro e w24 ⟨v218, rfl, ho0, hb⟩; refine ⟨_, rfl, ?_⟩; have n0_ := am (Kd.V_elder' zq15 (Kd.R_base ho0) hb); have n1_ := am (Kd.R_elder' (pRq5 HO_36) (Kd.R_base ho0) hb); have n2_ := am (Kd.R_elder' (pRq5 HO_208001) (Kd.R_base ho0) hb); have n3_ := am (Kd.R_lower (Kd.R_new' (Kd.R_new' (impl_LeastOfRank.newM ho0 (below_size (pBq5 HB)) (blk_lt (g := B) (o := oB) zq16)) (Kd.R_lt (pRq5 HO_36))) (Kd.R_lt (pRq5 HO_208001))) (below_size (pBq5 HB))); have n4_ := am (blk_below (pKq5 BK205) hb); have nB_ := am (blk_below (g := B) (o := oB) zq23 hb); have n5_ := am (blk_below (pKq5 BK207) hb); have n6_ := am (below_step (pBq5 HB) hb); clear HO_0; clear HO_36; clear HO_208001; clear BK205 BKB; clear BK207; clear HB; have HO_0 := n0_; have HO_36 := n1_; have HO_208001 := n2_; have HO219 := n3_; have BK205 := n4_; have BKB := nB_; clear nB_; have BK207 := n5_; have HB := n6_; clear n0_ n1_ n2_ n3_ n4_ n5_ n6_; (try clear hb); obtain ⟨Ao25, co25, eo25⟩ := Kd.R_slice HO219.out; subst eo25) | ((with_reducible refine gate_callee (f := 32) rfl ?_); refine goesL_ (some 47) rfl rfl Try.func32 zq26 rfl #[.map (some B), .slice Ao25 t217.length co25] rfl zq1 ?_; (with_reducible refine (impl_counter_count.callsN B NN _ _ t217 t220 w _ ?sB HBB.out ?sM ?sN ?side1 ?side2 A21.out).mono ?_); (case sB => exact (pBq5 HB)); (case sM => exact HMP.out _ zq16); (case sN => exact zq129); (case side1 => exact Kd.C_kept_own (pRq5 HO219) (fun k_ hk_ e_ => absurd e_ zq31)); (case side2 => exact (Kd.R_reads' HO219.out).2.1); rintro e w26 ⟨rfl, hm_, hbB_, hk_⟩; refine ⟨_, rfl, ?_⟩; replace HO_0 := am (Kd.V_kept zq15 hk_ (fun k_ hk_ e_ => absurd e_ zq31)); replace HO_36 := am (Kd.R_kept (pRq5 HO_36) hk_ (fun k_ hk_ e_ => absurd e_ zq31)); replace HO_208001 := am (Kd.R_kept (pRq5 HO_208001) hk_ (fun k_ hk_ e_ => absurd e_ zq31)); replace HO219 := am (Kd.R_kept (pRq5 HO219) hk_ (fun k_ hk_ e_ => absurd e_ zq31)); replace BK205 := am (blk_kept (g := gb205) (o := .cells #[.int .i64 0, .slice none 0 0] 34 (0, 0))  (pKq5 BK205) hk_ (fun e_ => NBB_205.out e_.symm)); replace BK207 := am (blk_kept (g := gb207) (o := .cells #[.int .i64 (l0.length : Int), u208001] 34 (0, 0))  (pKq5 BK207) hk_ (fun e_ => NBB_207.out e_.symm)); replace HB := am (hbB_); obtain ⟨oB, NN, hB1_, hN1_, hB2_⟩ := impl_LeastOfRank.after hm_ HNN.out; clear BKB HMP HNN; have BKB := am hB1_; have HNN := am hN1_; have HMP := am hB2_; clear hB1_ hN1_ hB2_ hm_ hbB_ hk_))
            go_roundg k2
            case measure => have := HK1.out; have := HK2.out; omega
            case rel => exact ⟨(x0_2), (wrap64 (x1_2 - t220)), (wrap64 (x38_2 + 1)), (x208001_2), (u208001), zq13, zq13, H', ⟨zq76⟩, ⟨by (with_reducible repeat (first | apply Kd.V_alloc | apply Kd.V_drewN | apply Kd.V_drew)); exact Kd.V_mono HO_0.out (fun _ hk => ⟨hk.1.1, ⟨hk.1.2.1, ⟨hk.1.2.2.1, ⟨hk.1.2.2.2.1, hk.1.2.2.2.2⟩⟩⟩⟩)⟩, ⟨by (with_reducible repeat (first | apply Kd.R_alloc | apply Kd.R_drewN | apply Kd.R_drew)); exact Kd.R_mono HO_36.out (fun _ hk => ⟨hk.1.1, hk.1.2⟩)⟩, ⟨by (with_reducible repeat (first | apply Kd.R_alloc | apply Kd.R_drewN | apply Kd.R_drew)); exact Kd.R_mono HO_208001.out (fun _ hk => ⟨hk.1.1, hk.1.2⟩)⟩, ⟨⟨oB, NN, zq16, Nat.le_trans HNN.out (Nat.mul_le_mul_right _ zq114), HMP.out⟩⟩, ⟨zq95⟩, ⟨zq94⟩, ⟨zq10⟩⟩
           ·rw [if_neg c22] at H
            have c22b0 : decide (t220 ≤ x1_2) = false := decide_eq_false c22
            clear c22
            by_cases c27 : x208001_2.length < 17592186044416
            ·rw [if_pos c27] at H
             have LMc27 := am c27
             clear c27
             obtain ⟨y221, hy221⟩ : ∃ y_ : List Int, y_ = (x208001_2 ++ [rd x8_1 x38_2]) := ⟨_, rfl⟩
             replace H : ((impl_LeastOfRank.ev fun k_ => impl_descents.f k_ t217).bind fun t224 => (impl_LeastOfRank.l0 k2 t217 x1_2 0 t224 (l0.length : Int) y221)) = some (r1, r2, r3) := by first | (rw [hy221]; exact zH) | exact zH
             have Ny221 := am hy221
             clear hy221
             replace H := Option.bind_eq_some_iff.mp H
             obtain ⟨t224, A280, H⟩ := H
             (try dsimp only at H)
             obtain ⟨ka28_, A280⟩ := impl_LeastOfRank.ev_some A280
             have A28 := am A280
             clear A280
             have H' := am H
             clear H
             have p216 : 0 ≤ (x38_2 : Int) := of_decide_eq_true zq9
             have q216 : x38_2 < (x8_1.length : Int) := of_decide_eq_true zq9
             obtain ⟨ad216, e216, hx216_0⟩ := Kd.at_int (Kd.R_reads' HO_36.out).2.2 x38_2 p216 q216
             cases e216
             replace p216 := eq_true p216
             replace q216 := eq_true q216
             obtain ⟨Ao29, co29, eo29⟩ := Kd.V_slice HO_0.out
             subst eo29
             go_wp2_with (first | ((with_reducible refine gate_callee (f := 37) rfl ?_); refine goesL_ (some 44) rfl rfl Try.func37 zq26 rfl #[.slice Ao29 x0_2.length co29, .int .i64 (rd x8_1 x38_2)] rfl zq1 ?_; (with_reducible refine (impl_exchanged.calls _ _ x0_2 (rd x8_1 x38_2) t217 _ ?side1 ?side2 A20.out).mono ?_); (case side1 => exact zq39); (case side2 => exact zq102); rintro e w30 ⟨v218, rfl, ho0, hb⟩; refine ⟨_, rfl, ?_⟩; have n0_ := am (Kd.V_elder' zq15 (Kd.R_base ho0) hb); have n1_ := am (Kd.R_elder' (pRq5 HO_36) (Kd.R_base ho0) hb); have n2_ := am (Kd.R_elder' (pRq5 HO_208001) (Kd.R_base ho0) hb); have n3_ := am (Kd.R_lower (Kd.R_new' (Kd.R_new' (impl_LeastOfRank.newM ho0 (below_size (pBq5 HB)) (blk_lt (g := B) (o := oB) zq16)) (Kd.R_lt (pRq5 HO_36))) (Kd.R_lt (pRq5 HO_208001))) (below_size (pBq5 HB))); have n4_ := am (blk_below (pKq5 BK205) hb); have nB_ := am (blk_below (g := B) (o := oB) zq23 hb); have n5_ := am (blk_below (pKq5 BK207) hb); have n6_ := am (below_step (pBq5 HB) hb); clear HO_0; clear HO_36; clear HO_208001; clear BK205 BKB; clear BK207; clear HB; have HO_0 := n0_; have HO_36 := n1_; have HO_208001 := n2_; have HO219 := n3_; have BK205 := n4_; have BKB := nB_; clear nB_; have BK207 := n5_; have HB := n6_; clear n0_ n1_ n2_ n3_ n4_ n5_ n6_; (try clear hb); obtain ⟨Ao31, co31, eo31⟩ := Kd.R_slice HO219.out; subst eo31) | ((with_reducible refine gate_callee (f := 32) rfl ?_); refine goesL_ (some 47) rfl rfl Try.func32 zq26 rfl #[.map (some B), .slice Ao31 t217.length co31] rfl zq1 ?_; (with_reducible refine (impl_counter_count.callsN B NN _ _ t217 t220 w _ ?sB HBB.out ?sM ?sN ?side1 ?side2 A21.out).mono ?_); (case sB => exact (pBq5 HB)); (case sM => exact HMP.out _ zq16); (case sN => exact zq129); (case side1 => exact Kd.C_kept_own (pRq5 HO219) (fun k_ hk_ e_ => absurd e_ zq31)); (case side2 => exact (Kd.R_reads' HO219.out).2.1); rintro e w32 ⟨rfl, hm_, hbB_, hk_⟩; refine ⟨_, rfl, ?_⟩; replace HO_0 := am (Kd.V_kept zq15 hk_ (fun k_ hk_ e_ => absurd e_ zq31)); replace HO_36 := am (Kd.R_kept (pRq5 HO_36) hk_ (fun k_ hk_ e_ => absurd e_ zq31)); replace HO_208001 := am (Kd.R_kept (pRq5 HO_208001) hk_ (fun k_ hk_ e_ => absurd e_ zq31)); replace HO219 := am (Kd.R_kept (pRq5 HO219) hk_ (fun k_ hk_ e_ => absurd e_ zq31)); replace BK205 := am (blk_kept (g := gb205) (o := .cells #[.int .i64 0, .slice none 0 0] 34 (0, 0))  (pKq5 BK205) hk_ (fun e_ => NBB_205.out e_.symm)); replace BK207 := am (blk_kept (g := gb207) (o := .cells #[.int .i64 (l0.length : Int), u208001] 34 (0, 0))  (pKq5 BK207) hk_ (fun e_ => NBB_207.out e_.symm)); replace HB := am (hbB_); obtain ⟨oB, NN, hB1_, hN1_, hB2_⟩ := impl_LeastOfRank.after hm_ HNN.out; clear BKB HMP HNN; have BKB := am hB1_; have HNN := am hN1_; have HMP := am hB2_; clear hB1_ hN1_ hB2_ hm_ hbB_ hk_; have hnb33 := NB207_205.out; have hnc33 := NB205_207.out; have hcz34_0 : w32.cell? ⟨gb207, 0, none⟩ = some (.int .i64 (l0.length : Int)) := (blk_cell BK207.out 0).trans rfl; have hcz34_1 : w32.cell? ⟨gb207, 1, none⟩ = some (u208001) := (blk_cell BK207.out 1).trans rfl; have hfz34_0 := blk_frozen BK207.out 0; have hfz34_1 := blk_frozen BK207.out 1) | ((with_reducible refine gate_builtin (b := .append) (xs := #[.tmp 55, .tmp 57]) rfl ?_); at_builtin; refine Kd.R_append (Kd.int .i64) (w0 := w) w.heap.size rfl (.tmp 55) (.tmp 57) 24 3 (.int .i64 0) 8 rfl Try.underlying24 info3 rfl zq36 zq62 u208001 x208001_2 (rd x8_1 x38_2) [.int .i64 (rd x8_1 x38_2)] (fun k_ => (w.heap.size ≤ k_ ∧ k_ ≠ B) ∧ some k_ ≠ (.slice (some ad216) x8_1.length co16 : Value).ownBlock ∧ some k_ ≠ (.slice Ao31 t217.length co31 : Value).ownBlock) (fun _ => False) rfl rfl ?aP (fun _ hk => hk.elim) ?aF ?aO ?aB ?aS ?aL ?_; (case aP => exact rfl); (case aB => exact (pBq5 HB)); (case aF => exact (fun k_ hk => ⟨⟨(Nat.le_trans (below_size (pBq5 HB)) hk), (fun e_ => by have h1_ := blk_lt (g := B) (o := oB) zq16; rw [e_] at hk; omega)⟩, Kd.fresh' (Kd.R_lt (pRq5 HO_36)) k_ hk, Kd.fresh' (Kd.R_lt (pRq5 HO219)) k_ hk⟩)); (case aO => exact (by (with_reducible repeat (first | apply Kd.R_alloc | apply Kd.R_drewN | apply Kd.R_drew)); exact Kd.R_mono HO_208001.out (fun _ hk => ⟨hk.1.1, ⟨hk.1.2, hk.2⟩⟩))); (case aS => exact (below_size (pBq5 HB))); (case aL => have := LMc27.out; omega); intro v222 w35 ho hb hg hat; rw [← Ny221.out] at ho; have n0_ := am (Kd.V_afterv (ok := (fun k_ => ((P0_ k_ ∨ w.heap.size ≤ k_) ∧ k_ ≠ B) ∧ some k_ ≠ (.slice (some ad216) x8_1.length co16 : Value).ownBlock ∧ some k_ ≠ (.slice Ao31 t217.length co31 : Value).ownBlock ∧ k_ ≠ gb205 ∧ k_ ≠ gb207)) (by (with_reducible repeat (first | apply Kd.V_alloc | apply Kd.V_drewN | apply Kd.V_drew)); exact Kd.V_mono HO_0.out (fun _ hk => ⟨⟨hk.1.1, ⟨hk.1.2.1, ⟨hk.2, ⟨hk.1.2.2.2.1, hk.1.2.2.2.2⟩⟩⟩⟩, hk.1.2.2.1⟩)) hg hat); have n1_ := am (Kd.R_after (ok := (fun k_ => (w.heap.size ≤ k_ ∧ k_ ≠ B) ∧ some k_ ≠ (.slice Ao31 t217.length co31 : Value).ownBlock)) (by (with_reducible repeat (first | apply Kd.R_alloc | apply Kd.R_drewN | apply Kd.R_drew)); exact Kd.R_mono HO_36.out (fun _ hk => ⟨⟨hk.1.1, hk.2⟩, hk.1.2⟩)) hg hat); have n2_ := am (blk_grown (g := gb205) (o := .cells #[.int .i64 0, .slice none 0 0] 34 (0, 0)) (pKq5 BK205) hg (Kd.R_ne HO_208001.out BK205.out zq36)); have nB_ := am (blk_grown (g := B) (o := oB) zq23 hg (fun e_ => by have h_ := (HO_208001.out).1 B e_.symm; first | exact absurd rfl (h_.1.1.1.1.1.2) | exact absurd rfl (h_.1.1.1.1.2) | exact absurd rfl (h_.1.1.1.2) | exact absurd rfl (h_.1.1.2) | exact absurd rfl (h_.1.2) | exact absurd rfl (h_.2))); have n3_ := am (blk_grown (g := gb207) (o := .cells #[.int .i64 (l0.length : Int), u208001] 34 (0, 0)) (pKq5 BK207) hg (Kd.R_ne HO_208001.out BK207.out zq36)); have n4_ := am (Kd.R_after (ok := (fun k_ => (w.heap.size ≤ k_ ∧ k_ ≠ B) ∧ some k_ ≠ (.slice (some ad216) x8_1.length co16 : Value).ownBlock)) (by (with_reducible repeat (first | apply Kd.R_alloc | apply Kd.R_drewN | apply Kd.R_drew)); exact Kd.R_mono HO219.out (fun _ hk => ⟨⟨hk.1.1.1, hk.1.2⟩, hk.2⟩)) hg hat); have n5_ := am (hb); have n6_ := am (ho); clear HO_0; clear HO_36; clear BK205 BKB; clear BK207; clear HO219; clear HB; clear HO_208001; have HO_0 := n0_; have HO_36 := n1_; have BK205 := n2_; have BKB := nB_; clear nB_; have BK207 := n3_; have HO219 := n4_; have HB := n5_; have HO223 := n6_; clear n0_ n1_ n2_ n3_ n4_ n5_ n6_; clear ho hb hg hat; obtain ⟨Ao36, co36, eo36⟩ := Kd.R_slice HO223.out; subst eo36; have hcz37_0 : w35.cell? ⟨gb207, 0, none⟩ = some (.int .i64 (l0.length : Int)) := (blk_cell BK207.out 0).trans rfl; have hcz37_1 : w35.cell? ⟨gb207, 1, none⟩ = some (u208001) := (blk_cell BK207.out 1).trans rfl; have hfz37_0 := blk_frozen BK207.out 0; have hfz37_1 := blk_frozen BK207.out 1) | ((with_reducible refine gate_callee (f := 43) rfl ?_); refine goesL_ (some 35) rfl rfl Try.func43 zq26 rfl #[.slice Ao31 t217.length co31] rfl zq1 ?_; (with_reducible refine (impl_descents.calls _ _ _ t217 t224 _ ?side1 ?side2 A28.out).mono ?_); (case side1 => refine (Kd.R_reads' (e := 3) (base := w.heap.size) (ok := fun k_ => (((w.heap.size ≤ k_ ∧ k_ ≠ B) ∧ some k_ ≠ (.slice (some ad216) x8_1.length co16 : Value).ownBlock) ∧ some k_ ≠ (.slice Ao36 y221.length co36 : Value).ownBlock)) (n := t217.length) (c := co31) ?_).2.2; exact zq90); (case side2 => exact (Kd.R_reads' HO219.out).2.1); rintro e w38 ⟨v225, rfl, ho0, hb⟩; refine ⟨_, rfl, ?_⟩; have n0_ := am (Kd.V_elder' (by (with_reducible repeat (first | apply Kd.V_alloc | apply Kd.V_drewN | apply Kd.V_drew)); exact (Kd.V_mono (Kd.V_far (p := ⟨gb207, 1, none⟩) (Kd.V_mono HO_0.out (fun k_ hk => (⟨hk, hk.1.2.2.2.2⟩ : _ ∧ k_ ≠ gb207))) (fun _ hk => hk.2) (.slice Ao36 y221.length co36)) (fun _ h_ => h_.1))) (Kd.R_base ho0) hb); have n1_ := am (Kd.R_elder' zq134 (Kd.R_base ho0) hb); have n2_ := am (Kd.R_elder' zq90 (Kd.R_base ho0) hb); have n3_ := am (Kd.R_elder' zq135 (Kd.R_base ho0) hb); have n4_ := am (Kd.R_lower (Kd.R_new' (Kd.R_new' (Kd.R_new' (impl_LeastOfRank.newM ho0 (below_size (pBq5 HB)) (blk_lt (g := B) (o := oB) zq16)) (Kd.R_lt zq134)) (Kd.R_lt zq90)) (Kd.R_lt zq135)) (below_size (pBq5 HB))); have n5_ := am (blk_below (g := gb205) (o := .cells #[.int .i64 0, .slice none 0 0] 34 (0, 0)) (by (with_reducible repeat (first | refine blk_drewN ?_ _ | refine blk_drew ?_ | refine blk_alloc ?_ _)); refine blk_far ?_ NB205_207.out _; (with_reducible repeat (first | refine blk_drewN ?_ _ | refine blk_drew ?_ | refine blk_alloc ?_ _)); exact BK205.out) hb); have nB_ := am (blk_below (g := B) (o := oB) (by (with_reducible repeat (first | refine blk_drewN ?_ _ | refine blk_drew ?_ | refine blk_alloc ?_ _)); refine impl_LeastOfRank.farB ?_ NBB_207.out _; (with_reducible repeat (first | refine blk_drewN ?_ _ | refine blk_drew ?_ | refine blk_alloc ?_ _)); exact BKB.out) hb); have n6_ := am (blk_below (g := gb207) (o := .cells #[.int .i64 (l0.length : Int), .slice Ao36 y221.length co36] 34 (0, 0)) (by (with_reducible repeat (first | refine blk_drewN ?_ _ | refine blk_drew ?_ | refine blk_alloc ?_ _)); refine blk_put (cs := #[.int .i64 (l0.length : Int), u208001]) ?_ 1 _ rfl; (with_reducible repeat (first | refine blk_drewN ?_ _ | refine blk_drew ?_ | refine blk_alloc ?_ _)); exact BK207.out) hb); have n7_ := am (below_step (pBq5 HB) hb); clear HO_0; clear HO_36; clear HO219; clear HO223; clear BK205 BKB; clear BK207; clear HB; have HO_0 := n0_; have HO_36 := n1_; have HO219 := n2_; have HO223 := n3_; have HO226 := n4_; have BK205 := n5_; have BKB := nB_; clear nB_; have BK207 := n6_; have HB := n7_; clear n0_ n1_ n2_ n3_ n4_ n5_ n6_ n7_; (try clear hb hk)))
             go_roundg k2
             case measure => have := HK1.out; have := HK2.out; omega
             case rel => exact ⟨(t217), (x1_2), (t224), (y221), (.slice Ao36 y221.length co36), zq13, H', ⟨zq76⟩, ⟨Kd.V_mono (Kd.R_V (by (with_reducible repeat (first | apply Kd.R_alloc | apply Kd.R_drewN | apply Kd.R_drew)); exact (Kd.R_types (Kd.R_types HO219.out BK205.out zq36) BK207.out zq36))) (fun k_ hk => by exact ⟨⟨.inr (hk.1.1.1.1.1).1, (hk.1.1.1.1.1).2⟩, ⟨hk.1.1.2, ⟨hk.1.1.1.2, ⟨hk.1.2, hk.2⟩⟩⟩⟩)⟩, ⟨by (with_reducible repeat (first | apply Kd.R_alloc | apply Kd.R_drewN | apply Kd.R_drew)); exact Kd.R_mono HO226.out (fun _ hk => ⟨hk.1.1.1.1, hk.2⟩)⟩, ⟨by (with_reducible repeat (first | apply Kd.R_alloc | apply Kd.R_drewN | apply Kd.R_drew)); exact Kd.R_mono HO223.out (fun _ hk => ⟨hk.1.1, hk.2⟩)⟩, ⟨⟨oB, NN, zq16, Nat.le_trans HNN.out (Nat.mul_le_mul_right _ zq114), HMP.out⟩⟩, ⟨zq95⟩, ⟨zq94⟩, ⟨zq10⟩⟩
            ·rw [if_neg c27] at H
             exact absurd H zq66
          ·rw [if_neg c19] at H
           exact absurd H zq66
         ·rw [if_neg c18] at H
          exact absurd H zq66
        ·rw [if_neg c17] at H
         have c17b0 : decide (x38_2 < (x8_1.length : Int)) = false := decide_eq_false c17
         clear c17
         replace H := Option.bind_eq_some_iff.mp H
         obtain ⟨t213, A390, H⟩ := H
         (try dsimp only at H)
         obtain ⟨ka39_, A390⟩ := impl_LeastOfRank.ev_some A390
         have A39 := am A390
         clear A390
         have H' := am H
         clear H
         obtain ⟨Ao40, co40, eo40⟩ := Kd.V_slice HO_0.out
         subst eo40
         go_wp2_with (first | ((with_reducible refine gate_callee (f := 43) rfl ?_); refine goesL_ (some 35) rfl rfl Try.func43 zq26 rfl #[.slice Ao40 x0_2.length co40] rfl zq1 ?_; (with_reducible refine (impl_descents.calls _ _ _ x0_2 t213 _ ?side1 ?side2 A39.out).mono ?_); (case side1 => exact zq39); (case side2 => exact zq102); rintro e w41 ⟨v214, rfl, ho0, hb⟩; refine ⟨_, rfl, ?_⟩; have n0_ := am (Kd.V_elder' zq15 (Kd.R_base ho0) hb); have n1_ := am (Kd.R_elder' (pRq5 HO_36) (Kd.R_base ho0) hb); have n2_ := am (Kd.R_elder' (pRq5 HO_208001) (Kd.R_base ho0) hb); have n3_ := am (Kd.R_lower (Kd.R_new' (Kd.R_new' (impl_LeastOfRank.newM ho0 (below_size (pBq5 HB)) (blk_lt (g := B) (o := oB) zq16)) (Kd.R_lt (pRq5 HO_36))) (Kd.R_lt (pRq5 HO_208001))) (below_size (pBq5 HB))); have n4_ := am (blk_below (pKq5 BK205) hb); have nB_ := am (blk_below (g := B) (o := oB) zq23 hb); have n5_ := am (blk_below (pKq5 BK207) hb); have n6_ := am (below_step (pBq5 HB) hb); clear HO_0; clear HO_36; clear HO_208001; clear BK205 BKB; clear BK207; clear HB; have HO_0 := n0_; have HO_36 := n1_; have HO_208001 := n2_; have HO215 := n3_; have BK205 := n4_; have BKB := nB_; clear nB_; have BK207 := n5_; have HB := n6_; clear n0_ n1_ n2_ n3_ n4_ n5_ n6_; (try clear hb)))
         go_roundg k2
         case measure => have := HK1.out; have := HK2.out; omega
         case rel => exact ⟨(x0_2), (x1_2), (t213), (x208001_2), (u208001), zq13, H', ⟨zq76⟩, ⟨by (with_reducible repeat (first | apply Kd.V_alloc | apply Kd.V_drewN | apply Kd.V_drew)); exact Kd.V_mono HO_0.out (fun _ hk => ⟨hk.1.1, ⟨hk.2, ⟨hk.1.2.2.1, ⟨hk.1.2.2.2.1, hk.1.2.2.2.2⟩⟩⟩⟩)⟩, ⟨by (with_reducible repeat (first | apply Kd.R_alloc | apply Kd.R_drewN | apply Kd.R_drew)); exact Kd.R_mono HO215.out (fun _ hk => ⟨hk.1.1.1, hk.2⟩)⟩, ⟨by (with_reducible repeat (first | apply Kd.R_alloc | apply Kd.R_drewN | apply Kd.R_drew)); exact Kd.R_mono HO_208001.out (fun _ hk => ⟨hk.1.1, hk.2⟩)⟩, ⟨⟨oB, NN, zq16, Nat.le_trans HNN.out (Nat.mul_le_mul_right _ zq114), HMP.out⟩⟩, ⟨zq95⟩, ⟨zq94⟩, ⟨zq10⟩⟩
     ·rw [if_neg c15] at H
      have c15b0 : decide (0 < (x8_1.length : Int)) = false := decide_eq_false c15
      have c15b1 : decide (0 < x8_1.length) = false := decide_eq_false zq62
      clear c15
      simp only [Option.some.injEq, Prod.mk.injEq] at H
      obtain ⟨rfl, rfl, rfl⟩ := H
      obtain ⟨Ao42, co42, eo42⟩ := Kd.R_slice HO_8.out
      subst eo42
      have hnb43 := NB207_205.out
      have hnc43 := NB205_207.out
      have hcz44_0 : wr.cell? ⟨gb207, 0, none⟩ = some (.int .i64 (l0.length : Int)) := (blk_cell BK207.out 0).trans rfl
      have hcz44_1 : wr.cell? ⟨gb207, 1, none⟩ = some (u208001) := (blk_cell BK207.out 1).trans rfl
      have hfz44_0 := blk_frozen BK207.out 0
      have hfz44_1 := blk_frozen BK207.out 1
      have hcz45_0 : wr.cell? ⟨gb205, 0, none⟩ = some (.int .i64 0) := (blk_cell BK205.out 0).trans rfl
      have hcz45_1 : wr.cell? ⟨gb205, 1, none⟩ = some (.slice none 0 0) := (blk_cell BK205.out 1).trans rfl
      have hfz45_0 := blk_frozen BK205.out 0
      have hfz45_1 := blk_frozen BK205.out 1
      obtain ⟨Ao46, co46, eo46⟩ := Kd.R_slice HO_208001.out
      subst eo46
      go_wp2
      refine bodyPost_ret (results_ct rfl _ _ gb205 34 #[.int .i64 (l0.length : Int), .slice Ao46 x208001_1.length co46] (0, 0) _ rfl (by (with_reducible repeat (first | refine blk_drewN ?_ _ | refine blk_drew ?_ | refine blk_alloc ?_ _)); refine blk_put (cs := #[.int .i64 (l0.length : Int), .slice none 0 0]) ?_ 1 _ rfl; (with_reducible repeat (first | refine blk_drewN ?_ _ | refine blk_drew ?_ | refine blk_alloc ?_ _)); refine blk_put (cs := #[.int .i64 0, .slice none 0 0]) ?_ 0 _ rfl; (with_reducible repeat (first | refine blk_drewN ?_ _ | refine blk_drew ?_ | refine blk_alloc ?_ _)); exact BK205.out) Try.underlying34 rfl zq26) rfl ?_
      exact ⟨_, zq11, by (with_reducible repeat (first | apply Kd.R_alloc | apply Kd.R_drewN | apply Kd.R_drew)); exact Kd.R_mono (Kd.R_far (p := ⟨gb205, 1, none⟩) (Kd.R_far (p := ⟨gb205, 0, none⟩) (Kd.R_types HO_208001.out BK205.out zq36) (fun _ hk => hk.2) (.int .i64 (l0.length : Int))) (fun _ hk => hk.2) (.slice Ao46 x208001_1.length co46)) (fun _ _ => trivial), zq10⟩
  ·replace c7 := Bool.eq_false_iff.mpr c7
   subst c7
   rw [if_neg (show ¬ (false = true) by decide)] at H
   simp only [Option.some.injEq, Prod.mk.injEq] at H
   obtain ⟨rfl, rfl, rfl⟩ := H
   go_enter Try.func17, Try.ntmps17
   go_wp2_with (first | ((with_reducible refine gate_dst (N := 4) rfl ?_); refine zE 4 (cs := #[.int .i64 0, .slice none 0 0]) 34 ?_; intro gb205 hg w47 hbox hb; have BK205 := am (hbox); have GW205 := am ((zq67 : w.heap.size ≤ gb205)); have GE205 := am ((zq67 : w.heap.size ≤ gb205)); replace HO0 := am (Kd.V_below (Kd.V_elderB zq38 gb205 (Nat.le_of_eq hg.symm)) hb); replace HB := am (below_step (pBq5 HB) hb); clear hb hbox hg) | ((with_reducible refine gate_callee (f := 31) rfl ?_); refine goesL_ (some 14) rfl rfl Try.func31 zq26 rfl #[.slice A0 l0.length c0] rfl zq1 ?_; (with_reducible refine (impl_isCounted.calls _ _ _ l0 true _ ?side1 ?side2 A3.out).mono ?_); (case side1 => exact zq33); (case side2 => exact zq143); rintro e w' ⟨rfl, ⟨nd, rfl⟩⟩; refine ⟨_, rfl, ?_⟩; (try (rw [drewN_self w47]; generalize hq_ : World.drewN w47 _ = w47; have n0_ : Aside0 (Kd.V (Kd.int .i64) 3 w47 w.heap.size (fun k_ => (P0_ k_ ∨ w.heap.size ≤ k_) ∧ k_ ≠ gb205) (.slice A0 l0.length c0) l0) := ⟨by rw [← hq_]; exact zq38⟩; have n1_ : Aside0 (w47.heap[gb205]? = some (.cells #[.int .i64 0, .slice none 0 0] 34 (0, 0))) := ⟨by rw [← hq_]; exact (pKq5 BK205)⟩; have n2_ : Aside0 (Below w.heap.size w w47) := ⟨zq167⟩; clear HO0 BK205 HB hq_; have HO0 := n0_; have BK205 := n1_; have HB := n2_; clear n0_ n1_ n2_))) | ((with_reducible refine gate_dst (N := 7) rfl ?_); (generalize hBd : w47.heap.size = B); refine zE 7 (cs := #[.int .i64 0, .slice none 0 0]) 34 ?_; intro gb207 hg w48 hbox hb; have q1_ := Kd.V_elderB HO0.out B (Nat.le_of_eq hBd); have q2_ := Kd.V_elderB (Kd.V_alloc q1_ (.map #[] 0)) gb207 (Nat.le_of_eq hg.symm); have q3_ := Kd.V_below q2_ hb; have n0_ := am (Kd.V_mono (ok' := fun k_ => (((P0_ k_ ∨ w.heap.size ≤ k_) ∧ k_ ≠ B) ∧ k_ ≠ gb205) ∧ k_ ≠ gb207) q3_ (fun k_ hk => ⟨⟨⟨hk.1.1.1, hk.1.2⟩, hk.1.1.2⟩, hk.2⟩)); clear q1_ q2_ q3_; have n1_ := am (blk_below (pKq5 BK205) hb); have n2_ := am (below_step (pBq5 HB) hb); have n3_ := am (hbox); have n4_ := am ((zq67 : w.heap.size ≤ gb207)); have n5_ := am ((zq67 : w.heap.size ≤ gb207)); have n6_ := am ((by rw [hg]; exact Nat.ne_of_lt (blk_lt (pKq5 BK205)) : gb205 ≠ gb207)); have n7_ := am ((by rw [hg]; exact Nat.ne_of_gt (blk_lt (pKq5 BK205)) : gb207 ≠ gb205)); have hMd_ := (impl_LeastOfRank.madeX w47); rw [hBd] at hMd_; obtain ⟨oB, NN, hB1_, hN1_, hB2_⟩ := hMd_; have hB3_ := blk_below (g := B) (o := oB) hB1_ hb; have BKB := am hB3_; have HNN := am hN1_; have HMP := am hB2_; have NBB_205 := am (show B ≠ gb205 from fun e_ => by have h_ := blk_lt BK205.out; omega); have NBB_207 := am (show B ≠ gb207 from fun e_ => by have h_ := blk_lt hB1_; omega); have HBB := am (show w.heap.size ≤ B from by have h_ := (HB.out).size; omega); clear hB1_ hN1_ hB2_ hB3_; clear HO0; clear BK205; clear HB; have HO0 := n0_; have BK205 := n1_; have HB := n2_; have BK207 := n3_; have GW207 := n4_; have GE207 := n5_; have NB205_207 := n6_; have NB207_205 := n7_; clear n0_ n1_ n2_ n3_ n4_ n5_ n6_ n7_; clear hb hbox hg hBd; have hnb49 := NB207_205.out; have hnc49 := NB205_207.out; have hcz50_0 : w48.cell? ⟨gb207, 0, none⟩ = some (.int .i64 0) := (blk_cell BK207.out 0).trans rfl; have hcz50_1 : w48.cell? ⟨gb207, 1, none⟩ = some (.slice none 0 0) := (blk_cell BK207.out 1).trans rfl; have hfz50_0 := blk_frozen BK207.out 0; have hfz50_1 := blk_frozen BK207.out 1) | ((with_reducible refine gate_callee (f := 32) rfl ?_); refine goesL_ (some 24) rfl rfl Try.func32 zq26 rfl #[.map (some B), .slice A0 l0.length c0] rfl zq1 ?_; (with_reducible refine (impl_counter_count.callsN B NN _ _ l0 t208 w _ ?sB HBB.out ?sM ?sN ?side1 ?side2 A5.out).mono ?_); (case sB => exact (pBq5 HB)); (case sM => exact HMP.out _ zq16); (case sN => exact zq129); (case side1 => exact Kd.C_kept_ownV zq50 (fun k_ hk_ e_ => absurd e_ zq31)); (case side2 => exact zq143); rintro e w51 ⟨rfl, hm_, hbB_, hk_⟩; refine ⟨_, rfl, ?_⟩; replace HO0 := am (Kd.V_kept zq50 hk_ (fun k_ hk_ e_ => absurd e_ zq31)); replace BK205 := am (blk_kept (g := gb205) (o := .cells #[.int .i64 0, .slice none 0 0] 34 (0, 0))  zq112 hk_ (fun e_ => NBB_205.out e_.symm)); replace BK207 := am (blk_kept (g := gb207) (o := .cells #[.int .i64 (l0.length : Int), .slice none 0 0] 34 (0, 0))  zq91 hk_ (fun e_ => NBB_207.out e_.symm)); replace HB := am (hbB_); obtain ⟨oB, NN, hB1_, hN1_, hB2_⟩ := impl_LeastOfRank.after hm_ HNN.out; clear BKB HMP HNN; have BKB := am hB1_; have HNN := am hN1_; have HMP := am hB2_; clear hB1_ hN1_ hB2_ hm_ hbB_ hk_; (try clear hk)) | ((with_reducible refine gate_callee (f := 36) rfl ?_); refine goesL_ (some 26) rfl rfl Try.func36 zq26 rfl #[.int .i64 a1, .int .i64 0, .int .i64 (wrap64 (t208 - 1))] rfl zq1 ?_; (with_reducible refine (impl_between.calls a1 0 (wrap64 (t208 - 1)) false _ A6.out).mono ?_); rintro e w' ⟨rfl, ⟨nd, rfl⟩⟩; refine ⟨_, rfl, ?_⟩; (try (rw [drewN_self w51]; generalize hq_ : World.drewN w51 _ = w51; have n0_ : Aside0 (Kd.V (Kd.int .i64) 3 w51 w.heap.size (fun k_ => ((P0_ k_ ∨ w.heap.size ≤ k_) ∧ k_ ≠ B) ∧ k_ ≠ gb205 ∧ k_ ≠ gb207) (.slice A0 l0.length c0) l0) := ⟨by rw [← hq_]; exact (by (with_reducible repeat (first | apply Kd.V_alloc | apply Kd.V_drewN | apply Kd.V_drew)); exact Kd.V_mono HO0.out (fun _ hk => ⟨hk.1.1, ⟨hk.1.2, hk.2⟩⟩))⟩; have n1_ : Aside0 (w51.heap[gb205]? = some (.cells #[.int .i64 0, .slice none 0 0] 34 (0, 0))) := ⟨by rw [← hq_]; exact (pKq5 BK205)⟩; have nB_ : Aside0 (w51.heap[B]? = some oB) := ⟨by rw [← hq_]; exact zq23⟩; have n2_ : Aside0 (w51.heap[gb207]? = some (.cells #[.int .i64 (l0.length : Int), .slice none 0 0] 34 (0, 0))) := ⟨by rw [← hq_]; exact (pKq5 BK207)⟩; have n3_ : Aside0 (Below w.heap.size w w51) := ⟨zq167⟩; clear HO0 BK205 BKB BK207 HB hq_; have HO0 := n0_; have BK205 := n1_; have BKB := nB_; clear nB_; have BK207 := n2_; have HB := n3_; clear n0_ n1_ n2_ n3_)); have hcz52_0 : w51.cell? ⟨gb205, 0, none⟩ = some (.int .i64 0) := (blk_cell BK205.out 0).trans rfl; have hcz52_1 : w51.cell? ⟨gb205, 1, none⟩ = some (.slice none 0 0) := (blk_cell BK205.out 1).trans rfl; have hfz52_0 := blk_frozen BK205.out 0; have hfz52_1 := blk_frozen BK205.out 1))
   refine bodyPost_ret (results_ct rfl _ _ gb205 34 #[.int .i64 0, .slice none 0 0] (0, 0) _ rfl zq97 Try.underlying34 rfl zq26) rfl ?_
   exact ⟨_, zq11, zq24, zq10⟩
 ·replace c4 := Bool.eq_false_iff.mpr c4
  subst c4
  rw [if_neg (show ¬ (false = true) by decide)] at H
  simp only [Option.some.injEq, Prod.mk.injEq] at H
  obtain ⟨rfl, rfl, rfl⟩ := H
  go_enter Try.func17, Try.ntmps17
  go_wp2_with (first | ((with_reducible refine gate_dst (N := 4) rfl ?_); refine zE 4 (cs := #[.int .i64 0, .slice none 0 0]) 34 ?_; intro gb205 hg w53 hbox hb; have BK205 := am (hbox); have GW205 := am ((zq67 : w.heap.size ≤ gb205)); have GE205 := am ((zq67 : w.heap.size ≤ gb205)); replace HO0 := am (Kd.V_below (Kd.V_elderB zq38 gb205 (Nat.le_of_eq hg.symm)) hb); replace HB := am (below_step (pBq5 HB) hb); clear hb hbox hg) | ((with_reducible refine gate_callee (f := 31) rfl ?_); refine goesL_ (some 14) rfl rfl Try.func31 zq26 rfl #[.slice A0 l0.length c0] rfl zq1 ?_; (with_reducible refine (impl_isCounted.calls _ _ _ l0 false _ ?side1 ?side2 A3.out).mono ?_); (case side1 => exact zq33); (case side2 => exact zq143); rintro e w' ⟨rfl, ⟨nd, rfl⟩⟩; refine ⟨_, rfl, ?_⟩; (try (rw [drewN_self w53]; generalize hq_ : World.drewN w53 _ = w53; have n0_ : Aside0 (Kd.V (Kd.int .i64) 3 w53 w.heap.size (fun k_ => (P0_ k_ ∨ w.heap.size ≤ k_) ∧ k_ ≠ gb205) (.slice A0 l0.length c0) l0) := ⟨by rw [← hq_]; exact zq38⟩; have n1_ : Aside0 (w53.heap[gb205]? = some (.cells #[.int .i64 0, .slice none 0 0] 34 (0, 0))) := ⟨by rw [← hq_]; exact (pKq5 BK205)⟩; have n2_ : Aside0 (Below w.heap.size w w53) := ⟨zq167⟩; clear HO0 BK205 HB hq_; have HO0 := n0_; have BK205 := n1_; have HB := n2_; clear n0_ n1_ n2_)); have hcz54_0 : w53.cell? ⟨gb205, 0, none⟩ = some (.int .i64 0) := (blk_cell BK205.out 0).trans rfl; have hcz54_1 : w53.cell? ⟨gb205, 1, none⟩ = some (.slice none 0 0) := (blk_cell BK205.out 1).trans rfl; have hfz54_0 := blk_frozen BK205.out 0; have hfz54_1 := blk_frozen BK205.out 1))
  refine bodyPost_ret (results_ct rfl _ _ gb205 34 #[.int .i64 0, .slice none 0 0] (0, 0) _ rfl zq97 Try.underlying34 rfl zq26) rfl ?_
  exact ⟨_, zq11, zq24, zq10⟩
noncomputable def impl_LeastOfRank.f (l0 : List Int) (a1 : Int) : Option (Int × List Int × Bool) := impl_LeastOfRank.g 200 l0 a1
theorem impl_LeastOfRank.calls (A0 : Option Addr) (c0 : Nat) (l0 : List Int) (a1 : Int) (r1 : Int) (r2 : List Int) (r3 : Bool) (w : World) (hr0 : Kd.C (Kd.int .i64) w A0 l0.length l0) (hc0 : l0.length ≤ c0) (h : impl_LeastOfRank.f l0 a1 = some (r1, r2, r3)) :
  Calls Try.prog 17 #[.slice A0 l0.length c0, .int .i64 a1] w fun e w' => ∃ v1_ : Value, e = .returned (.tuple #[.agg #[.int .i64 r1, v1_], .bool r3]) ∧ Kd.R (Kd.int .i64) 3 w' w.heap.size (fun _ => True) v1_ r2 ∧ Below w.heap.size w w' :=
 impl_LeastOfRank.calls_g 200 zq36 (fun k_ => k_ < w.heap.size) A0 c0 l0 a1 r1 r2 r3 w (Kd.V_mk hc0 (Kd.C_F (Kd.heap_int .i64) hr0)) h
/-! ### impl_least: function 44 -/
def impl_least.l0 : Nat → List Int → List Int → Int → List Int → Option (Int × List Int)
 | 0, _, _, _, _ => none
 | k + 1, x0, x4, x352000, x352001 => if (x4.length : Int) > 0 then (if 0 < (x4.length : Int) then (if x352001.length < 17592186044416 then ((impl_exchanged.f x0 (rd x4 0)).bind fun t360 => ((impl_descents.f k t360).bind fun t363 => (impl_least.l0 k t360 t363 x352000 (x352001 ++ [rd x4 0])))) else (none)) else (none)) else (some (x352000, x352001))
def impl_least.f (k : Nat) (l0 : List Int) : Option (Int × List Int) := (impl_descents.f k l0).bind fun t352 => (impl_least.l0 k l0 t352 (l0.length : Int) ([] : List Int))
theorem impl_least.mono_l : ∀ k, (∀ y0 y1 y2 y3, LeO (impl_least.l0 k y0 y1 y2 y3) (impl_least.l0 (k + 1) y0 y1 y2 y3))
 | 0 => fun _ _ _ _ r h => by simp [impl_least.l0] at h
 | k + 1 => by
  have ih0 := impl_least.mono_l k
  ·intro y0 y1 y2 y3
   unfold impl_least.l0
   repeat' first | (with_reducible first | exact ih0 _ _ _ _ | exact impl_descents.mono _ _ | exact LeO.refl _ | exact LeO.none _ | refine LeO.ite ?_ ?_ | refine LeO.bind ?_ (fun _ => ?_))
theorem impl_least.mono : ∀ a0 k, LeO (impl_least.f k a0) (impl_least.f (k + 1) a0) := by
 intro a0 k
 have ih0 := impl_least.mono_l k
 unfold impl_least.f
 repeat' first | (with_reducible first | exact ih0 _ _ _ _ | exact impl_descents.mono _ _ | exact LeO.refl _ | exact LeO.none _ | refine LeO.ite ?_ ?_ | refine LeO.bind ?_ (fun _ => ?_))
def impl_least.T5 : Bool × List (List Nat × List Nat) := (true, [([], []), ([0], [0]), ([], []), ([2], [2]), ([3], [3]), ([4], [4]), ([1, 5], [1, 5]), ([0, 1, 2, 3, 4, 5, 6], []), ([7, 6, 6, 0, 1, 2, 3, 4, 5, 6], [6, 7])])
def impl_least.B5 : List Nat := [0, 1, 0, 4, 12, 28, 63, 127, 255]
theorem impl_least.tab5 : rtab .any (opsOf Try.f44 5) = impl_least.T5 := by kernel_rfl
theorem impl_least.bits5 : waitsOk impl_least.T5.2 impl_least.B5 = true := by kernel_rfl
theorem impl_least.calls (k : Nat) (P0_ : Nat → Prop) (A0 : Option Addr) (c0 : Nat) (l0 : List Int) (r1 : Int) (r2 : List Int) (w : World) (hs0 : Kd.V (Kd.int .i64) 3 w w.heap.size (fun k_ => P0_ k_) (.slice A0 l0.length c0) l0) (h : impl_least.f k l0 = some (r1, r2)) :
  Calls Try.prog 44 #[.slice A0 l0.length c0] w fun e w' => ∃ v1_ : Value, e = .returned (.agg #[.int .i64 r1, v1_]) ∧ Kd.R (Kd.int .i64) 3 w' w.heap.size (fun k_ => (w.heap.size ≤ k_)) v1_ r2 ∧ Below w.heap.size w w' := by
 have hu34 := Try.underlying34
 have HO0 := am (show Kd.V (Kd.int .i64) 3 w w.heap.size (fun k_ => (P0_ k_ ∨ w.heap.size ≤ k_)) (.slice A0 l0.length c0) l0 from Kd.V_mono hs0 (fun k_ hk => .inl hk))
 have HB := am (Below.refl w.heap.size w)
 have H : ((impl_descents.f k l0).bind fun t352 => (impl_least.l0 k l0 t352 (l0.length : Int) ([] : List Int))) = some (r1, r2) := h
 clear h
 obtain ⟨t352, A2, H⟩ := zS H
 (try dsimp only at H)
 have H' := am H
 clear H
 go_enter Try.func44, Try.ntmps44
 go_wp2_with (first | ((with_reducible refine gate_dst (N := 2) rfl ?_); refine zE 2 (cs := #[.int .i64 0, .slice none 0 0]) 34 ?_; intro gb350 hg w3 hbox hb; have BK350 := am (hbox); have GW350 := am ((zq67 : w.heap.size ≤ gb350)); have GE350 := am ((zq67 : w.heap.size ≤ gb350)); replace HO0 := am (Kd.V_below (Kd.V_elderB zq38 gb350 (Nat.le_of_eq hg.symm)) hb); replace HB := am (below_step (pBq5 HB) hb); clear hb hbox hg) | ((with_reducible refine gate_dst (N := 3) rfl ?_); refine zE 3 (cs := #[.int .i64 0, .slice none 0 0]) 34 ?_; intro gb351 hg w4 hbox hb; have BK351 := am (hbox); have GW351 := am ((zq67 : w.heap.size ≤ gb351)); have GE351 := am ((zq67 : w.heap.size ≤ gb351)); have NB350_351 := am ((by rw [hg]; exact Nat.ne_of_lt (blk_lt (pKq5 BK350)) : gb350 ≠ gb351)); have NB351_350 := am ((by rw [hg]; exact Nat.ne_of_gt (blk_lt (pKq5 BK350)) : gb351 ≠ gb350)); replace HO0 := am (Kd.V_below (Kd.V_elderB zq38 gb351 (Nat.le_of_eq hg.symm)) hb); replace BK350 := am (blk_below (pKq5 BK350) hb); replace HB := am (below_step (pBq5 HB) hb); clear hb hbox hg; have hnb5 := NB351_350.out; have hnc5 := NB350_351.out; have hcz6_0 : w4.cell? ⟨gb351, 0, none⟩ = some (.int .i64 0) := (blk_cell BK351.out 0).trans rfl; have hcz6_1 : w4.cell? ⟨gb351, 1, none⟩ = some (.slice none 0 0) := (blk_cell BK351.out 1).trans rfl; have hfz6_0 := blk_frozen BK351.out 0; have hfz6_1 := blk_frozen BK351.out 1) | ((with_reducible refine gate_callee (f := 43) rfl ?_); refine goesL_ (some 9) rfl rfl Try.func43 zq26 rfl #[.slice A0 l0.length c0] rfl zq1 ?_; (with_reducible refine (impl_descents.calls k _ _ l0 t352 _ ?side1 ?side2 A2.out).mono ?_); (case side1 => refine (Kd.V_reads' (e := 3) (base := w.heap.size) (ok := fun k_ => (((P0_ k_ ∨ w.heap.size ≤ k_) ∧ k_ ≠ gb350) ∧ k_ ≠ gb351)) (n := l0.length) (c := c0) ?_).2.2; exact zq117); (case side2 => exact zq143); rintro e w7 ⟨v353, rfl, ho0, hb⟩; refine ⟨_, rfl, ?_⟩; have HO354 := am (Kd.R_lower (Kd.R_newM (M := fun k_ => (w.heap.size ≤ k_)) ho0 (below_size (pBq5 HB)) (fun k_ h_ => h_)) (below_size (pBq5 HB))); replace HO0 := am (Kd.V_elder' zq117 (Kd.R_base ho0) hb); replace BK350 := am (blk_below (g := gb350) (o := .cells #[.int .i64 0, .slice none 0 0] 34 (0, 0)) (by (with_reducible repeat (first | refine blk_drewN ?_ _ | refine blk_drew ?_ | refine blk_alloc ?_ _)); refine blk_far ?_ NB350_351.out _; (with_reducible repeat (first | refine blk_drewN ?_ _ | refine blk_drew ?_ | refine blk_alloc ?_ _)); refine blk_far ?_ NB350_351.out _; (with_reducible repeat (first | refine blk_drewN ?_ _ | refine blk_drew ?_ | refine blk_alloc ?_ _)); exact BK350.out) hb); replace BK351 := am (blk_below (g := gb351) (o := .cells #[.int .i64 (l0.length : Int), .slice none 0 0] 34 (0, 0)) (by (with_reducible repeat (first | refine blk_drewN ?_ _ | refine blk_drew ?_ | refine blk_alloc ?_ _)); refine blk_put (cs := #[.int .i64 (l0.length : Int), .slice none 0 0]) ?_ 1 _ rfl; (with_reducible repeat (first | refine blk_drewN ?_ _ | refine blk_drew ?_ | refine blk_alloc ?_ _)); refine blk_put (cs := #[.int .i64 0, .slice none 0 0]) ?_ 0 _ rfl; (with_reducible repeat (first | refine blk_drewN ?_ _ | refine blk_drew ?_ | refine blk_alloc ?_ _)); exact BK351.out) hb); replace HB := am (below_step (pBq5 HB) hb); (try clear hb hk ho0)))
 go_loopg [0, 4] k (fun kq v0 v4 w' => ∃ (x0_1 : List Int) (x4_1 : List Int) (x352001_1 : List Int) (u352001 : Value), Aside0 (impl_least.l0 kq x0_1 x4_1 (l0.length : Int) x352001_1 = some (r1, r2)) ∧ Aside0 (kq ≤ k) ∧ Aside0 (Kd.V (Kd.int .i64) 3 w' w.heap.size (fun k_ => (P0_ k_ ∨ w.heap.size ≤ k_) ∧ some k_ ≠ (v4 : Value).ownBlock ∧ some k_ ≠ (u352001 : Value).ownBlock ∧ k_ ≠ gb350 ∧ k_ ≠ gb351) v0 x0_1) ∧ Aside0 (Kd.R (Kd.int .i64) 3 w' w.heap.size (fun k_ => (w.heap.size ≤ k_) ∧ some k_ ≠ (u352001 : Value).ownBlock) v4 x4_1) ∧ Aside0 (Kd.R (Kd.int .i64) 3 w' w.heap.size (fun k_ => (w.heap.size ≤ k_) ∧ some k_ ≠ (v4 : Value).ownBlock) u352001 x352001_1) ∧ Aside0 (w'.heap[gb350]? = some (.cells #[.int .i64 0, (.slice none 0 0)] 34 (0, 0))) ∧ Aside0 (w'.heap[gb351]? = some (.cells #[.int .i64 (l0.length : Int), u352001] 34 (0, 0))) ∧ Aside0 (Below w.heap.size w w'))
 case atStart => exact ⟨(l0), (t352), (([] : List Int)), (.slice none 0 0), H', ⟨Nat.le_refl _⟩, ⟨zq150⟩, ⟨by (with_reducible repeat (first | apply Kd.R_alloc | apply Kd.R_drewN | apply Kd.R_drew)); exact Kd.R_mono HO354.out (fun _ hk => ⟨hk.1, zq176⟩)⟩, ⟨zq24⟩, ⟨by (with_reducible repeat (first | refine blk_drewN ?_ _ | refine blk_drew ?_ | refine blk_alloc ?_ _)); exact BK350.out⟩, ⟨by (with_reducible repeat (first | refine blk_drewN ?_ _ | refine blk_drew ?_ | refine blk_alloc ?_ _)); exact BK351.out⟩, ⟨zq10⟩⟩
 case round =>
  clear H'
  try clear p2
  try clear c4
  try clear c5
  try clear hcz6_0
  try clear hcz6_1
  try clear hfz6_0
  try clear hfz6_1
  obtain ⟨x0_1, x4_1, x352001_1, u352001, HA, HK1, HO_0, HO_4, HO_352001, BK350, BK351, HB⟩ := hrel
  cases gk with
  | zero => exact absurd HA.out (by simp [impl_least.l0])
  | succ k1 =>
   have H := HA.out
   clear HA
   simp only [impl_least.l0] at H
   by_cases c8 : (x4_1.length : Int) > 0
   ·rw [if_pos c8] at H
    have c8b0 : decide (0 < (x4_1.length : Int)) = true := decide_eq_true c8
    have c8b1 : decide (0 < x4_1.length) = true := decide_eq_true zq62
    clear c8
    by_cases c9 : 0 < (x4_1.length : Int)
    ·rw [if_pos c9] at H
     have c9b0 : decide (0 < (x4_1.length : Int)) = true := decide_eq_true c9
     have c9b1 : decide (0 < x4_1.length) = true := decide_eq_true zq62
     clear c9
     by_cases c10 : x352001_1.length < 17592186044416
     ·rw [if_pos c10] at H
      have LMc10 := am c10
      clear c10
      obtain ⟨y356, hy356⟩ : ∃ y_ : List Int, y_ = (x352001_1 ++ [rd x4_1 0]) := ⟨_, rfl⟩
      replace H : ((impl_exchanged.f x0_1 (rd x4_1 0)).bind fun t360 => ((impl_descents.f k1 t360).bind fun t363 => (impl_least.l0 k1 t360 t363 (l0.length : Int) y356))) = some (r1, r2) := by first | (rw [hy356]; exact zH) | exact zH
      have Ny356 := am hy356
      clear hy356
      obtain ⟨t360, A11, H⟩ := zS H
      (try dsimp only at H)
      obtain ⟨t363, A12, H⟩ := zS H
      (try dsimp only at H)
      have H' := am H
      clear H
      obtain ⟨Ao13, co13, eo13⟩ := Kd.R_slice HO_4.out
      subst eo13
      try go_wp2
      replace HO_0 := am (Kd.V_drew HO_0.out)
      replace HO_4 := am (Kd.R_drew HO_4.out)
      replace HO_352001 := am (Kd.R_drew HO_352001.out)
      replace BK350 := am (blk_drew BK350.out)
      replace BK351 := am (blk_drew BK351.out)
      replace HB := am (below_drew1 HB.out)
      have p355 : 0 ≤ (0 : Int) := zq62
      have q355 : 0 < (x4_1.length : Int) := of_decide_eq_true zq9
      obtain ⟨ad355, e355, hx355_0⟩ := Kd.at_int (Kd.R_reads' HO_4.out).2.2 0 p355 q355
      cases e355
      have qi355 : (0 < x4_1.length) = True := eq_true zq62
      (try rw [show ((0 : Int)).toNat = 0 from rfl] at hx355_0)
      (try rw [Addr.add_zero'] at hx355_0)
      replace p355 := eq_true p355
      replace q355 := eq_true q355
      refine start_ (n := 9) (S := fun w' => w'.cell? ⟨gb351, 0, none⟩ = some (.int .i64 (l0.length : Int)) ∧ w'.cell? ⟨gb351, 1, none⟩ = some (u352001) ∧ w'.cell? ad355 = some (.int .i64 (rd x4_1 0))) (ds := [6, 8]) #[false, false, false, false, false, false, false, false, false] zq26 rfl rfl ⟨(blk_cell BK351.out 0).trans rfl, (blk_cell BK351.out 1).trans rfl, hx355_0⟩ (fun hHeld => ?_); refine with_tabW impl_least.tab5 impl_least.bits5 (fun HT_ HW_ => ?_)
      generalize wr.drew = w14 at HO_0 HO_4 HO_352001 BK350 BK351 HB hx355_0 hHeld ⊢
      refine zU 0 15 HT_ ?_
      refine zU 2 17 HT_ ?_
      refine zU 3 18 HT_ ?_
      refine zT 1 16 HT_ HW_ hHeld ?_
      refine zT 4 19 HT_ HW_ hHeld ?_
      refine zO 5 20 HT_ fun K hK => ?_
      refine value_ (w1 := ?_) (v := ?_) (by rfl) rfl ?_ ?_
      rotate_left 2
      ·go_simp
       constructor
       ·rfl
       ·rfl
      refine hK.out _ _ ⟨(blk_cell (blk_alloc BK351.out _) 0).trans rfl, (blk_cell (blk_alloc BK351.out _) 1).trans rfl, (World.cell?_alloc_lt _ _ _ (World.block_lt_of_cell? _ _ (hHeld.2.2))).trans (hHeld.2.2)⟩ (fun hHeld => ?_)
      clear hK K
      refine zN 20 ?_
      refine last_ (i := 6) (N := some 21) #[true, true, true, true, true, true, true, false, false] rfl rfl (one_of HT_.out zq26) zq36 (fun K hK => ?_)
      refine Kd.R_append_step (Kd.int .i64) (w0 := w) w.heap.size (by rfl) (.tmp 16) (.tmp 20) 24 3 (.int .i64 0) 8 rfl Try.underlying24 info3 rfl zq36 zq62 u352001 x352001_1 (rd x4_1 0) [.int .i64 (rd x4_1 0)] (fun k_ => (w.heap.size ≤ k_) ∧ some k_ ≠ (.slice (some ad355) x4_1.length co13 : Value).ownBlock) (fun _ => False) rfl rfl ?aP (fun _ hk => hk.elim) ?aF ?aO ?aB ?aS ?aL ?_
      (case aP => exact rfl)
      (case aB => exact (pBq5 HB))
      (case aF => exact (fun k_ hk => ⟨(Nat.le_trans (below_size (pBq5 HB)) hk), Kd.fresh' (Kd.R_lt (pRq5 HO_4)) k_ hk⟩))
      (case aO => exact (pRq5 HO_352001))
      (case aS => exact (below_size (pBq5 HB)))
      (case aL => have := LMc10.out; omega)
      intro v357 w15 ho hb hg hat
      rw [← Ny356.out] at ho
      have HO358 := am (ho)
      replace HO_0 := am (Kd.V_afterv (ok := (fun k_ => (P0_ k_ ∨ w.heap.size ≤ k_) ∧ some k_ ≠ (.slice (some ad355) x4_1.length co13 : Value).ownBlock ∧ k_ ≠ gb350 ∧ k_ ≠ gb351)) (by (with_reducible repeat (first | apply Kd.V_alloc | apply Kd.V_drewN | apply Kd.V_drew)); exact Kd.V_mono HO_0.out (fun _ hk => ⟨⟨hk.1, ⟨hk.2.1, ⟨hk.2.2.2.1, hk.2.2.2.2⟩⟩⟩, hk.2.2.1⟩)) hg hat)
      replace HO_4 := am (Kd.R_after (ok := (fun k_ => (w.heap.size ≤ k_))) (pRq5 HO_4) hg hat)
      replace BK350 := am (blk_grown (g := gb350) (o := .cells #[.int .i64 0, .slice none 0 0] 34 (0, 0)) (pKq5 BK350) hg (Kd.R_ne HO_352001.out BK350.out zq36))
      replace BK351 := am (blk_grown (g := gb351) (o := .cells #[.int .i64 (l0.length : Int), u352001] 34 (0, 0)) (pKq5 BK351) hg (Kd.R_ne HO_352001.out BK351.out zq36))
      replace HB := am (hb)
      clear HO_352001
      clear ho hb hg hat
      obtain ⟨Ao16, co16, eo16⟩ := Kd.R_slice HO358.out
      (first | subst eo16 | (injection eo16 with f1_ f2_ f3_; have f4_ := f1_.symm; have f5_ := f3_.symm; clear f1_ f2_ f3_; subst f4_; subst f5_))
      refine hK.out _ _ ?_
      clear hK K
      refine zN 21 ?_
      refine zU 7 22 HT_ ?_
      refine last_ (i := 8) (N := none) #[true, true, true, true, true, true, true, true, true] rfl rfl (one_of HT_.out zq26) zq36 (fun K hK => ?_)
      have hs17 : w15.cell? ⟨gb351, 1, none⟩ = some (u352001) := (blk_cell BK351.out 1).trans rfl
      have hfs17 := blk_frozen BK351.out 1
      have hns17_0 := NB350_351.out
      have hms17_0 := NB351_350.out
      refine skip_ (w1 := ?_) (by rfl) rfl ?_ ?_
      rotate_left
      ·go_simp
       rfl
      refine hK.out _ _ ?_
      clear hK K
      refine done_ (done_of HT_.out zq26) ?_
      have p359 : 0 ≤ (0 : Int) := zq62
      have q359 : 0 < (x4_1.length : Int) := of_decide_eq_true zq9
      obtain ⟨ad359, e359, hx359_0⟩ := Kd.at_int (Kd.R_reads' HO_4.out).2.2 0 p359 q359
      obtain rfl : ad355 = ad359 := (by injection e359)
      have qi359 : (0 < x4_1.length) = True := eq_true zq62
      (try rw [show ((0 : Int)).toNat = 0 from rfl] at hx359_0)
      (try rw [Addr.add_zero'] at hx359_0)
      have hn359_0 : ad355.block ≠ gb351 := Kd.own_blk (Kd.R_ne HO_4.out BK351.out zq36)
      replace hx359_0 := (cell_far (p := ⟨gb351, 1, none⟩) (by first | (rw [add_block]; exact hn359_0) | (show (Addr.add _ _).block ≠ _; rw [add_block]; exact hn359_0) | exact hn359_0) (.slice Ao16 y356.length co16)).trans hx359_0
      clear hn359_0
      replace p359 := eq_true p359
      replace q359 := eq_true q359
      obtain ⟨Ao18, co18, eo18⟩ := Kd.V_slice HO_0.out
      subst eo18
      try go_wp2_with (first | ((with_reducible refine gate_callee (f := 37) rfl ?_); refine goesL_ (some 27) rfl rfl Try.func37 zq26 rfl #[.slice Ao18 x0_1.length co18, .int .i64 (rd x4_1 0)] rfl zq1 ?_; (with_reducible refine (impl_exchanged.calls _ _ x0_1 (rd x4_1 0) t360 _ ?side1 ?side2 A11.out).mono ?_); (case side1 => refine (Kd.V_reads' (e := 3) (base := w.heap.size) (ok := fun k_ => (((P0_ k_ ∨ w.heap.size ≤ k_) ∧ (some k_ ≠ (.slice (some ad355) x4_1.length co13 : Value).ownBlock ∧ (k_ ≠ gb350 ∧ k_ ≠ gb351))) ∧ some k_ ≠ (.slice Ao16 y356.length co16 : Value).ownBlock)) (n := x0_1.length) (c := co18) ?_).2.2; exact zq127); (case side2 => exact zq102); rintro e w19 ⟨v361, rfl, ho0, hb⟩; refine ⟨_, rfl, ?_⟩; have HO362 := am (Kd.R_lower (Kd.R_new' (Kd.R_new' (Kd.R_newM (M := fun k_ => (w.heap.size ≤ k_)) ho0 (below_size (pBq5 HB)) (fun k_ h_ => h_)) (Kd.R_lt zq136)) (Kd.R_lt zq133)) (below_size (pBq5 HB))); replace HO_0 := am (Kd.V_elder' zq127 (Kd.R_base ho0) hb); replace HO_4 := am (Kd.R_elder' zq136 (Kd.R_base ho0) hb); replace HO358 := am (Kd.R_elder' zq133 (Kd.R_base ho0) hb); replace BK350 := am (blk_below (g := gb350) (o := .cells #[.int .i64 0, .slice none 0 0] 34 (0, 0)) (by (with_reducible repeat (first | refine blk_drewN ?_ _ | refine blk_drew ?_ | refine blk_alloc ?_ _)); refine blk_far ?_ NB350_351.out _; (with_reducible repeat (first | refine blk_drewN ?_ _ | refine blk_drew ?_ | refine blk_alloc ?_ _)); exact BK350.out) hb); replace BK351 := am (blk_below (g := gb351) (o := .cells #[.int .i64 (l0.length : Int), .slice Ao16 y356.length co16] 34 (0, 0)) (by (with_reducible repeat (first | refine blk_drewN ?_ _ | refine blk_drew ?_ | refine blk_alloc ?_ _)); refine blk_put (cs := #[.int .i64 (l0.length : Int), u352001]) ?_ 1 _ rfl; (with_reducible repeat (first | refine blk_drewN ?_ _ | refine blk_drew ?_ | refine blk_alloc ?_ _)); exact BK351.out) hb); replace HB := am (below_step (pBq5 HB) hb); (try clear hb hk ho0); obtain ⟨Ao20, co20, eo20⟩ := Kd.R_slice HO362.out; subst eo20) | ((with_reducible refine gate_callee (f := 43) rfl ?_); refine goesL_ (some 14) rfl rfl Try.func43 zq26 rfl #[.slice Ao20 t360.length co20] rfl zq1 ?_; (with_reducible refine (impl_descents.calls k1 _ _ t360 t363 _ ?side1 ?side2 A12.out).mono ?_); (case side1 => repeat (first | exact (Kd.R_reads' HO362.out).2.2 | (with_reducible refine Kd.C_alloc ?_ _) | (with_reducible refine Kd.C_drewN ?_ _) | (with_reducible refine Kd.C_drew ?_))); (case side2 => exact (Kd.R_reads' HO362.out).2.1); rintro e w21 ⟨v364, rfl, ho0, hb⟩; refine ⟨_, rfl, ?_⟩; have HO365 := am (Kd.R_lower (Kd.R_new' (Kd.R_new' (Kd.R_new' (Kd.R_newM (M := fun k_ => (w.heap.size ≤ k_)) ho0 (below_size (pBq5 HB)) (fun k_ h_ => h_)) (Kd.R_lt (pRq5 HO_4))) (Kd.R_lt (pRq5 HO358))) (Kd.R_lt (pRq5 HO362))) (below_size (pBq5 HB))); replace HO_0 := am (Kd.V_elder' zq15 (Kd.R_base ho0) hb); replace HO_4 := am (Kd.R_elder' (pRq5 HO_4) (Kd.R_base ho0) hb); replace HO358 := am (Kd.R_elder' (pRq5 HO358) (Kd.R_base ho0) hb); replace HO362 := am (Kd.R_elder' (pRq5 HO362) (Kd.R_base ho0) hb); replace BK350 := am (blk_below (pKq5 BK350) hb); replace BK351 := am (blk_below (pKq5 BK351) hb); replace HB := am (below_step (pBq5 HB) hb); (try clear hb ho0)))
      go_roundg k1
      case measure => have := HK1.out; omega
      case rel => exact ⟨(t360), (t363), (y356), (.slice Ao16 y356.length co16), H', ⟨zq101⟩, ⟨Kd.V_mono (Kd.R_V (by (with_reducible repeat (first | apply Kd.R_alloc | apply Kd.R_drewN | apply Kd.R_drew)); exact (Kd.R_types (Kd.R_types HO362.out BK350.out zq36) BK351.out zq36))) (fun k_ hk => by exact ⟨(.inr (hk.1.1.1.1.1.1)), ⟨hk.1.1.2, ⟨hk.1.1.1.2, ⟨hk.1.2, hk.2⟩⟩⟩⟩)⟩, ⟨by (with_reducible repeat (first | apply Kd.R_alloc | apply Kd.R_drewN | apply Kd.R_drew)); exact Kd.R_mono HO365.out (fun _ hk => ⟨hk.1.1.1.1, hk.1.2⟩)⟩, ⟨by (with_reducible repeat (first | apply Kd.R_alloc | apply Kd.R_drewN | apply Kd.R_drew)); exact Kd.R_mono HO358.out (fun _ hk => ⟨hk.1.1.1, hk.2⟩)⟩, ⟨by (with_reducible repeat (first | refine blk_drewN ?_ _ | refine blk_drew ?_ | refine blk_alloc ?_ _)); exact BK350.out⟩, ⟨by (with_reducible repeat (first | refine blk_drewN ?_ _ | refine blk_drew ?_ | refine blk_alloc ?_ _)); exact BK351.out⟩, ⟨zq10⟩⟩
     ·rw [if_neg c10] at H
      exact absurd H zq66
    ·rw [if_neg c9] at H
     exact absurd H zq66
   ·rw [if_neg c8] at H
    have c8b0 : decide (0 < (x4_1.length : Int)) = false := decide_eq_false c8
    have c8b1 : decide (0 < x4_1.length) = false := decide_eq_false zq62
    clear c8
    simp only [Option.some.injEq, Prod.mk.injEq] at H
    obtain ⟨rfl, rfl⟩ := H
    obtain ⟨Ao22, co22, eo22⟩ := Kd.R_slice HO_4.out
    subst eo22
    have hnb23 := NB351_350.out
    have hnc23 := NB350_351.out
    have hcz24_0 : wr.cell? ⟨gb351, 0, none⟩ = some (.int .i64 (l0.length : Int)) := (blk_cell BK351.out 0).trans rfl
    have hcz24_1 : wr.cell? ⟨gb351, 1, none⟩ = some (u352001) := (blk_cell BK351.out 1).trans rfl
    have hfz24_0 := blk_frozen BK351.out 0
    have hfz24_1 := blk_frozen BK351.out 1
    have hcz25_0 : wr.cell? ⟨gb350, 0, none⟩ = some (.int .i64 0) := (blk_cell BK350.out 0).trans rfl
    have hcz25_1 : wr.cell? ⟨gb350, 1, none⟩ = some (.slice none 0 0) := (blk_cell BK350.out 1).trans rfl
    have hfz25_0 := blk_frozen BK350.out 0
    have hfz25_1 := blk_frozen BK350.out 1
    obtain ⟨Ao26, co26, eo26⟩ := Kd.R_slice HO_352001.out
    subst eo26
    go_wp2
    refine bodyPost_ret (results_cell_row rfl _ _ gb350 34 #[.int .i64 (l0.length : Int), .slice Ao26 x352001_1.length co26] (0, 0) _ rfl (by (with_reducible repeat (first | refine blk_drewN ?_ _ | refine blk_drew ?_ | refine blk_alloc ?_ _)); refine blk_put (cs := #[.int .i64 (l0.length : Int), .slice none 0 0]) ?_ 1 _ rfl; (with_reducible repeat (first | refine blk_drewN ?_ _ | refine blk_drew ?_ | refine blk_alloc ?_ _)); refine blk_put (cs := #[.int .i64 0, .slice none 0 0]) ?_ 0 _ rfl; (with_reducible repeat (first | refine blk_drewN ?_ _ | refine blk_drew ?_ | refine blk_alloc ?_ _)); exact BK350.out) Try.underlying34 rfl zq26) rfl ?_
    exact ⟨_, zq11, by (with_reducible repeat (first | apply Kd.R_alloc | apply Kd.R_drewN | apply Kd.R_drew)); exact Kd.R_mono (Kd.R_far (p := ⟨gb350, 1, none⟩) (Kd.R_far (p := ⟨gb350, 0, none⟩) (Kd.R_types HO_352001.out BK350.out zq36) (fun _ hk => hk.2) (.int .i64 (l0.length : Int))) (fun _ hk => hk.2) (.slice Ao26 x352001_1.length co26)) (fun _ hk => hk.1.1), zq10⟩
/-! ### impl_LeastLadder: function 19 -/
def impl_LeastLadder.f (k : Nat) (l0 : List Int) : Option (Int × List Int × Bool) := (impl_isOrder.f k l0).bind fun t367 => (if t367 = true then (if (l0.length : Int) < 2 then (some (0, ([] : List Int), false)) else ((impl_least.f k l0).bind fun bt368 => (some (bt368.1, bt368.2, true)))) else (some (0, ([] : List Int), false)))
theorem impl_LeastLadder.mono : ∀ a0 k, LeO (impl_LeastLadder.f k a0) (impl_LeastLadder.f (k + 1) a0) := by
 intro a0 k
 unfold impl_LeastLadder.f
 repeat' first | (with_reducible first | exact impl_isOrder.mono _ _ | exact impl_least.mono _ _ | exact LeO.refl _ | exact LeO.none _ | refine LeO.ite ?_ ?_ | refine LeO.bind ?_ (fun _ => ?_))
theorem impl_LeastLadder.calls (k : Nat) (A0 : Option Addr) (c0 : Nat) (l0 : List Int) (r1 : Int) (r2 : List Int) (r3 : Bool) (w : World) (hr0 : Kd.C (Kd.int .i64) w A0 l0.length l0) (hc0 : l0.length ≤ c0) (h : impl_LeastLadder.f k l0 = some (r1, r2, r3)) :
  Calls Try.prog 19 #[.slice A0 l0.length c0] w fun e w' => ∃ v1_ : Value, e = .returned (.tuple #[.agg #[.int .i64 r1, v1_], .bool r3]) ∧ Kd.R (Kd.int .i64) 3 w' w.heap.size (fun _ => True) v1_ r2 ∧ Below w.heap.size w w' := by
 have hu34 := Try.underlying34
 have HR0 := am hr0
 have HC0 := am hc0
 clear hr0 hc0
 have HB := am (Below.refl w.heap.size w)
 have H : ((impl_isOrder.f k l0).bind fun t367 => (if t367 = true then (if (l0.length : Int) < 2 then (some (0, ([] : List Int), false)) else ((impl_least.f k l0).bind fun bt368 => (some (bt368.1, bt368.2, true)))) else (some (0, ([] : List Int), false)))) = some (r1, r2, r3) := h
 clear h
 obtain ⟨t367, A2, H⟩ := zS H
 (try dsimp only at H)
 by_cases c3 : t367 = true
 ·subst c3
  rw [if_pos rfl] at H
  by_cases c4 : (l0.length : Int) < 2
  ·rw [if_pos c4] at H
   have c4b0 : decide ((l0.length : Int) < 2) = true := decide_eq_true c4
   have c4b1 : decide (l0.length < 2) = true := decide_eq_true zq62
   clear c4
   simp only [Option.some.injEq, Prod.mk.injEq] at H
   obtain ⟨rfl, rfl, rfl⟩ := H
   go_enter Try.func19, Try.ntmps19
   go_wp2_with (first | ((with_reducible refine gate_dst (N := 2) rfl ?_); (try (refine gate_guard (by rfl) ?_; dsimp only)); refine zE 2 (cs := #[.int .i64 0, .slice none 0 0]) 34 ?_; intro gb366 hg w5 hbox hb; have BK366 := am (hbox); have GW366 := am ((zq67 : w.heap.size ≤ gb366)); have GE366 := am ((zq67 : w.heap.size ≤ gb366)); replace HB := am (below_step (pBq5 HB) hb); clear hb hbox hg) | ((with_reducible refine gate_callee (f := 38) rfl ?_); refine goesL_ (some 5) rfl rfl Try.func38 zq26 rfl #[.slice A0 l0.length c0] rfl zq1 ?_; (with_reducible refine (impl_isOrder.calls k _ _ l0 true _ ?side1 ?side2 A2.out).mono ?_); (case side1 => exact zq48); (case side2 => exact HC0.out); rintro e w' ⟨rfl, ⟨nd, rfl⟩⟩; refine ⟨_, rfl, ?_⟩; (try (rw [drewN_self w5]; generalize hq_ : World.drewN w5 _ = w5; have n0_ : Aside0 (w5.heap[gb366]? = some (.cells #[.int .i64 0, .slice none 0 0] 34 (0, 0))) := ⟨by rw [← hq_]; exact (pKq5 BK366)⟩; have n1_ : Aside0 (Below w.heap.size w w5) := ⟨zq167⟩; clear BK366 HB hq_; have BK366 := n0_; have HB := n1_; clear n0_ n1_)); have hcz6_0 : w5.cell? ⟨gb366, 0, none⟩ = some (.int .i64 0) := (blk_cell BK366.out 0).trans rfl; have hcz6_1 : w5.cell? ⟨gb366, 1, none⟩ = some (.slice none 0 0) := (blk_cell BK366.out 1).trans rfl; have hfz6_0 := blk_frozen BK366.out 0; have hfz6_1 := blk_frozen BK366.out 1))
   refine bodyPost_ret (results_ct rfl _ _ gb366 34 #[.int .i64 0, .slice none 0 0] (0, 0) _ rfl zq96 Try.underlying34 rfl zq26) rfl ?_
   exact ⟨_, zq11, zq24, zq10⟩
  ·rw [if_neg c4] at H
   have c4b0 : decide ((l0.length : Int) < 2) = false := decide_eq_false c4
   have c4b1 : decide (l0.length < 2) = false := decide_eq_false zq62
   clear c4
   replace H := Option.bind_eq_some_iff.mp H
   obtain ⟨⟨t368, t369⟩, A70, H⟩ := H
   (try dsimp only at H)
   have A7 := am A70
   clear A70
   simp only [Option.some.injEq, Prod.mk.injEq] at H
   obtain ⟨rfl, rfl, rfl⟩ := H
   go_enter Try.func19, Try.ntmps19
   go_wp2_with (first | ((with_reducible refine gate_dst (N := 2) rfl ?_); (try (refine gate_guard (by rfl) ?_; dsimp only)); refine zE 2 (cs := #[.int .i64 0, .slice none 0 0]) 34 ?_; intro gb366 hg w8 hbox hb; have BK366 := am (hbox); have GW366 := am ((zq67 : w.heap.size ≤ gb366)); have GE366 := am ((zq67 : w.heap.size ≤ gb366)); replace HB := am (below_step (pBq5 HB) hb); clear hb hbox hg) | ((with_reducible refine gate_callee (f := 38) rfl ?_); refine goesL_ (some 5) rfl rfl Try.func38 zq26 rfl #[.slice A0 l0.length c0] rfl zq1 ?_; (with_reducible refine (impl_isOrder.calls k _ _ l0 true _ ?side1 ?side2 A2.out).mono ?_); (case side1 => exact zq48); (case side2 => exact HC0.out); rintro e w' ⟨rfl, ⟨nd, rfl⟩⟩; refine ⟨_, rfl, ?_⟩; (try (rw [drewN_self w8]; generalize hq_ : World.drewN w8 _ = w8; have n0_ : Aside0 (w8.heap[gb366]? = some (.cells #[.int .i64 0, .slice none 0 0] 34 (0, 0))) := ⟨by rw [← hq_]; exact (pKq5 BK366)⟩; have n1_ : Aside0 (Below w.heap.size w w8) := ⟨zq167⟩; clear BK366 HB hq_; have BK366 := n0_; have HB := n1_; clear n0_ n1_))) | ((with_reducible refine gate_callee (f := 44) rfl ?_); refine goesL_ (some 14) rfl rfl Try.func44 zq26 rfl #[.slice A0 l0.length c0] rfl zq1 ?_; (with_reducible refine (impl_least.calls k (fun k_ => k_ < w.heap.size) _ _ l0 t368 t369 _ ?side1 A7.out).mono ?_); (case side1 => exact Kd.V_mk HC0.out (Kd.F_below (Kd.C_F (Kd.heap_int .i64) HR0.out) (pBq5 HB))); rintro e w9 ⟨v370, rfl, ho0, hb⟩; refine ⟨_, rfl, ?_⟩; have HO371 := am (Kd.R_lower (Kd.R_mono (ok' := fun k_ => True) ho0 (fun _ hk_ => trivial)) (below_size (pBq5 HB))); replace BK366 := am (blk_below (pKq5 BK366) hb); replace HB := am (below_step (pBq5 HB) hb); (try clear hb ho0); have hcz10_0 : w9.cell? ⟨gb366, 0, none⟩ = some (.int .i64 0) := (blk_cell BK366.out 0).trans rfl; have hcz10_1 : w9.cell? ⟨gb366, 1, none⟩ = some (.slice none 0 0) := (blk_cell BK366.out 1).trans rfl; have hfz10_0 := blk_frozen BK366.out 0; have hfz10_1 := blk_frozen BK366.out 1; obtain ⟨Ao11, co11, eo11⟩ := Kd.R_slice HO371.out; subst eo11))
   refine bodyPost_ret (results_ct rfl _ _ gb366 34 #[.int .i64 t368, .slice Ao11 t369.length co11] (0, 0) _ rfl (by (with_reducible repeat (first | refine blk_drewN ?_ _ | refine blk_drew ?_ | refine blk_alloc ?_ _)); refine blk_put (cs := #[.int .i64 t368, .slice none 0 0]) ?_ 1 _ rfl; (with_reducible repeat (first | refine blk_drewN ?_ _ | refine blk_drew ?_ | refine blk_alloc ?_ _)); refine blk_put (cs := #[.int .i64 0, .slice none 0 0]) ?_ 0 _ rfl; (with_reducible repeat (first | refine blk_drewN ?_ _ | refine blk_drew ?_ | refine blk_alloc ?_ _)); exact BK366.out) Try.underlying34 rfl zq26) rfl ?_
   exact ⟨_, zq11, by (with_reducible repeat (first | apply Kd.R_alloc | apply Kd.R_drewN | apply Kd.R_drew)); exact Kd.R_mono (Kd.R_far (p := ⟨gb366, 1, none⟩) (Kd.R_far (p := ⟨gb366, 0, none⟩) (Kd.R_types HO371.out BK366.out zq36) (fun _ hk => hk.2) (.int .i64 t368)) (fun _ hk => hk.2) (.slice Ao11 t369.length co11)) (fun _ hk => trivial), zq10⟩
 ·replace c3 := Bool.eq_false_iff.mpr c3
  subst c3
  rw [if_neg (show ¬ (false = true) by decide)] at H
  simp only [Option.some.injEq, Prod.mk.injEq] at H
  obtain ⟨rfl, rfl, rfl⟩ := H
  go_enter Try.func19, Try.ntmps19
  go_wp2_with (first | ((with_reducible refine gate_dst (N := 2) rfl ?_); (try (refine gate_guard (by rfl) ?_; dsimp only)); refine zE 2 (cs := #[.int .i64 0, .slice none 0 0]) 34 ?_; intro gb366 hg w12 hbox hb; have BK366 := am (hbox); have GW366 := am ((zq67 : w.heap.size ≤ gb366)); have GE366 := am ((zq67 : w.heap.size ≤ gb366)); replace HB := am (below_step (pBq5 HB) hb); clear hb hbox hg) | ((with_reducible refine gate_callee (f := 38) rfl ?_); refine goesL_ (some 5) rfl rfl Try.func38 zq26 rfl #[.slice A0 l0.length c0] rfl zq1 ?_; (with_reducible refine (impl_isOrder.calls k _ _ l0 false _ ?side1 ?side2 A2.out).mono ?_); (case side1 => exact zq48); (case side2 => exact HC0.out); rintro e w' ⟨rfl, ⟨nd, rfl⟩⟩; refine ⟨_, rfl, ?_⟩; (try (rw [drewN_self w12]; generalize hq_ : World.drewN w12 _ = w12; have n0_ : Aside0 (w12.heap[gb366]? = some (.cells #[.int .i64 0, .slice none 0 0] 34 (0, 0))) := ⟨by rw [← hq_]; exact (pKq5 BK366)⟩; have n1_ : Aside0 (Below w.heap.size w w12) := ⟨zq167⟩; clear BK366 HB hq_; have BK366 := n0_; have HB := n1_; clear n0_ n1_)); have hcz13_0 : w12.cell? ⟨gb366, 0, none⟩ = some (.int .i64 0) := (blk_cell BK366.out 0).trans rfl; have hcz13_1 : w12.cell? ⟨gb366, 1, none⟩ = some (.slice none 0 0) := (blk_cell BK366.out 1).trans rfl; have hfz13_0 := blk_frozen BK366.out 0; have hfz13_1 := blk_frozen BK366.out 1))
  refine bodyPost_ret (results_ct rfl _ _ gb366 34 #[.int .i64 0, .slice none 0 0] (0, 0) _ rfl zq96 Try.underlying34 rfl zq26) rfl ?_
  exact ⟨_, zq11, zq24, zq10⟩
/-! ### spec_DrawCountFirst: function 20 -/
def spec_DrawCountFirst.f (k : Nat) (l0 : List Int) : Option (List Int × Int) := (spec_l1Cur_few.f k l0 0 0 6).bind fun bt373 => ((spec_l1Cur_pick.f l0 bt373.2.1 bt373.2.2 6).bind fun bt378 => (some (bt373.1, wrap64 (bt378.1 - 1))))
theorem spec_DrawCountFirst.mono : ∀ a0 k, LeO (spec_DrawCountFirst.f k a0) (spec_DrawCountFirst.f (k + 1) a0) := by
 intro a0 k
 unfold spec_DrawCountFirst.f
 repeat' first | (with_reducible first | exact spec_l1Cur_few.mono _ _ _ _ _ | exact LeO.refl _ | exact LeO.none _ | refine LeO.ite ?_ ?_ | refine LeO.bind ?_ (fun _ => ?_))
theorem spec_DrawCountFirst.calls (k : Nat) (A0 : Option Addr) (c0 : Nat) (l0 : List Int) (r1 : List Int) (r2 : Int) (w : World) (hr0 : Kd.C (Kd.int .u8) w A0 l0.length l0) (hc0 : l0.length ≤ c0) (h : spec_DrawCountFirst.f k l0 = some (r1, r2)) :
  Calls Try.prog 20 #[.slice A0 l0.length c0] w fun e w' => ∃ v0_ : Value, e = .returned (.tuple #[v0_, .int .i64 r2]) ∧ Kd.R (Kd.int .i64) 3 w' w.heap.size (fun _ => True) v0_ r1 ∧ Below w.heap.size w w' := by
 have hu51 := Try.underlying51
 have HR0 := am hr0
 have HC0 := am hc0
 clear hr0 hc0
 have HB := am (Below.refl w.heap.size w)
 have H : ((spec_l1Cur_few.f k l0 0 0 6).bind fun bt373 => ((spec_l1Cur_pick.f l0 bt373.2.1 bt373.2.2 6).bind fun bt378 => (some (bt373.1, wrap64 (bt378.1 - 1))))) = some (r1, r2) := h
 clear h
 replace H := Option.bind_eq_some_iff.mp H
 obtain ⟨⟨t373, t376, t377⟩, A20, H⟩ := H
 (try dsimp only at H)
 have A2 := am A20
 clear A20
 replace H := Option.bind_eq_some_iff.mp H
 obtain ⟨⟨t378, t379, t380⟩, A30, H⟩ := H
 (try dsimp only at H)
 have A3 := am A30
 clear A30
 simp only [Option.some.injEq, Prod.mk.injEq] at H
 obtain ⟨rfl, rfl⟩ := H
 go_enter Try.func20, Try.ntmps20
 go_wp2_with (first | ((with_reducible refine gate_dst (N := 7) rfl ?_); refine zE 7 (cs := #[.slice A0 l0.length c0, .int .i64 0, .int .u64 0]) 51 ?_; intro gb372 hg w4 hbox hb; have BK372 := am (hbox); have GW372 := am ((zq67 : w.heap.size ≤ gb372)); have GE372 := am ((zq67 : w.heap.size ≤ gb372)); replace HB := am (below_step (pBq5 HB) hb); clear hb hbox hg) | ((with_reducible refine gate_callee (f := 27) rfl ?_); refine goesL_ (some 9) rfl rfl Try.func27 zq26 rfl #[.pointer (some ⟨gb372, 0, none⟩), .int .i64 6] rfl zq1 ?_; (with_reducible refine (spec_l1Cur_few.calls k gb372 l0 0 0 6 t373 t376 t377 w _ ?side1 ?side2 A2.out).mono ?_); (case side1 => unfold IsS51; exact ⟨_, _, (pKq5 BK372), GW372.out, HR0.out⟩); (case side2 => exact zq10); rintro e w5 ⟨v374, rfl, ho0, hi, hb, hk⟩; refine ⟨_, rfl, ?_⟩; have HO375 := am (Kd.R_lower ho0 (below_size (pBq5 HB))); replace HB := am (hb); replace BK372 := am (hi); (try clear hb hk hi ho0)) | ((with_reducible refine gate_callee (f := 45) rfl ?_); refine goesL_ (some 11) rfl rfl Try.func45 zq26 rfl #[.pointer (some ⟨gb372, 0, none⟩), .int .i64 6] rfl zq1 ?_; (with_reducible refine (spec_l1Cur_pick.calls gb372 l0 t376 t377 6 t378 t379 t380 w _ ?side1 ?side2 A3.out).mono ?_); (case side1 => exact zq156); (case side2 => exact zq155); rintro e w6 ⟨rfl, hi, hb, hk⟩; refine ⟨_, rfl, ?_⟩; replace HO375 := am (Kd.R_mono (Kd.R_keep (IsS51.apart (show IsS51 w _ gb372 l0 t376 t377 from zq156) (pRq5 HO375) zq36) hk (fun _ h => h.2)) (fun _ h => h.1)); replace HB := am (hb); replace BK372 := am (hi); (try clear hb hk hi)))
 go_ret2
 exact ⟨_, zq11, by (with_reducible repeat (first | apply Kd.R_alloc | apply Kd.R_drewN | apply Kd.R_drew)); exact HO375.out, zq155⟩
/-! ### spec_CountFirst: function 21 -/
open Classical in
noncomputable def spec_CountFirst.ev {α : Type} (g : Nat → Option α) : Option α := if h : ∃ k r, g k = some r then g h.choose else none
theorem spec_CountFirst.ev_some {α : Type} {g : Nat → Option α} {r : α} (h : spec_CountFirst.ev g = some r) : ∃ k, g k = some r := by
 unfold spec_CountFirst.ev at h
 split at h
 ·exact ⟨_, h⟩
 ·cases h
noncomputable def spec_CountFirst.f (l0 : List Int) (a1 : Int) : Option (Int × Bool) := (spec_CountFirst.ev fun k => spec_alGood.f k l0).bind fun t => if t = true then (spec_l1In.f a1 0 (wrap64 ((l0.length : Int) - 2))).bind fun u => (if u = true then (if l0.length ≤ 8 ∧ 0 ≤ a1 ∧ a1 + 1 < (l0.length : Int) then (if rd l0 a1 < rd l0 (a1 + 1) then some (0, true) else (spec_alSwap.f l0 a1).bind fun q => (spec_alCounter_count.g (spec_alNew.fc l0.length) l0.length 16 q).bind fun r => some (r, true)) else none) else some (0, false)) else some (0, false)
theorem spec_CountFirst.calls (A0 : Option Addr) (c0 : Nat) (l0 : List Int) (a1 : Int) (r1 : Int) (r2 : Bool) (w : World) (hr0 : Kd.C (Kd.int .i64) w A0 l0.length l0) (hc0 : l0.length ≤ c0) (h : spec_CountFirst.f l0 a1 = some (r1, r2)) :
  Calls Try.prog 21 #[.slice A0 l0.length c0, .int .i64 a1] w fun e w' => e = .returned (.tuple #[.int .i64 r1, .bool r2]) ∧ Below w.heap.size w w' := by
 have HR0 := am hr0
 have HC0 := am hc0
 clear hr0 hc0
 unfold spec_CountFirst.f at h
 obtain ⟨t, ht, h⟩ := Option.bind_eq_some_iff.1 h
 obtain ⟨kt, ht⟩ := spec_CountFirst.ev_some ht
 have HT := am ht
 clear ht
 cases t with
 | false =>
  rw [if_neg zq36] at h
  simp only [Option.some.injEq, Prod.mk.injEq] at h
  obtain ⟨rfl, rfl⟩ := h
  go_enter Try.func21, Try.ntmps21
  go_wp2_with (first | (go_at_call 33; (with_reducible refine (spec_alGood.calls kt _ _ l0 false _ ?side1 HC0.out HT.out).mono ?_); (case side1 => exact HR0.out); rintro e w' ⟨rfl, ⟨nd, rfl⟩⟩))
  go_ret2
  exact ⟨rfl, pw_below_drewN (Below.refl _ _) nd⟩
 | true =>
  rw [if_pos rfl] at h
  obtain ⟨u, hu, h⟩ := Option.bind_eq_some_iff.1 h
  have HUU := am hu
  clear hu
  cases u with
  | false =>
   rw [if_neg zq36] at h
   simp only [Option.some.injEq, Prod.mk.injEq] at h
   obtain ⟨rfl, rfl⟩ := h
   go_enter Try.func21, Try.ntmps21
   go_wp2_with (first | (go_at_call 33; (with_reducible refine (spec_alGood.calls kt _ _ l0 true _ ?side1 HC0.out HT.out).mono ?_); (case side1 => exact HR0.out); rintro e w' ⟨rfl, ⟨nd, rfl⟩⟩) | (go_at_call 46; (with_reducible refine (spec_l1In.calls a1 0 (wrap64 ((l0.length : Int) - 2)) false _ HUU.out).mono ?_); rintro e w' ⟨rfl, ⟨nd2, rfl⟩⟩))
   go_ret2
   exact ⟨rfl, zq56⟩
  | true =>
   rw [if_pos rfl] at h
   split at h
   ·rename_i hb
    obtain ⟨h8, p171, q0⟩ := hb
    have q171 : a1 < (l0.length : Int) := zq62
    obtain ⟨ji, hji⟩ : ∃ j_ : Int, wrap64 (a1 + 1) = j_ := ⟨_, rfl⟩
    have hjv : ji = a1 + 1 := by rw [← hji]; unfold wrap64; omega
    have hjiw : (IntKind.i64.wrap (a1 + 1)) = ji := (i64_w _).trans hji
    rw [← hjv] at h q0
    have p172 : 0 ≤ ji := zq62
    have q172 : ji < (l0.length : Int) := q0
    obtain ⟨ad, ead, hx0⟩ := Kd.at_int HR0.out a1 p171 q171
    cases ead
    obtain ⟨ad2, ead2, hy0⟩ := Kd.at_int HR0.out ji p172 q172
    obtain rfl : ad = ad2 := (by injection ead2)
    obtain ⟨x, hx⟩ : ∃ x, x = rd l0 a1 := ⟨_, rfl⟩
    obtain ⟨y, hy⟩ : ∃ y, y = rd l0 ji := ⟨_, rfl⟩
    rw [← hx] at hx0
    rw [← hy] at hy0
    rw [← hx, ← hy] at h
    have H8 := am h8
    clear hx hy ead2 h8 q0 hjv
    replace p171 := eq_true p171
    replace q171 := eq_true q171
    replace p172 := eq_true p172
    replace q172 := eq_true q172
    by_cases hc : x < y
    ·rw [if_pos hc] at h
     simp only [Option.some.injEq, Prod.mk.injEq] at h
     obtain ⟨rfl, rfl⟩ := h
     have hcd : decide (x < y) = true := decide_eq_true hc
     clear hc
     go_enter Try.func21, Try.ntmps21
     go_wp2_with (first | (go_at_call 33; (with_reducible refine (spec_alGood.calls kt _ _ l0 true _ ?side1 HC0.out HT.out).mono ?_); (case side1 => exact HR0.out); rintro e w' ⟨rfl, ⟨nd, rfl⟩⟩) | (go_at_call 46; (with_reducible refine (spec_l1In.calls a1 0 (wrap64 ((l0.length : Int) - 2)) true _ HUU.out).mono ?_); rintro e w' ⟨rfl, ⟨nd2, rfl⟩⟩))
     repeat (go_quiet (fail); try go_wp2)
     go_ret2
     exact ⟨rfl, zq56⟩
    ·rw [if_neg hc] at h
     obtain ⟨q, hq, h⟩ := Option.bind_eq_some_iff.1 h
     obtain ⟨r, hr, h⟩ := Option.bind_eq_some_iff.1 h
     simp only [Option.some.injEq, Prod.mk.injEq] at h
     obtain ⟨rfl, rfl⟩ := h
     have hcd : decide (x < y) = false := decide_eq_false hc
     have HQ := am hq
     have HRR := am hr
     clear hc hq hr
     go_enter Try.func21, Try.ntmps21
     go_wp2_with (first | (go_at_call 33; (with_reducible refine (spec_alGood.calls kt _ _ l0 true _ ?side1 HC0.out HT.out).mono ?_); (case side1 => exact HR0.out); rintro e w' ⟨rfl, ⟨nd, rfl⟩⟩) | (go_at_call 46; (with_reducible refine (spec_l1In.calls a1 0 (wrap64 ((l0.length : Int) - 2)) true _ HUU.out).mono ?_); rintro e w' ⟨rfl, ⟨nd2, rfl⟩⟩))
     repeat (go_quiet (fail); try go_wp2_with (first | (go_at_call 34; (refine (spec_alNew.calls l0.length H8.out _).mono ?_); rintro e w2 ⟨v2, rfl, hm, hb⟩; obtain ⟨B, G, rfl, hB, hG, hM⟩ := spec_alCounter_count.Mem.made hm; have HB2 := am (below_step (w := w) zq22 hb); have HM2 := am (hM.lower (base' := w.heap.size) (Nat.le_refl _)); have HG2 := am (show w.heap.size ≤ G from hG); clear hm hb hB hG hM) | (go_at_call 47; (with_reducible refine (spec_alSwap.calls _ _ l0 a1 q _ ?side1 HC0.out HQ.out).mono ?_); (case side1 => exact Kd.C_below HR0.out HB2.out); rintro e w4 ⟨v4, rfl, ho4, hb4⟩; have HQR := am (Kd.R_mono (Kd.R_bound ho4) (fun k_ h_ => (show k_ ≠ G from fun e_ => by have h1_ := (HM2.out.lt (spec_alNew.fc_pos _)).2; have h2_ := h_.2.1; exact absurd (Nat.lt_of_lt_of_le h1_ h2_) zq146))); have HB4 := am (below_step HB2.out hb4); have HM4 := am (HM2.out.below hb4); clear hb4 ho4; obtain ⟨A4, c4, e4⟩ := Kd.R_slice HQR.out; subst e4) | (go_at_call 35; (with_reducible refine (spec_alCounter_count.calls_g _ _ 16 B G _ _ q r w _ ?side1 ?side2 ?side3 ?side4 HRR.out).mono ?_); (case side1 => exact HB4.out); (case side2 => exact HM4.out); (case side3 => exact zq113); (case side4 => exact zq152); rintro e w3 ⟨rfl, hm3, hb3, hk3⟩; have HB3 := am hb3; clear hm3 hb3 hk3)))
     go_ret2
     exact ⟨rfl, HB3.out⟩
   ·cases h
/-! ### spec_l1Cur_sureLadder: function 78 -/
def spec_l1Cur_sureLadder.l0 : Nat → Int → List Int → Int → Int → Int → List Int → Option (Int × List Int × Int × Int)
 | 0, _, _, _, _, _, _ => none
 | k + 1, x8, x1000, x1001, x1002, x386000, x386001 => if x8 > 0 then ((spec_l1Cur_pick.f x1000 x1001 x1002 (wrap64 (x386000 - 1))).bind fun bt389 => (if x386001.length < 17592186044416 then (spec_l1Cur_sureLadder.l0 k (wrap64 (x8 - 1)) x1000 bt389.2.1 bt389.2.2 x386000 (x386001 ++ [bt389.1])) else (none))) else (some (x386000, x386001, x1001, x1002))
def spec_l1Cur_sureLadder.f (k : Nat) (s0_0 : List Int) (s0_1 : Int) (s0_2 : Int) (a1 : Int) (a2 : Int) : Option (Int × List Int × Int × Int) := (spec_l1Cur_pick.f s0_0 s0_1 s0_2 (wrap64 (a1 - 1))).bind fun bt382 => ((spec_l1Cur_pick.f s0_0 bt382.2.1 bt382.2.2 (wrap64 (a2 + 1))).bind fun bt386 => (spec_l1Cur_sureLadder.l0 k bt386.1 s0_0 bt386.2.1 bt386.2.2 (wrap64 (2 + bt382.1)) ([] : List Int)))
theorem spec_l1Cur_sureLadder.mono_l : ∀ k, (∀ y0 y1 y2 y3 y4 y5, LeO (spec_l1Cur_sureLadder.l0 k y0 y1 y2 y3 y4 y5) (spec_l1Cur_sureLadder.l0 (k + 1) y0 y1 y2 y3 y4 y5))
 | 0 => fun _ _ _ _ _ _ r h => by simp [spec_l1Cur_sureLadder.l0] at h
 | k + 1 => by
  have ih0 := spec_l1Cur_sureLadder.mono_l k
  ·intro y0 y1 y2 y3 y4 y5
   unfold spec_l1Cur_sureLadder.l0
   repeat' first | (with_reducible first | exact ih0 _ _ _ _ _ _ | exact LeO.refl _ | exact LeO.none _ | refine LeO.ite ?_ ?_ | refine LeO.bind ?_ (fun _ => ?_))
theorem spec_l1Cur_sureLadder.mono : ∀ a0 a1 a2 a3 a4 k, LeO (spec_l1Cur_sureLadder.f k a0 a1 a2 a3 a4) (spec_l1Cur_sureLadder.f (k + 1) a0 a1 a2 a3 a4) := by
 intro a0 a1 a2 a3 a4 k
 have ih0 := spec_l1Cur_sureLadder.mono_l k
 unfold spec_l1Cur_sureLadder.f
 repeat' first | (with_reducible first | exact ih0 _ _ _ _ _ _ | exact LeO.refl _ | exact LeO.none _ | refine LeO.ite ?_ ?_ | refine LeO.bind ?_ (fun _ => ?_))
def spec_l1Cur_sureLadder.T5 : Bool × List (List Nat × List Nat) := (true, [([], []), ([0], [0]), ([], []), ([], []), ([3], [3]), ([4], [4]), ([2, 5], [2, 5]), ([6], [6]), ([1, 7, 6], [1, 7]), ([0, 1, 2, 3, 4, 5, 6, 7, 8], []), ([9, 8, 8, 0, 1, 2, 3, 4, 5, 6, 7, 8], [8, 9])])
def spec_l1Cur_sureLadder.B5 : List Nat := [0, 1, 0, 0, 8, 24, 60, 124, 255, 511, 1023]
theorem spec_l1Cur_sureLadder.tab5 : rtab .any (opsOf Try.f78 5) = spec_l1Cur_sureLadder.T5 := by kernel_rfl
theorem spec_l1Cur_sureLadder.bits5 : waitsOk spec_l1Cur_sureLadder.T5.2 spec_l1Cur_sureLadder.B5 = true := by kernel_rfl
theorem spec_l1Cur_sureLadder.calls (k : Nat) (g : Nat) (s0_0 : List Int) (s0_1 : Int) (s0_2 : Int) (a1 : Int) (a2 : Int) (r1 : Int) (r2 : List Int) (r3 : Int) (r4 : Int) (w0 w : World) (hI : IsS51 w0 w g s0_0 s0_1 s0_2) (hB : Below w0.heap.size w0 w) (h : spec_l1Cur_sureLadder.f k s0_0 s0_1 s0_2 a1 a2 = some (r1, r2, r3, r4)) :
  Calls Try.prog 78 #[.pointer (some ⟨g, 0, none⟩), .int .i64 a1, .int .i64 a2] w fun e w' => ∃ v1_ : Value, e = .returned (.agg #[.int .i64 r1, v1_]) ∧ Kd.R (Kd.int .i64) 3 w' w.heap.size (fun _ => True) v1_ r2 ∧ IsS51 w0 w' g s0_0 r3 r4 ∧ Below w0.heap.size w0 w' ∧ KeepBut w w' g none := by
 have hu34 := Try.underlying34
 have HI0 := am hI
 have HK := am (KeepBut.refl w g none)
 have HL := am hB.size
 clear hI
 have HW0 := am hB.size
 have HB := am hB
 clear hB
 have H : ((spec_l1Cur_pick.f s0_0 s0_1 s0_2 (wrap64 (a1 - 1))).bind fun bt382 => ((spec_l1Cur_pick.f s0_0 bt382.2.1 bt382.2.2 (wrap64 (a2 + 1))).bind fun bt386 => (spec_l1Cur_sureLadder.l0 k bt386.1 s0_0 bt386.2.1 bt386.2.2 (wrap64 (2 + bt382.1)) ([] : List Int)))) = some (r1, r2, r3, r4) := h
 clear h
 replace H := Option.bind_eq_some_iff.mp H
 obtain ⟨⟨t382, t383, t384⟩, A40, H⟩ := H
 (try dsimp only at H)
 have A4 := am A40
 clear A40
 replace H := Option.bind_eq_some_iff.mp H
 obtain ⟨⟨t386, t387, t388⟩, A50, H⟩ := H
 (try dsimp only at H)
 have A5 := am A50
 clear A50
 have H' := am H
 clear H
 go_enter Try.func78, Try.ntmps78
 go_wp2_with (first | ((with_reducible refine gate_dst (N := 6) rfl ?_); refine zE 6 (cs := #[.int .i64 0, .slice none 0 0]) 34 ?_; intro gb381 hg w6 hbox hb; have BK381 := am (hbox); have GW381 := am ((zq47 : w.heap.size ≤ gb381)); have GE381 := am ((Nat.le_trans HW0.out (zq47 : w.heap.size ≤ gb381) : w0.heap.size ≤ gb381)); have NB0_381 := am ((zq68 : g ≠ gb381)); have NB381_0 := am ((zq69 : gb381 ≠ g)); replace HK := am (KeepBut.trans zq4 (KeepBut.of_below hb g none) (.inl rfl)); replace HB := am (below_step zq5 hb); replace HI0 := am (IsS51.below zq2 hb); clear hb hbox hg) | ((with_reducible refine gate_callee (f := 45) rfl ?_); refine goesL_ (some 12) rfl rfl Try.func45 zq26 rfl #[.pointer (some ⟨g, 0, none⟩), .int .i64 (wrap64 (a1 - 1))] rfl zq1 ?_; (with_reducible refine (spec_l1Cur_pick.calls g s0_0 s0_1 s0_2 (wrap64 (a1 - 1)) t382 t383 t384 w0 _ ?side1 ?side2 A4.out).mono ?_); (case side1 => exact zq0); (case side2 => exact zq3); rintro e w7 ⟨rfl, hi, hb, hk⟩; refine ⟨_, rfl, ?_⟩; replace BK381 := am (KeepBut.blk hk (g' := gb381) (o := .cells #[.int .i64 0, .slice none 0 0] 34 (0, 0)) (pKq5 BK381) NB381_0.out zq66); replace HK := am (KeepBut.trans zq81 hk (.inl rfl)); replace HB := am (hb); replace HI0 := am (hi); (try clear hb hk hi)) | ((with_reducible refine gate_dst (N := 7) rfl ?_); refine zE 7 (cs := #[.int .i64 0, .slice none 0 0]) 34 ?_; intro gb385 hg w8 hbox hb; have BK385 := am (hbox); have GW385 := am ((by rw [hg]; exact (keep_size (w := w) (g := g) (row := none) zq81) : w.heap.size ≤ gb385)); have GE385 := am ((Nat.le_trans HW0.out (by rw [hg]; exact (keep_size (w := w) (g := g) (row := none) zq81) : w.heap.size ≤ gb385) : w0.heap.size ≤ gb385)); have NB381_385 := am ((by rw [hg]; exact Nat.ne_of_lt (blk_lt (pKq5 BK381)) : gb381 ≠ gb385)); have NB385_381 := am ((by rw [hg]; exact Nat.ne_of_gt (blk_lt (pKq5 BK381)) : gb385 ≠ gb381)); have NB0_385 := am ((by rw [hg]; exact Nat.ne_of_lt (IsS51.lt (show IsS51 w0 _ g s0_0 t383 t384 from zq0)) : g ≠ gb385)); have NB385_0 := am ((by rw [hg]; exact Nat.ne_of_gt (IsS51.lt (show IsS51 w0 _ g s0_0 t383 t384 from zq0)) : gb385 ≠ g)); replace BK381 := am (blk_below (pKq5 BK381) hb); replace HK := am (KeepBut.trans zq81 (KeepBut.of_below hb g none) (.inl rfl)); replace HB := am (below_step zq3 hb); replace HI0 := am (IsS51.below zq0 hb); clear hb hbox hg; have hnb9 := NB385_381.out; have hnc9 := NB381_385.out; have hnb10 := NB385_0.out; have hnc10 := NB0_385.out; have hcz11_0 : w8.cell? ⟨gb385, 0, none⟩ = some (.int .i64 0) := (blk_cell BK385.out 0).trans rfl; have hcz11_1 : w8.cell? ⟨gb385, 1, none⟩ = some (.slice none 0 0) := (blk_cell BK385.out 1).trans rfl; have hfz11_0 := blk_frozen BK385.out 0; have hfz11_1 := blk_frozen BK385.out 1) | ((with_reducible refine gate_callee (f := 45) rfl ?_); refine goesL_ (some 18) rfl rfl Try.func45 zq26 rfl #[.pointer (some ⟨g, 0, none⟩), .int .i64 (wrap64 (a2 + 1))] rfl zq1 ?_; (with_reducible refine (spec_l1Cur_pick.calls g s0_0 t383 t384 (wrap64 (a2 + 1)) t386 t387 t388 w0 _ ?side1 ?side2 A5.out).mono ?_); (case side1 => exact zq0); (case side2 => exact zq3); rintro e w12 ⟨rfl, hi, hb, hk⟩; refine ⟨_, rfl, ?_⟩; replace BK381 := am (KeepBut.blk hk (g' := gb381) (o := .cells #[.int .i64 0, .slice none 0 0] 34 (0, 0)) (by (with_reducible repeat (first | refine blk_drewN ?_ _ | refine blk_drew ?_ | refine blk_alloc ?_ _)); refine blk_far ?_ NB381_385.out _; (with_reducible repeat (first | refine blk_drewN ?_ _ | refine blk_drew ?_ | refine blk_alloc ?_ _)); refine blk_far ?_ NB381_385.out _; (with_reducible repeat (first | refine blk_drewN ?_ _ | refine blk_drew ?_ | refine blk_alloc ?_ _)); exact BK381.out) NB381_0.out zq66); replace BK385 := am (KeepBut.blk hk (g' := gb385) (o := .cells #[.int .i64 (wrap64 (2 + t382)), .slice none 0 0] 34 (0, 0)) (by (with_reducible repeat (first | refine blk_drewN ?_ _ | refine blk_drew ?_ | refine blk_alloc ?_ _)); refine blk_put (cs := #[.int .i64 (wrap64 (2 + t382)), .slice none 0 0]) ?_ 1 _ rfl; (with_reducible repeat (first | refine blk_drewN ?_ _ | refine blk_drew ?_ | refine blk_alloc ?_ _)); refine blk_put (cs := #[.int .i64 0, .slice none 0 0]) ?_ 0 _ rfl; (with_reducible repeat (first | refine blk_drewN ?_ _ | refine blk_drew ?_ | refine blk_alloc ?_ _)); exact BK385.out) NB385_0.out zq66); replace HK := am (KeepBut.trans zq40 hk (.inl rfl)); replace HB := am (hb); replace HI0 := am (hi); (try clear hb hk hi)))
 go_loopg [8] k (fun kq v8 w' => ∃ (x8_1 : Int) (x1001_1 : Int) (x1002_1 : Int) (x386001_1 : List Int) (u386001 : Value), v8 = .int .i64 x8_1 ∧ Aside0 (spec_l1Cur_sureLadder.l0 kq x8_1 s0_0 x1001_1 x1002_1 (wrap64 (2 + t382)) x386001_1 = some (r1, r2, r3, r4)) ∧ Aside0 (kq ≤ k) ∧ Aside0 (Kd.R (Kd.int .i64) 3 w' w.heap.size (fun _ => True) u386001 x386001_1) ∧ Aside0 (w'.heap[gb381]? = some (.cells #[.int .i64 0, (.slice none 0 0)] 34 (0, 0))) ∧ Aside0 (w'.heap[gb385]? = some (.cells #[.int .i64 (wrap64 (2 + t382)), u386001] 34 (0, 0))) ∧ Aside0 (IsS51 w0 w' g s0_0 x1001_1 x1002_1) ∧ Aside0 (KeepBut w w' g none) ∧ Aside0 (Below w0.heap.size w0 w'))
 case atStart => exact ⟨(t386), (t387), (t388), (([] : List Int)), (.slice none 0 0), zq13, H', ⟨Nat.le_refl _⟩, ⟨zq24⟩, ⟨by (with_reducible repeat (first | refine blk_drewN ?_ _ | refine blk_drew ?_ | refine blk_alloc ?_ _)); exact BK381.out⟩, ⟨by (with_reducible repeat (first | refine blk_drewN ?_ _ | refine blk_drew ?_ | refine blk_alloc ?_ _)); exact BK385.out⟩, ⟨zq0⟩, ⟨zq40⟩, ⟨zq3⟩⟩
 case round =>
  clear H'
  try clear c1
  try clear p2
  try clear c4
  try clear p6
  try clear c7
  try clear c9
  try clear c10
  try clear hcz11_0
  try clear hcz11_1
  try clear hfz11_0
  try clear hfz11_1
  obtain ⟨x8_1, x1001_1, x1002_1, x386001_1, u386001, rfl, HA, HK1, HO_386001, BK381, BK385, HI0, HK, HB⟩ := hrel
  cases gk with
  | zero => exact absurd HA.out (by simp [spec_l1Cur_sureLadder.l0])
  | succ k1 =>
   have H := HA.out
   clear HA
   simp only [spec_l1Cur_sureLadder.l0] at H
   by_cases c13 : x8_1 > 0
   ·rw [if_pos c13] at H
    have c13b0 : decide (0 < x8_1) = true := decide_eq_true c13
    clear c13
    replace H := Option.bind_eq_some_iff.mp H
    obtain ⟨⟨t389, t390, t391⟩, A140, H⟩ := H
    (try dsimp only at H)
    have A14 := am A140
    clear A140
    by_cases c15 : x386001_1.length < 17592186044416
    ·rw [if_pos c15] at H
     have LMc15 := am c15
     clear c15
     obtain ⟨y392, hy392⟩ : ∃ y_ : List Int, y_ = (x386001_1 ++ [t389]) := ⟨_, rfl⟩
     replace H : (spec_l1Cur_sureLadder.l0 k1 (wrap64 (x8_1 - 1)) s0_0 t390 t391 (wrap64 (2 + t382)) y392) = some (r1, r2, r3, r4) := by first | (rw [hy392]; exact zH) | exact zH
     have Ny392 := am hy392
     clear hy392
     have H' := am H
     clear H
     try go_wp2
     replace HO_386001 := am (Kd.R_drew HO_386001.out)
     replace BK381 := am (blk_drew BK381.out)
     replace BK385 := am (blk_drew BK385.out)
     replace HI0 := am (IsS51.drew HI0.out)
     replace HK := am (keep_drew HK.out)
     replace HB := am (below_drew1 HB.out)
     refine start_ (n := 11) (S := fun w' => w'.cell? ⟨gb385, 0, none⟩ = some (.int .i64 (wrap64 (2 + t382))) ∧ w'.cell? ⟨gb385, 1, none⟩ = some (u386001)) (ds := [10]) #[false, false, false, false, false, false, false, false, false, false, false] zq26 rfl rfl ⟨(blk_cell BK385.out 0).trans rfl, (blk_cell BK385.out 1).trans rfl⟩ (fun hHeld => ?_); refine with_tabW spec_l1Cur_sureLadder.tab5 spec_l1Cur_sureLadder.bits5 (fun HT_ HW_ => ?_)
     generalize wr.drew = w16 at HO_386001 BK381 BK385 HI0 HK HB hHeld ⊢
     refine zU 0 23 HT_ ?_
     refine zU 2 25 HT_ ?_
     refine zU 3 26 HT_ ?_
     refine zT 1 24 HT_ HW_ hHeld ?_
     refine zT 4 27 HT_ HW_ hHeld ?_
     refine zU 5 28 HT_ ?_
     refine zO 6 29 HT_ fun K hK => ?_
     refine goes_ Try.func45 zq26 rfl #[.pointer (some ⟨g, 0, none⟩), .int .i64 (wrap64 ((wrap64 (2 + t382)) - 1))] (by rfl) rfl rfl zq1 ?_
     with_reducible refine (spec_l1Cur_pick.calls g s0_0 x1001_1 x1002_1 (wrap64 ((wrap64 (2 + t382)) - 1)) t389 t390 t391 w0 _ ?side1 ?side2 A14.out).mono ?_
     (case side1 => exact zq0)
     (case side2 => exact zq3)
     rintro e w17 ⟨rfl, hi, hb, hk⟩
     refine ⟨_, rfl, ?_⟩
     replace HO_386001 := am (Kd.R_mono (Kd.R_keep (IsS51.apart (show IsS51 w0 _ g s0_0 x1001_1 x1002_1 from zq0) (pRq5 HO_386001) zq36) hk (fun _ h => h.2)) (fun _ h => h.1))
     replace BK381 := am (KeepBut.blk hk (g' := gb381) (o := .cells #[.int .i64 0, .slice none 0 0] 34 (0, 0)) (pKq5 BK381) NB381_0.out zq66)
     replace BK385 := am (KeepBut.blk hk (g' := gb385) (o := .cells #[.int .i64 (wrap64 (2 + t382)), u386001] 34 (0, 0)) (pKq5 BK385) NB385_0.out zq66)
     replace HK := am (KeepBut.trans zq40 hk (.inl rfl))
     replace HB := am (hb)
     replace HI0 := am (hi)
     (try clear hb)
     (try clear hb2)
     (try clear hk)
     (try clear hi)
     refine hK.out _ _ ⟨(blk_cell BK385.out 0).trans rfl, (blk_cell BK385.out 1).trans rfl⟩ (fun hHeld => ?_)
     clear hK K
     refine zN 29 ?_
     refine zO 7 30 HT_ fun K hK => ?_
     refine value_ (w1 := ?_) (v := ?_) (by rfl) rfl ?_ ?_
     rotate_left 2
     ·go_simp
      constructor
      ·rfl
      ·rfl
     refine hK.out _ _ ⟨(blk_cell (blk_alloc BK385.out _) 0).trans rfl, (blk_cell (blk_alloc BK385.out _) 1).trans rfl⟩ (fun hHeld => ?_)
     clear hK K
     refine zN 30 ?_
     refine zO 8 31 HT_ fun K hK => ?_
     refine Kd.R_append_step (Kd.int .i64) w.heap.size (by rfl) (.tmp 24) (.tmp 30) 24 3 (.int .i64 0) 8 rfl Try.underlying24 info3 rfl zq36 zq62 u386001 x386001_1 t389 [.int .i64 t389] (fun _ => True) (fun _ => False) rfl rfl ?aP (fun _ hk => hk.elim) ?aF ?aO (Below.refl _ _) ?aS ?aL ?_
     (case aP => exact rfl)
     (case aF => exact zq145)
     (case aO => exact (pRq5 HO_386001))
     (case aS => exact (keep_size (w := w) (g := g) (row := none) zq40))
     (case aL => have := LMc15.out; omega)
     intro v393 w18 ho hb hg hat
     rw [← Ny392.out] at ho
     have HO394 := am (ho)
     replace BK381 := am (blk_grown (g := gb381) (o := .cells #[.int .i64 0, .slice none 0 0] 34 (0, 0)) (pKq5 BK381) hg (Kd.R_ne HO_386001.out BK381.out zq36))
     replace BK385 := am (blk_grown (g := gb385) (o := .cells #[.int .i64 (wrap64 (2 + t382)), u386001] 34 (0, 0)) (pKq5 BK385) hg (Kd.R_ne HO_386001.out BK385.out zq36))
     replace HB := am (below_weaken zq3 HL.out hb)
     replace HI0 := am (IsS51.grown zq0 hg (IsS51.own_ne HI0.out HO_386001.out zq36))
     replace HK := am (KeepBut.trans zq40 (KeepBut.of_grown hg g) (Kd.R_base2 HO_386001.out))
     clear HO_386001
     clear ho hb hg hat
     obtain ⟨Ao19, co19, eo19⟩ := Kd.R_slice HO394.out
     (first | subst eo19 | (injection eo19 with f1_ f2_ f3_; have f4_ := f1_.symm; have f5_ := f3_.symm; clear f1_ f2_ f3_; subst f4_; subst f5_))
     refine hK.out _ _ ⟨(blk_cell BK385.out 0).trans rfl, (blk_cell BK385.out 1).trans rfl⟩ (fun hHeld => ?_)
     clear hK K
     refine zN 31 ?_
     refine zU 9 32 HT_ ?_
     refine last_ (i := 10) (N := none) #[true, true, true, true, true, true, true, true, true, true, true] rfl rfl (one_of HT_.out zq26) zq36 (fun K hK => ?_)
     have hs20 : w18.cell? ⟨gb385, 1, none⟩ = some (u386001) := (blk_cell BK385.out 1).trans rfl
     have hfs20 := blk_frozen BK385.out 1
     have hns20_0 := NB381_385.out
     have hms20_0 := NB385_381.out
     refine skip_ (w1 := ?_) (by rfl) rfl ?_ ?_
     rotate_left
     ·go_simp
      rfl
     refine hK.out _ _ ?_
     clear hK K
     refine done_ (done_of HT_.out zq26) ?_
     try go_wp2
     go_roundg k1
     case measure => have := HK1.out; omega
     case rel => exact ⟨(wrap64 (x8_1 - 1)), (t390), (t391), (y392), (.slice Ao19 y392.length co19), zq13, H', ⟨zq101⟩, ⟨by (with_reducible repeat (first | apply Kd.R_alloc | apply Kd.R_drewN | apply Kd.R_drew)); exact Kd.R_mono (Kd.R_far (p := ⟨gb385, 1, none⟩) (Kd.R_types HO394.out BK385.out zq36) (fun _ hk => hk.2) (.slice Ao19 y392.length co19)) (fun _ hk => trivial)⟩, ⟨by (with_reducible repeat (first | refine blk_drewN ?_ _ | refine blk_drew ?_ | refine blk_alloc ?_ _)); refine blk_far ?_ NB381_385.out _; (with_reducible repeat (first | refine blk_drewN ?_ _ | refine blk_drew ?_ | refine blk_alloc ?_ _)); exact BK381.out⟩, ⟨by (with_reducible repeat (first | refine blk_drewN ?_ _ | refine blk_drew ?_ | refine blk_alloc ?_ _)); refine blk_put (cs := #[.int .i64 (wrap64 (2 + t382)), u386001]) ?_ 1 _ rfl; (with_reducible repeat (first | refine blk_drewN ?_ _ | refine blk_drew ?_ | refine blk_alloc ?_ _)); exact BK385.out⟩, ⟨zq0⟩, ⟨zq40⟩, ⟨zq3⟩⟩
    ·rw [if_neg c15] at H
     exact absurd H zq66
   ·rw [if_neg c13] at H
    have c13b0 : decide (0 < x8_1) = false := decide_eq_false c13
    clear c13
    simp only [Option.some.injEq, Prod.mk.injEq] at H
    obtain ⟨rfl, rfl, rfl, rfl⟩ := H
    have hnb21 := NB385_381.out
    have hnc21 := NB381_385.out
    have hnb22 := NB385_0.out
    have hnc22 := NB0_385.out
    have hcz23_0 : wr.cell? ⟨gb385, 0, none⟩ = some (.int .i64 (wrap64 (2 + t382))) := (blk_cell BK385.out 0).trans rfl
    have hcz23_1 : wr.cell? ⟨gb385, 1, none⟩ = some (u386001) := (blk_cell BK385.out 1).trans rfl
    have hfz23_0 := blk_frozen BK385.out 0
    have hfz23_1 := blk_frozen BK385.out 1
    have hnb24 := NB381_0.out
    have hnc24 := NB0_381.out
    have hcz25_0 : wr.cell? ⟨gb381, 0, none⟩ = some (.int .i64 0) := (blk_cell BK381.out 0).trans rfl
    have hcz25_1 : wr.cell? ⟨gb381, 1, none⟩ = some (.slice none 0 0) := (blk_cell BK381.out 1).trans rfl
    have hfz25_0 := blk_frozen BK381.out 0
    have hfz25_1 := blk_frozen BK381.out 1
    obtain ⟨Ao26, co26, eo26⟩ := Kd.R_slice HO_386001.out
    subst eo26
    go_wp2
    refine bodyPost_ret (results_cell_row rfl _ _ gb381 34 #[.int .i64 (wrap64 (2 + t382)), .slice Ao26 x386001_1.length co26] (0, 0) _ rfl (by (with_reducible repeat (first | refine blk_drewN ?_ _ | refine blk_drew ?_ | refine blk_alloc ?_ _)); refine blk_put (cs := #[.int .i64 (wrap64 (2 + t382)), .slice none 0 0]) ?_ 1 _ rfl; (with_reducible repeat (first | refine blk_drewN ?_ _ | refine blk_drew ?_ | refine blk_alloc ?_ _)); refine blk_put (cs := #[.int .i64 0, .slice none 0 0]) ?_ 0 _ rfl; (with_reducible repeat (first | refine blk_drewN ?_ _ | refine blk_drew ?_ | refine blk_alloc ?_ _)); exact BK381.out) Try.underlying34 rfl zq26) rfl ?_
    exact ⟨_, zq11, by (with_reducible repeat (first | apply Kd.R_alloc | apply Kd.R_drewN | apply Kd.R_drew)); exact Kd.R_mono (Kd.R_far (p := ⟨gb381, 1, none⟩) (Kd.R_far (p := ⟨gb381, 0, none⟩) (Kd.R_types HO_386001.out BK381.out zq36) (fun _ hk => hk.2) (.int .i64 (wrap64 (2 + t382)))) (fun _ hk => hk.2) (.slice Ao26 x386001_1.length co26)) (fun _ hk => trivial), zq0, zq3, zq40⟩
end
end Go.Proofs.Ytdeoeogdnagibaa.PLi
