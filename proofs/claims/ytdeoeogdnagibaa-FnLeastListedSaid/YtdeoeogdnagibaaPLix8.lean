-- Written for this claim by a program of this session (myprint.py) over the kit's printer.
import Derived.Test.YtdeoeogdnagibaaPLix0
import Derived.Test.YtdeoeogdnagibaaPLix2
import Derived.Test.YtdeoeogdnagibaaPLix3
import Derived.Test.YtdeoeogdnagibaaPLix4
import Derived.Test.YtdeoeogdnagibaaPLix6
namespace Go.Proofs.Ytdeoeogdnagibaa.PLi
noncomputable section
open Go.RowKit Go.Proofs.YtdeoeogdnagibaaW.PrintWords Go.Proofs.YtdeoeogdnagibaaW.PrintLast Go.Proofs.YtdeoeogdnagibaaW.PrintMore
attribute [local go_sem] max2_int min2_int max_two min_two max_three min_three max_four min_four   -- for this text's walks alone
set_option maxHeartbeats 8000000
set_option maxRecDepth 100000
set_option linter.unusedVariables false
set_option linter.unusedSimpArgs false
theorem pRq8 {α : Type} {d : Kd α} {e base : Nat} {ok : Nat → Prop} {v : Value} {xs : List α} {w W : World} (h0 : Aside0 (Kd.R d e w base ok v xs)) (hp : Kd.R d e W base ok v xs := by (with_reducible repeat (first | apply Kd.R_alloc | apply Kd.R_drewN | apply Kd.R_drew)); exact Aside0.out (by with_reducible assumption)) : Kd.R d e W base ok v xs := hp
theorem pKq8 {g : Nat} {o : Obj} {w W : World} (h0 : Aside0 (w.heap[g]? = some o)) (hp : W.heap[g]? = some o := by (with_reducible repeat (first | refine blk_drewN ?_ _ | refine blk_drew ?_ | refine blk_alloc ?_ _)); exact Aside0.out (by with_reducible assumption)) : W.heap[g]? = some o := hp
theorem pBq8 {b : Nat} {w0 w W : World} (h0 : Aside0 (Below b w0 w)) (hp : Below b w0 W := by repeat (first | (with_reducible first | exact Aside0.out (by assumption) | apply below_alloc | apply pw_below_drewN | apply below_drew1 | refine below_set ?_ (Aside0.out (by assumption))))) : Below b w0 W := hp
/-! ### spec_LeastOfRank: function 25 -/
open Classical in
noncomputable def spec_LeastOfRank.ev {α : Type} (g : Nat → Option α) : Option α := if h : ∃ k r, g k = some r then g h.choose else none
theorem spec_LeastOfRank.ev_some {α : Type} {g : Nat → Option α} {r : α} (h : spec_LeastOfRank.ev g = some r) : ∃ k, g k = some r := by
 unfold spec_LeastOfRank.ev at h
 split at h
 ·exact ⟨_, h⟩
 ·cases h
def spec_LeastOfRank.nw (n : Int) : Option Int := if n ≤ 8 then some 0 else none
noncomputable def spec_LeastOfRank.ct (n : Int) (l : List Int) : Option Int := spec_alCounter_count.g (spec_alNew.fc n.toNat) n.toNat 16 l
mutual
noncomputable def spec_LeastOfRank.j0 : Nat → List Int → Int → Bool → Option (Int × List Int × Bool)
 | 0, _, _, _ => none
 | k + 1, x0, x1, x17 => if x17 = true then (some (0, ([] : List Int), false)) else ((spec_LeastOfRank.nw (x0.length : Int)).bind fun t146 => ((spec_LeastOfRank.ct (x0.length : Int) x0).bind fun t147 => (if x1 ≥ t147 then (some (0, ([] : List Int), false)) else ((spec_LeastOfRank.ev fun k_ => spec_lsInversions.f k_ x0).bind fun t149 => (spec_LeastOfRank.l0 k x0 x1 t146 (t149.length : Int) (x0.length : Int) ([] : List Int))))))
noncomputable def spec_LeastOfRank.l0 : Nat → List Int → Int → Int → Int → Int → List Int → Option (Int × List Int × Bool)
 | 0, _, _, _, _, _, _ => none
 | k + 1, x0, x1, x6, x8, x149000, x149001 => if x8 > 0 then (spec_LeastOfRank.l1 k x0 x1 x6 x8 0 x149000 x149001) else (some (x149000, x149001, true))
noncomputable def spec_LeastOfRank.l1 : Nat → List Int → Int → Int → Int → Int → Int → List Int → Option (Int × List Int × Bool)
 | 0, _, _, _, _, _, _, _ => none
 | k + 1, x0, x1, x6, x8, x9, x149000, x149001 => if (wrap64 (x9 + 1)) < (x0.length : Int) then (if 0 ≤ x9 then (if x9 < (x0.length : Int) then (if 0 ≤ (wrap64 (x9 + 1)) then (if (rd x0 x9) < (rd x0 (wrap64 (x9 + 1))) then (spec_LeastOfRank.l1 k x0 x1 x6 x8 (wrap64 (x9 + 1)) x149000 x149001) else ((spec_alSwap.f x0 x9).bind fun t154 => ((spec_LeastOfRank.ct x149000 t154).bind fun t157 => (if x1 < t157 then (if x149001.length < 17592186044416 then ((spec_alSwap.f x0 x9).bind fun t161 => (spec_LeastOfRank.l0 k t161 x1 x6 (wrap64 (x8 - 1)) x149000 (x149001 ++ [x9]))) else (none)) else (spec_LeastOfRank.l1 k x0 (wrap64 (x1 - t157)) x6 x8 (wrap64 (x9 + 1)) x149000 x149001))))) else (none)) else (none)) else (none)) else (spec_LeastOfRank.l0 k x0 x1 x6 (wrap64 (x8 - 1)) x149000 x149001)
end
noncomputable def spec_LeastOfRank.g (k : Nat) (l0 : List Int) (a1 : Int) : Option (Int × List Int × Bool) := (spec_LeastOfRank.ev fun k_ => spec_alGood.f k_ l0).bind fun t145 => (if t145 = true then (spec_LeastOfRank.j0 k l0 a1 (decide (a1 < 0))) else (spec_LeastOfRank.j0 k l0 a1 true))
theorem spec_LeastOfRank.farB {w : World} {g : Nat} {o : Obj} (h : w.heap[g]? = some o) {p : Addr} (hp : g ≠ p.block) (u : Value) : (w.setCell p u).heap[g]? = some o := (Below.heap_setCell w p u g hp).trans h
theorem spec_LeastOfRank.newM {α : Type} {d : Kd α} {e B G : Nat} {w1 W w : World} {ok : Nat → Prop} {v : Value} {xs : List α} (h : d.R e w1 W.heap.size ok v xs) (hle : w.heap.size ≤ W.heap.size) (hB : B < W.heap.size) (hG : G < W.heap.size) : d.R e w1 W.heap.size (fun k_ => (w.heap.size ≤ k_ ∧ (k_ ≠ B ∧ k_ ≠ G)) ∧ ok k_) v xs :=
 Kd.R_mono (Kd.R_bound h) (fun k hk => ⟨⟨Nat.le_trans hle hk.2.1, by have := hk.2.1; omega, by have := hk.2.1; omega⟩, hk.1⟩)
theorem spec_LeastOfRank.newMS {α : Type} {d : Kd α} {e B G : Nat} {w1 W w : World} {ok : Nat → Prop} {v : Value} {xs : List α} (h : Kd.S d e w1 W.heap.size ok v xs) (hle : w.heap.size ≤ W.heap.size) (hB : B < W.heap.size) (hG : G < W.heap.size) : Kd.S d e w1 W.heap.size (fun k_ => (w.heap.size ≤ k_ ∧ (k_ ≠ B ∧ k_ ≠ G)) ∧ ok k_) v xs :=
 Kd.S_mono (Kd.S_bound h) (fun k hk => ⟨⟨Nat.le_trans hle hk.2.1, by have := hk.2.1; omega, by have := hk.2.1; omega⟩, hk.1⟩)
def spec_LeastOfRank.MBX (w w0 : World) (B G n : Nat) : Prop := ∃ o o2, w.heap[B]? = some o ∧ w.heap[G]? = some o2 ∧ ∀ W : World, W.heap[B]? = some o → W.heap[G]? = some o2 → spec_alCounter_count.Mem w0.heap.size W B G (spec_alNew.fc n) n
theorem spec_LeastOfRank.after {w w0 : World} {B G n : Nat} (hm : spec_alCounter_count.Mem w0.heap.size w B G (spec_alNew.fc n) n) : spec_LeastOfRank.MBX w w0 B G n := by
 have hl := hm.lt (spec_alNew.fc_pos n)
 obtain ⟨o, ho⟩ : ∃ o, w.heap[B]? = some o := ⟨_, Array.getElem?_eq_getElem hl.1⟩
 obtain ⟨o2, ho2⟩ : ∃ o, w.heap[G]? = some o := ⟨_, Array.getElem?_eq_getElem hl.2⟩
 refine ⟨o, o2, ho, ho2, fun W hW hW2 => ?_⟩
 obtain ⟨h1, h2, C, kn, h3, h4, h5, h6⟩ := hm
 exact ⟨h1, h2, C, kn, hW.trans (ho.symm.trans h3), h4, Kd.R_move h5 (fun k_ e_ => by rw [e_]; exact hW2.trans ho2.symm), h6⟩
theorem spec_LeastOfRank.nw_le {n : Nat} {t : Int} (h : spec_LeastOfRank.nw (n : Int) = some t) : n ≤ 8 := by
 unfold spec_LeastOfRank.nw at h
 split at h
 ·omega
 ·cases h
theorem spec_LeastOfRank.ct_out {n : Nat} {l : List Int} {r : Int} (h : spec_LeastOfRank.ct (n : Int) l = some r) : spec_alCounter_count.g (spec_alNew.fc n) n 16 l = some r := by
 unfold spec_LeastOfRank.ct at h
 rw [Int.toNat_natCast] at h
 exact h
theorem spec_LeastOfRank.calls_g (k : Nat) (hkk : k ≤ 200) (P0_ : Nat → Prop) (A0 : Option Addr) (c0 : Nat) (l0 : List Int) (a1 : Int) (r1 : Int) (r2 : List Int) (r3 : Bool) (w : World) (hs0 : Kd.V (Kd.int .i64) 3 w w.heap.size (fun k_ => P0_ k_) (.slice A0 l0.length c0) l0) (h : spec_LeastOfRank.g k l0 a1 = some (r1, r2, r3)) :
  Calls Try.prog 25 #[.slice A0 l0.length c0, .int .i64 a1] w fun e w' => ∃ v1_ : Value, e = .returned (.tuple #[.agg #[.int .i64 r1, v1_], .bool r3]) ∧ Kd.R (Kd.int .i64) 3 w' w.heap.size (fun _ => True) v1_ r2 ∧ Below w.heap.size w w' := by
 have hu34 := Try.underlying34
 have HO0 := am (show Kd.V (Kd.int .i64) 3 w w.heap.size (fun k_ => (P0_ k_ ∨ w.heap.size ≤ k_)) (.slice A0 l0.length c0) l0 from Kd.V_mono hs0 (fun k_ hk => .inl hk))
 have HB := am (Below.refl w.heap.size w)
 have HKK := am hkk
 clear hkk
 have H : ((spec_LeastOfRank.ev fun k_ => spec_alGood.f k_ l0).bind fun t145 => (if t145 = true then (spec_LeastOfRank.j0 k l0 a1 (decide (a1 < 0))) else (spec_LeastOfRank.j0 k l0 a1 true))) = some (r1, r2, r3) := h
 clear h
 have HC3 := am H
 clear H
 go_enter Try.func25, Try.ntmps25
 go_upto_region 1 with (first | ((with_reducible refine gate_dst (N := 4) rfl ?_); refine zE 4 (cs := #[.int .i64 0, .slice none 0 0]) 34 ?_; intro gb144 hg w4 hbox hb; have BK144 := am (hbox); have GW144 := am ((zq84 : w.heap.size ≤ gb144)); have GE144 := am ((zq84 : w.heap.size ≤ gb144)); replace HO0 := am (Kd.V_below (Kd.V_elderB zq38 gb144 (Nat.le_of_eq hg.symm)) hb); replace HB := am (below_step (pBq8 HB) hb); clear hb hbox hg))
 repeat (go_quiet (first | ((with_reducible refine gate_dst (N := 4) rfl ?_); refine zE 4 (cs := #[.int .i64 0, .slice none 0 0]) 34 ?_; intro gb144 hg w4 hbox hb; have BK144 := am (hbox); have GW144 := am ((zq84 : w.heap.size ≤ gb144)); have GE144 := am ((zq84 : w.heap.size ≤ gb144)); replace HO0 := am (Kd.V_below (Kd.V_elderB zq38 gb144 (Nat.le_of_eq hg.symm)) hb); replace HB := am (below_step (pBq8 HB) hb); clear hb hbox hg)); go_upto_region 1 with (first | ((with_reducible refine gate_dst (N := 4) rfl ?_); refine zE 4 (cs := #[.int .i64 0, .slice none 0 0]) 34 ?_; intro gb144 hg w4 hbox hb; have BK144 := am (hbox); have GW144 := am ((zq84 : w.heap.size ≤ gb144)); have GE144 := am ((zq84 : w.heap.size ≤ gb144)); replace HO0 := am (Kd.V_below (Kd.V_elderB zq38 gb144 (Nat.le_of_eq hg.symm)) hb); replace HB := am (below_step (pBq8 HB) hb); clear hb hbox hg)))
 (try simp only [Act.put, List.setIfInBounds_toArray, List.set_cons_zero, List.set_cons_succ])
 go_cut [17] (fun v17 wc => ∃ (kq : Nat) (x17_2 : Bool), v17 = .bool x17_2 ∧ Aside0 (spec_LeastOfRank.j0 kq l0 a1 x17_2 = some (r1, r2, r3)) ∧ Aside0 (kq ≤ k) ∧ Aside0 (Kd.V (Kd.int .i64) 3 wc w.heap.size (fun k_ => (P0_ k_ ∨ w.heap.size ≤ k_) ∧ k_ ≠ gb144) (.slice A0 l0.length c0) l0) ∧ Aside0 (wc.heap[gb144]? = some (.cells #[.int .i64 0, (.slice none 0 0)] 34 (0, 0))) ∧ Aside0 (Below w.heap.size w wc))
 case first =>
  have H := HC3.out
  clear HC3
  replace H := Option.bind_eq_some_iff.mp H
  obtain ⟨t145, A50, H⟩ := H
  (try dsimp only at H)
  obtain ⟨ka5_, A50⟩ := spec_LeastOfRank.ev_some A50
  have A5 := am A50
  clear A50
  by_cases c6 : t145 = true
  ·subst c6
   rw [if_pos rfl] at H
   have H' := am H
   clear H
   go_wp2_with (first | (go_at_call 33; (with_reducible refine (spec_alGood.calls _ _ _ l0 true _ ?side1 ?side2 A5.out).mono ?_); (case side1 => exact zq33); (case side2 => exact zq143); rintro e w' ⟨rfl, ⟨nd, rfl⟩⟩; (try first | exact ⟨rfl, _, World.drewN_drewN _ _ _⟩ | exact ⟨rfl, _, Eq.trans (World.drewN_drewN _ _ _) (congrArg (World.drewN _) (Nat.add_assoc _ _ _))⟩)))
   repeat (go_quiet (first | (go_at_call 33; (with_reducible refine (spec_alGood.calls _ _ _ l0 true _ ?side1 ?side2 A5.out).mono ?_); (case side1 => exact zq33); (case side2 => exact zq143); rintro e w' ⟨rfl, ⟨nd, rfl⟩⟩; (try first | exact ⟨rfl, _, World.drewN_drewN _ _ _⟩ | exact ⟨rfl, _, Eq.trans (World.drewN_drewN _ _ _) (congrArg (World.drewN _) (Nat.add_assoc _ _ _))⟩))); try go_wp2_with (first | (go_at_call 33; (with_reducible refine (spec_alGood.calls _ _ _ l0 true _ ?side1 ?side2 A5.out).mono ?_); (case side1 => exact zq33); (case side2 => exact zq143); rintro e w' ⟨rfl, ⟨nd, rfl⟩⟩; (try first | exact ⟨rfl, _, World.drewN_drewN _ _ _⟩ | exact ⟨rfl, _, Eq.trans (World.drewN_drewN _ _ _) (congrArg (World.drewN _) (Nat.add_assoc _ _ _))⟩))))
   go_meet
   case rel => exact ⟨_, (decide (a1 < 0)), zq13, H', ⟨by first | omega | exact Nat.le_refl _⟩, ⟨zq38⟩, ⟨zq61⟩, ⟨zq10⟩⟩
  ·replace c6 := Bool.eq_false_iff.mpr c6
   subst c6
   rw [if_neg (show ¬ (false = true) by decide)] at H
   have H' := am H
   clear H
   go_wp2_with (first | (go_at_call 33; (with_reducible refine (spec_alGood.calls _ _ _ l0 false _ ?side1 ?side2 A5.out).mono ?_); (case side1 => exact zq33); (case side2 => exact zq143); rintro e w' ⟨rfl, ⟨nd, rfl⟩⟩; (try first | exact ⟨rfl, _, World.drewN_drewN _ _ _⟩ | exact ⟨rfl, _, Eq.trans (World.drewN_drewN _ _ _) (congrArg (World.drewN _) (Nat.add_assoc _ _ _))⟩)))
   repeat (go_quiet (first | (go_at_call 33; (with_reducible refine (spec_alGood.calls _ _ _ l0 false _ ?side1 ?side2 A5.out).mono ?_); (case side1 => exact zq33); (case side2 => exact zq143); rintro e w' ⟨rfl, ⟨nd, rfl⟩⟩; (try first | exact ⟨rfl, _, World.drewN_drewN _ _ _⟩ | exact ⟨rfl, _, Eq.trans (World.drewN_drewN _ _ _) (congrArg (World.drewN _) (Nat.add_assoc _ _ _))⟩))); try go_wp2_with (first | (go_at_call 33; (with_reducible refine (spec_alGood.calls _ _ _ l0 false _ ?side1 ?side2 A5.out).mono ?_); (case side1 => exact zq33); (case side2 => exact zq143); rintro e w' ⟨rfl, ⟨nd, rfl⟩⟩; (try first | exact ⟨rfl, _, World.drewN_drewN _ _ _⟩ | exact ⟨rfl, _, Eq.trans (World.drewN_drewN _ _ _) (congrArg (World.drewN _) (Nat.add_assoc _ _ _))⟩))))
   go_meet
   case rel => exact ⟨_, (true), zq13, H', ⟨by first | omega | exact Nat.le_refl _⟩, ⟨zq38⟩, ⟨zq61⟩, ⟨zq10⟩⟩
 case rest =>
  clear HC3
  try clear c1
  try clear p2
  try clear c6
  obtain ⟨kq, x17_2, rfl, HA, HJ2, HO_0, BK144, HB⟩ := hcut
  cases kq with
  | zero => exact absurd HA.out (by simp [spec_LeastOfRank.j0])
  | succ kj2 =>
   have H := HA.out
   clear HA
   simp only [spec_LeastOfRank.j0] at H
   by_cases c7 : x17_2 = true
   ·subst c7
    rw [if_pos rfl] at H
    simp only [Option.some.injEq, Prod.mk.injEq] at H
    obtain ⟨rfl, rfl, rfl⟩ := H
    have hcz8_0 : wc.cell? ⟨gb144, 0, none⟩ = some (.int .i64 0) := (blk_cell BK144.out 0).trans rfl
    have hcz8_1 : wc.cell? ⟨gb144, 1, none⟩ = some (.slice none 0 0) := (blk_cell BK144.out 1).trans rfl
    have hfz8_0 := blk_frozen BK144.out 0
    have hfz8_1 := blk_frozen BK144.out 1
    go_wp2
    repeat (go_quiet (fail); try go_wp2)
    refine bodyPost_ret (results_ct rfl _ _ gb144 34 #[.int .i64 0, .slice none 0 0] (0, 0) _ rfl zq98 Try.underlying34 rfl zq26) rfl ?_
    exact ⟨_, zq11, zq24, zq10⟩
   ·replace c7 := Bool.eq_false_iff.mpr c7
    subst c7
    rw [if_neg (show ¬ (false = true) by decide)] at H
    replace H := Option.bind_eq_some_iff.mp H
    obtain ⟨t146, A90, H⟩ := H
    (try dsimp only at H)
    have A9 := am A90
    have H8 := am (spec_LeastOfRank.nw_le A9.out)
    clear A90
    obtain ⟨t147, A10, H⟩ := zS H
    (try dsimp only at H)
    by_cases c11 : a1 ≥ t147
    ·rw [if_pos c11] at H
     have c11b0 : decide (t147 ≤ a1) = true := decide_eq_true c11
     clear c11
     simp only [Option.some.injEq, Prod.mk.injEq] at H
     obtain ⟨rfl, rfl, rfl⟩ := H
     go_wp2_with (first | (go_at_call 34; (refine (spec_alNew.calls l0.length H8.out _).mono ?_); rintro e w12 ⟨v2_, rfl, hm0_, hb⟩; obtain ⟨B, G, rfl, hBw_, hGw_, hM_⟩ := spec_alCounter_count.Mem.made hm0_; have q1_ := Kd.V_elderB zq15 B hBw_; have q2_ := Kd.V_elderB q1_ G hGw_; have q3_ := Kd.V_below q2_ hb; have n0_ := am (Kd.V_mono (ok' := fun k_ => ((P0_ k_ ∨ w.heap.size ≤ k_) ∧ (k_ ≠ B ∧ k_ ≠ G)) ∧ k_ ≠ gb144) q3_ (fun k_ hk => ⟨⟨hk.1.1.1, hk.1.2, hk.2⟩, hk.1.1.2⟩)); clear q1_ q2_ q3_; have n1_ := am (blk_below (pKq8 BK144) hb); have n2_ := am (below_step (pBq8 HB) hb); obtain ⟨oB, oG, hB1_, hG1_, hB2_⟩ := spec_LeastOfRank.after (w0 := w) (hM_.lower (base' := w.heap.size) (below_size (pBq8 HB))); have NBB_144 := am (show B ≠ gb144 from fun e_ => by have h_ := blk_lt BK144.out; omega); have NBG_144 := am (show G ≠ gb144 from fun e_ => by have h_ := blk_lt BK144.out; omega); have BKB := am hB1_; have BKG := am hG1_; have HMP := am hB2_; clear HO_0; clear BK144; clear HB; have HO_0 := n0_; have BK144 := n1_; have HB := n2_; clear n0_ n1_ n2_; clear hB1_ hG1_ hB2_ hM_ hBw_ hGw_; (try clear hb hk)) | (go_at_call 35; (with_reducible refine (spec_alCounter_count.calls_g _ _ 16 B G _ _ l0 t147 w _ ?sB ?sM ?side1 ?side2 (spec_LeastOfRank.ct_out A10.out)).mono ?_); (case sB => exact (pBq8 HB)); (case sM => exact zq178); (case side1 => exact zq142); (case side2 => exact zq102); rintro e w13 ⟨rfl, hm_, hbB_, hk_⟩; replace HO_0 := am (Kd.V_kept zq15 hk_ (fun k_ hk_ e_ => absurd e_ zq14)); replace BK144 := am (blk_kept (g := gb144) (o := .cells #[.int .i64 0, .slice none 0 0] 34 (0, 0))  (pKq8 BK144) hk_ (fun e_ => NBG_144.out e_.symm)); replace HB := am (hbB_); obtain ⟨oB, oG, hB1_, hG1_, hB2_⟩ := spec_LeastOfRank.after hm_; clear BKB BKG HMP; have BKB := am hB1_; have BKG := am hG1_; have HMP := am hB2_; clear hB1_ hG1_ hB2_ hm_ hbB_ hk_; have hcz14_0 : w13.cell? ⟨gb144, 0, none⟩ = some (.int .i64 0) := (blk_cell BK144.out 0).trans rfl; have hcz14_1 : w13.cell? ⟨gb144, 1, none⟩ = some (.slice none 0 0) := (blk_cell BK144.out 1).trans rfl; have hfz14_0 := blk_frozen BK144.out 0; have hfz14_1 := blk_frozen BK144.out 1))
     repeat (go_quiet (first | (go_at_call 34; (refine (spec_alNew.calls l0.length H8.out _).mono ?_); rintro e w12 ⟨v2_, rfl, hm0_, hb⟩; obtain ⟨B, G, rfl, hBw_, hGw_, hM_⟩ := spec_alCounter_count.Mem.made hm0_; have q1_ := Kd.V_elderB zq15 B hBw_; have q2_ := Kd.V_elderB q1_ G hGw_; have q3_ := Kd.V_below q2_ hb; have n0_ := am (Kd.V_mono (ok' := fun k_ => ((P0_ k_ ∨ w.heap.size ≤ k_) ∧ (k_ ≠ B ∧ k_ ≠ G)) ∧ k_ ≠ gb144) q3_ (fun k_ hk => ⟨⟨hk.1.1.1, hk.1.2, hk.2⟩, hk.1.1.2⟩)); clear q1_ q2_ q3_; have n1_ := am (blk_below (pKq8 BK144) hb); have n2_ := am (below_step (pBq8 HB) hb); obtain ⟨oB, oG, hB1_, hG1_, hB2_⟩ := spec_LeastOfRank.after (w0 := w) (hM_.lower (base' := w.heap.size) (below_size (pBq8 HB))); have NBB_144 := am (show B ≠ gb144 from fun e_ => by have h_ := blk_lt BK144.out; omega); have NBG_144 := am (show G ≠ gb144 from fun e_ => by have h_ := blk_lt BK144.out; omega); have BKB := am hB1_; have BKG := am hG1_; have HMP := am hB2_; clear HO_0; clear BK144; clear HB; have HO_0 := n0_; have BK144 := n1_; have HB := n2_; clear n0_ n1_ n2_; clear hB1_ hG1_ hB2_ hM_ hBw_ hGw_; (try clear hb hk)) | (go_at_call 35; (with_reducible refine (spec_alCounter_count.calls_g _ _ 16 B G _ _ l0 t147 w _ ?sB ?sM ?side1 ?side2 (spec_LeastOfRank.ct_out A10.out)).mono ?_); (case sB => exact (pBq8 HB)); (case sM => exact zq178); (case side1 => exact zq142); (case side2 => exact zq102); rintro e w13 ⟨rfl, hm_, hbB_, hk_⟩; replace HO_0 := am (Kd.V_kept zq15 hk_ (fun k_ hk_ e_ => absurd e_ zq14)); replace BK144 := am (blk_kept (g := gb144) (o := .cells #[.int .i64 0, .slice none 0 0] 34 (0, 0))  (pKq8 BK144) hk_ (fun e_ => NBG_144.out e_.symm)); replace HB := am (hbB_); obtain ⟨oB, oG, hB1_, hG1_, hB2_⟩ := spec_LeastOfRank.after hm_; clear BKB BKG HMP; have BKB := am hB1_; have BKG := am hG1_; have HMP := am hB2_; clear hB1_ hG1_ hB2_ hm_ hbB_ hk_; (try clear hb hk); have hcz14_0 : w13.cell? ⟨gb144, 0, none⟩ = some (.int .i64 0) := (blk_cell BK144.out 0).trans rfl; have hcz14_1 : w13.cell? ⟨gb144, 1, none⟩ = some (.slice none 0 0) := (blk_cell BK144.out 1).trans rfl; have hfz14_0 := blk_frozen BK144.out 0; have hfz14_1 := blk_frozen BK144.out 1)); try go_wp2_with (first | (go_at_call 34; (refine (spec_alNew.calls l0.length H8.out _).mono ?_); rintro e w12 ⟨v2_, rfl, hm0_, hb⟩; obtain ⟨B, G, rfl, hBw_, hGw_, hM_⟩ := spec_alCounter_count.Mem.made hm0_; have q1_ := Kd.V_elderB zq15 B hBw_; have q2_ := Kd.V_elderB q1_ G hGw_; have q3_ := Kd.V_below q2_ hb; have n0_ := am (Kd.V_mono (ok' := fun k_ => ((P0_ k_ ∨ w.heap.size ≤ k_) ∧ (k_ ≠ B ∧ k_ ≠ G)) ∧ k_ ≠ gb144) q3_ (fun k_ hk => ⟨⟨hk.1.1.1, hk.1.2, hk.2⟩, hk.1.1.2⟩)); clear q1_ q2_ q3_; have n1_ := am (blk_below (pKq8 BK144) hb); have n2_ := am (below_step (pBq8 HB) hb); obtain ⟨oB, oG, hB1_, hG1_, hB2_⟩ := spec_LeastOfRank.after (w0 := w) (hM_.lower (base' := w.heap.size) (below_size (pBq8 HB))); have NBB_144 := am (show B ≠ gb144 from fun e_ => by have h_ := blk_lt BK144.out; omega); have NBG_144 := am (show G ≠ gb144 from fun e_ => by have h_ := blk_lt BK144.out; omega); have BKB := am hB1_; have BKG := am hG1_; have HMP := am hB2_; clear HO_0; clear BK144; clear HB; have HO_0 := n0_; have BK144 := n1_; have HB := n2_; clear n0_ n1_ n2_; clear hB1_ hG1_ hB2_ hM_ hBw_ hGw_; (try clear hb hk)) | (go_at_call 35; (with_reducible refine (spec_alCounter_count.calls_g _ _ 16 B G _ _ l0 t147 w _ ?sB ?sM ?side1 ?side2 (spec_LeastOfRank.ct_out A10.out)).mono ?_); (case sB => exact (pBq8 HB)); (case sM => exact zq178); (case side1 => exact zq142); (case side2 => exact zq102); rintro e w13 ⟨rfl, hm_, hbB_, hk_⟩; replace HO_0 := am (Kd.V_kept zq15 hk_ (fun k_ hk_ e_ => absurd e_ zq14)); replace BK144 := am (blk_kept (g := gb144) (o := .cells #[.int .i64 0, .slice none 0 0] 34 (0, 0))  (pKq8 BK144) hk_ (fun e_ => NBG_144.out e_.symm)); replace HB := am (hbB_); obtain ⟨oB, oG, hB1_, hG1_, hB2_⟩ := spec_LeastOfRank.after hm_; clear BKB BKG HMP; have BKB := am hB1_; have BKG := am hG1_; have HMP := am hB2_; clear hB1_ hG1_ hB2_ hm_ hbB_ hk_; have hcz14_0 : w13.cell? ⟨gb144, 0, none⟩ = some (.int .i64 0) := (blk_cell BK144.out 0).trans rfl; have hcz14_1 : w13.cell? ⟨gb144, 1, none⟩ = some (.slice none 0 0) := (blk_cell BK144.out 1).trans rfl; have hfz14_0 := blk_frozen BK144.out 0; have hfz14_1 := blk_frozen BK144.out 1)))
     refine bodyPost_ret (results_ct rfl _ _ gb144 34 #[.int .i64 0, .slice none 0 0] (0, 0) _ rfl zq98 Try.underlying34 rfl zq26) rfl ?_
     exact ⟨_, zq11, zq24, zq10⟩
    ·rw [if_neg c11] at H
     have c11b0 : decide (t147 ≤ a1) = false := decide_eq_false c11
     clear c11
     replace H := Option.bind_eq_some_iff.mp H
     obtain ⟨t149, A150, H⟩ := H
     (try dsimp only at H)
     obtain ⟨ka15_, A150⟩ := spec_LeastOfRank.ev_some A150
     have A15 := am A150
     clear A150
     have H' := am H
     clear H
     go_wp2_with (first | (go_at_call 34; (refine (spec_alNew.calls l0.length H8.out _).mono ?_); rintro e w16 ⟨v2_, rfl, hm0_, hb⟩; obtain ⟨B, G, rfl, hBw_, hGw_, hM_⟩ := spec_alCounter_count.Mem.made hm0_; have q1_ := Kd.V_elderB zq15 B hBw_; have q2_ := Kd.V_elderB q1_ G hGw_; have q3_ := Kd.V_below q2_ hb; have n0_ := am (Kd.V_mono (ok' := fun k_ => ((P0_ k_ ∨ w.heap.size ≤ k_) ∧ (k_ ≠ B ∧ k_ ≠ G)) ∧ k_ ≠ gb144) q3_ (fun k_ hk => ⟨⟨hk.1.1.1, hk.1.2, hk.2⟩, hk.1.1.2⟩)); clear q1_ q2_ q3_; have n1_ := am (blk_below (pKq8 BK144) hb); have n2_ := am (below_step (pBq8 HB) hb); obtain ⟨oB, oG, hB1_, hG1_, hB2_⟩ := spec_LeastOfRank.after (w0 := w) (hM_.lower (base' := w.heap.size) (below_size (pBq8 HB))); have NBB_144 := am (show B ≠ gb144 from fun e_ => by have h_ := blk_lt BK144.out; omega); have NBG_144 := am (show G ≠ gb144 from fun e_ => by have h_ := blk_lt BK144.out; omega); have BKB := am hB1_; have BKG := am hG1_; have HMP := am hB2_; clear HO_0; clear BK144; clear HB; have HO_0 := n0_; have BK144 := n1_; have HB := n2_; clear n0_ n1_ n2_; clear hB1_ hG1_ hB2_ hM_ hBw_ hGw_; (try clear hb hk)) | (go_at_call 35; (with_reducible refine (spec_alCounter_count.calls_g _ _ 16 B G _ _ l0 t147 w _ ?sB ?sM ?side1 ?side2 (spec_LeastOfRank.ct_out A10.out)).mono ?_); (case sB => exact (pBq8 HB)); (case sM => exact zq178); (case side1 => exact zq142); (case side2 => exact zq102); rintro e w17 ⟨rfl, hm_, hbB_, hk_⟩; replace HO_0 := am (Kd.V_kept zq15 hk_ (fun k_ hk_ e_ => absurd e_ zq14)); replace BK144 := am (blk_kept (g := gb144) (o := .cells #[.int .i64 0, .slice none 0 0] 34 (0, 0))  (pKq8 BK144) hk_ (fun e_ => NBG_144.out e_.symm)); replace HB := am (hbB_); obtain ⟨oB, oG, hB1_, hG1_, hB2_⟩ := spec_LeastOfRank.after hm_; clear BKB BKG HMP; have BKB := am hB1_; have BKG := am hG1_; have HMP := am hB2_; clear hB1_ hG1_ hB2_ hm_ hbB_ hk_) | ((with_reducible refine gate_dst (N := 7) rfl ?_); refine zE 7 (cs := #[.int .i64 0, .slice none 0 0]) 34 ?_; intro gb148 hg w18 hbox hb; have NBB_148 := am (show B ≠ gb148 from fun e_ => by have h_ := blk_lt (g := B) (o := oB) zq23; omega); have NBG_148 := am (show G ≠ gb148 from fun e_ => by have h_ := blk_lt (g := G) (o := oG) zq30; omega); have n0_ := am (Kd.V_below (Kd.V_elderB zq15 gb148 (Nat.le_of_eq hg.symm)) hb); have n1_ := am (blk_below (pKq8 BK144) hb); have nB_ := am (blk_below (g := B) (o := oB) zq23 hb); have nG_ := am (blk_below (g := G) (o := oG) zq30 hb); have n2_ := am (below_step (pBq8 HB) hb); have n3_ := am (hbox); have n4_ := am ((zq84 : w.heap.size ≤ gb148)); have n5_ := am ((zq84 : w.heap.size ≤ gb148)); have n6_ := am ((by rw [hg]; exact Nat.ne_of_lt (blk_lt (pKq8 BK144)) : gb144 ≠ gb148)); have n7_ := am ((by rw [hg]; exact Nat.ne_of_gt (blk_lt (pKq8 BK144)) : gb148 ≠ gb144)); clear HO_0; clear BK144 BKB BKG; clear HB; have HO_0 := n0_; have BK144 := n1_; have BKB := nB_; have BKG := nG_; clear nB_ nG_; have HB := n2_; have BK148 := n3_; have GW148 := n4_; have GE148 := n5_; have NB144_148 := n6_; have NB148_144 := n7_; clear n0_ n1_ n2_ n3_ n4_ n5_ n6_ n7_; clear hb hbox hg; have hnb19 := NB148_144.out; have hnc19 := NB144_148.out; have hcz20_0 : w18.cell? ⟨gb148, 0, none⟩ = some (.int .i64 0) := (blk_cell BK148.out 0).trans rfl; have hcz20_1 : w18.cell? ⟨gb148, 1, none⟩ = some (.slice none 0 0) := (blk_cell BK148.out 1).trans rfl; have hfz20_0 := blk_frozen BK148.out 0; have hfz20_1 := blk_frozen BK148.out 1) | (go_at_call 52; (with_reducible refine (spec_lsInversions.calls _ _ _ l0 t149 _ ?side1 ?side2 A15.out).mono ?_); (case side1 => exact zq116); (case side2 => exact zq102); rintro e w21 ⟨v150, rfl, ho0, hb⟩; have n0_ := am (Kd.V_elder' zq28 (Kd.S_base ho0) hb); have n1_ := am (Kd.S_lower (spec_LeastOfRank.newMS ho0 (below_size (pBq8 HB)) (blk_lt (g := B) (o := oB) zq7) (blk_lt (g := G) (o := oG) zq6)) (below_size (pBq8 HB))); have n2_ := am (blk_below (g := gb144) (o := .cells #[.int .i64 0, .slice none 0 0] 34 (0, 0)) zq65 hb); have nB_ := am (blk_below (g := B) (o := oB) zq60 hb); have nG_ := am (blk_below (g := G) (o := oG) zq59 hb); have n3_ := am (blk_below (g := gb148) (o := .cells #[.int .i64 (l0.length : Int), .slice none 0 0] 34 (0, 0)) zq55 hb); have n4_ := am (below_step (pBq8 HB) hb); clear HO_0; clear BK144 BKB BKG; clear BK148; clear HB; have HO_0 := n0_; have HO151 := n1_; have BK144 := n2_; have BKB := nB_; have BKG := nG_; clear nB_ nG_; have BK148 := n3_; have HB := n4_; clear n0_ n1_ n2_ n3_ n4_; (try clear hb); obtain ⟨Ao22, co22, eo22⟩ := Kd.S_slice HO151.out; subst eo22))
     repeat (go_quiet (first | (go_at_call 34; (refine (spec_alNew.calls l0.length H8.out _).mono ?_); rintro e w16 ⟨v2_, rfl, hm0_, hb⟩; obtain ⟨B, G, rfl, hBw_, hGw_, hM_⟩ := spec_alCounter_count.Mem.made hm0_; have q1_ := Kd.V_elderB zq15 B hBw_; have q2_ := Kd.V_elderB q1_ G hGw_; have q3_ := Kd.V_below q2_ hb; have n0_ := am (Kd.V_mono (ok' := fun k_ => ((P0_ k_ ∨ w.heap.size ≤ k_) ∧ (k_ ≠ B ∧ k_ ≠ G)) ∧ k_ ≠ gb144) q3_ (fun k_ hk => ⟨⟨hk.1.1.1, hk.1.2, hk.2⟩, hk.1.1.2⟩)); clear q1_ q2_ q3_; have n1_ := am (blk_below (pKq8 BK144) hb); have n2_ := am (below_step (pBq8 HB) hb); obtain ⟨oB, oG, hB1_, hG1_, hB2_⟩ := spec_LeastOfRank.after (w0 := w) (hM_.lower (base' := w.heap.size) (below_size (pBq8 HB))); have NBB_144 := am (show B ≠ gb144 from fun e_ => by have h_ := blk_lt BK144.out; omega); have NBG_144 := am (show G ≠ gb144 from fun e_ => by have h_ := blk_lt BK144.out; omega); have BKB := am hB1_; have BKG := am hG1_; have HMP := am hB2_; clear HO_0; clear BK144; clear HB; have HO_0 := n0_; have BK144 := n1_; have HB := n2_; clear n0_ n1_ n2_; clear hB1_ hG1_ hB2_ hM_ hBw_ hGw_; (try clear hb hk)) | (go_at_call 35; (with_reducible refine (spec_alCounter_count.calls_g _ _ 16 B G _ _ l0 t147 w _ ?sB ?sM ?side1 ?side2 (spec_LeastOfRank.ct_out A10.out)).mono ?_); (case sB => exact (pBq8 HB)); (case sM => exact zq178); (case side1 => exact zq142); (case side2 => exact zq102); rintro e w17 ⟨rfl, hm_, hbB_, hk_⟩; replace HO_0 := am (Kd.V_kept zq15 hk_ (fun k_ hk_ e_ => absurd e_ zq14)); replace BK144 := am (blk_kept (g := gb144) (o := .cells #[.int .i64 0, .slice none 0 0] 34 (0, 0))  (pKq8 BK144) hk_ (fun e_ => NBG_144.out e_.symm)); replace HB := am (hbB_); obtain ⟨oB, oG, hB1_, hG1_, hB2_⟩ := spec_LeastOfRank.after hm_; clear BKB BKG HMP; have BKB := am hB1_; have BKG := am hG1_; have HMP := am hB2_; clear hB1_ hG1_ hB2_ hm_ hbB_ hk_) | ((with_reducible refine gate_dst (N := 7) rfl ?_); refine zE 7 (cs := #[.int .i64 0, .slice none 0 0]) 34 ?_; intro gb148 hg w18 hbox hb; have NBB_148 := am (show B ≠ gb148 from fun e_ => by have h_ := blk_lt (g := B) (o := oB) zq23; omega); have NBG_148 := am (show G ≠ gb148 from fun e_ => by have h_ := blk_lt (g := G) (o := oG) zq30; omega); have n0_ := am (Kd.V_below (Kd.V_elderB zq15 gb148 (Nat.le_of_eq hg.symm)) hb); have n1_ := am (blk_below (pKq8 BK144) hb); have nB_ := am (blk_below (g := B) (o := oB) zq23 hb); have nG_ := am (blk_below (g := G) (o := oG) zq30 hb); have n2_ := am (below_step (pBq8 HB) hb); have n3_ := am (hbox); have n4_ := am ((zq84 : w.heap.size ≤ gb148)); have n5_ := am ((zq84 : w.heap.size ≤ gb148)); have n6_ := am ((by rw [hg]; exact Nat.ne_of_lt (blk_lt (pKq8 BK144)) : gb144 ≠ gb148)); have n7_ := am ((by rw [hg]; exact Nat.ne_of_gt (blk_lt (pKq8 BK144)) : gb148 ≠ gb144)); clear HO_0; clear BK144 BKB BKG; clear HB; have HO_0 := n0_; have BK144 := n1_; have BKB := nB_; have BKG := nG_; clear nB_ nG_; have HB := n2_; have BK148 := n3_; have GW148 := n4_; have GE148 := n5_; have NB144_148 := n6_; have NB148_144 := n7_; clear n0_ n1_ n2_ n3_ n4_ n5_ n6_ n7_; clear hb hbox hg; have hnb19 := NB148_144.out; have hnc19 := NB144_148.out; have hcz20_0 : w18.cell? ⟨gb148, 0, none⟩ = some (.int .i64 0) := (blk_cell BK148.out 0).trans rfl; have hcz20_1 : w18.cell? ⟨gb148, 1, none⟩ = some (.slice none 0 0) := (blk_cell BK148.out 1).trans rfl; have hfz20_0 := blk_frozen BK148.out 0; have hfz20_1 := blk_frozen BK148.out 1) | (go_at_call 52; (with_reducible refine (spec_lsInversions.calls _ _ _ l0 t149 _ ?side1 ?side2 A15.out).mono ?_); (case side1 => exact zq116); (case side2 => exact zq102); rintro e w21 ⟨v150, rfl, ho0, hb⟩; have n0_ := am (Kd.V_elder' zq28 (Kd.S_base ho0) hb); have n1_ := am (Kd.S_lower (spec_LeastOfRank.newMS ho0 (below_size (pBq8 HB)) (blk_lt (g := B) (o := oB) zq7) (blk_lt (g := G) (o := oG) zq6)) (below_size (pBq8 HB))); have n2_ := am (blk_below (g := gb144) (o := .cells #[.int .i64 0, .slice none 0 0] 34 (0, 0)) zq65 hb); have nB_ := am (blk_below (g := B) (o := oB) zq60 hb); have nG_ := am (blk_below (g := G) (o := oG) zq59 hb); have n3_ := am (blk_below (g := gb148) (o := .cells #[.int .i64 (l0.length : Int), .slice none 0 0] 34 (0, 0)) zq55 hb); have n4_ := am (below_step (pBq8 HB) hb); clear HO_0; clear BK144 BKB BKG; clear BK148; clear HB; have HO_0 := n0_; have HO151 := n1_; have BK144 := n2_; have BKB := nB_; have BKG := nG_; clear nB_ nG_; have BK148 := n3_; have HB := n4_; clear n0_ n1_ n2_ n3_ n4_; (try clear hb hk); obtain ⟨Ao22, co22, eo22⟩ := Kd.S_slice HO151.out; subst eo22)); try go_wp2_with (first | (go_at_call 34; (refine (spec_alNew.calls l0.length H8.out _).mono ?_); rintro e w16 ⟨v2_, rfl, hm0_, hb⟩; obtain ⟨B, G, rfl, hBw_, hGw_, hM_⟩ := spec_alCounter_count.Mem.made hm0_; have q1_ := Kd.V_elderB zq15 B hBw_; have q2_ := Kd.V_elderB q1_ G hGw_; have q3_ := Kd.V_below q2_ hb; have n0_ := am (Kd.V_mono (ok' := fun k_ => ((P0_ k_ ∨ w.heap.size ≤ k_) ∧ (k_ ≠ B ∧ k_ ≠ G)) ∧ k_ ≠ gb144) q3_ (fun k_ hk => ⟨⟨hk.1.1.1, hk.1.2, hk.2⟩, hk.1.1.2⟩)); clear q1_ q2_ q3_; have n1_ := am (blk_below (pKq8 BK144) hb); have n2_ := am (below_step (pBq8 HB) hb); obtain ⟨oB, oG, hB1_, hG1_, hB2_⟩ := spec_LeastOfRank.after (w0 := w) (hM_.lower (base' := w.heap.size) (below_size (pBq8 HB))); have NBB_144 := am (show B ≠ gb144 from fun e_ => by have h_ := blk_lt BK144.out; omega); have NBG_144 := am (show G ≠ gb144 from fun e_ => by have h_ := blk_lt BK144.out; omega); have BKB := am hB1_; have BKG := am hG1_; have HMP := am hB2_; clear HO_0; clear BK144; clear HB; have HO_0 := n0_; have BK144 := n1_; have HB := n2_; clear n0_ n1_ n2_; clear hB1_ hG1_ hB2_ hM_ hBw_ hGw_; (try clear hb hk)) | (go_at_call 35; (with_reducible refine (spec_alCounter_count.calls_g _ _ 16 B G _ _ l0 t147 w _ ?sB ?sM ?side1 ?side2 (spec_LeastOfRank.ct_out A10.out)).mono ?_); (case sB => exact (pBq8 HB)); (case sM => exact zq178); (case side1 => exact zq142); (case side2 => exact zq102); rintro e w17 ⟨rfl, hm_, hbB_, hk_⟩; replace HO_0 := am (Kd.V_kept zq15 hk_ (fun k_ hk_ e_ => absurd e_ zq14)); replace BK144 := am (blk_kept (g := gb144) (o := .cells #[.int .i64 0, .slice none 0 0] 34 (0, 0))  (pKq8 BK144) hk_ (fun e_ => NBG_144.out e_.symm)); replace HB := am (hbB_); obtain ⟨oB, oG, hB1_, hG1_, hB2_⟩ := spec_LeastOfRank.after hm_; clear BKB BKG HMP; have BKB := am hB1_; have BKG := am hG1_; have HMP := am hB2_; clear hB1_ hG1_ hB2_ hm_ hbB_ hk_) | ((with_reducible refine gate_dst (N := 7) rfl ?_); refine zE 7 (cs := #[.int .i64 0, .slice none 0 0]) 34 ?_; intro gb148 hg w18 hbox hb; have NBB_148 := am (show B ≠ gb148 from fun e_ => by have h_ := blk_lt (g := B) (o := oB) zq23; omega); have NBG_148 := am (show G ≠ gb148 from fun e_ => by have h_ := blk_lt (g := G) (o := oG) zq30; omega); have n0_ := am (Kd.V_below (Kd.V_elderB zq15 gb148 (Nat.le_of_eq hg.symm)) hb); have n1_ := am (blk_below (pKq8 BK144) hb); have nB_ := am (blk_below (g := B) (o := oB) zq23 hb); have nG_ := am (blk_below (g := G) (o := oG) zq30 hb); have n2_ := am (below_step (pBq8 HB) hb); have n3_ := am (hbox); have n4_ := am ((zq84 : w.heap.size ≤ gb148)); have n5_ := am ((zq84 : w.heap.size ≤ gb148)); have n6_ := am ((by rw [hg]; exact Nat.ne_of_lt (blk_lt (pKq8 BK144)) : gb144 ≠ gb148)); have n7_ := am ((by rw [hg]; exact Nat.ne_of_gt (blk_lt (pKq8 BK144)) : gb148 ≠ gb144)); clear HO_0; clear BK144 BKB BKG; clear HB; have HO_0 := n0_; have BK144 := n1_; have BKB := nB_; have BKG := nG_; clear nB_ nG_; have HB := n2_; have BK148 := n3_; have GW148 := n4_; have GE148 := n5_; have NB144_148 := n6_; have NB148_144 := n7_; clear n0_ n1_ n2_ n3_ n4_ n5_ n6_ n7_; clear hb hbox hg; have hnb19 := NB148_144.out; have hnc19 := NB144_148.out; have hcz20_0 : w18.cell? ⟨gb148, 0, none⟩ = some (.int .i64 0) := (blk_cell BK148.out 0).trans rfl; have hcz20_1 : w18.cell? ⟨gb148, 1, none⟩ = some (.slice none 0 0) := (blk_cell BK148.out 1).trans rfl; have hfz20_0 := blk_frozen BK148.out 0; have hfz20_1 := blk_frozen BK148.out 1) | (go_at_call 52; (with_reducible refine (spec_lsInversions.calls _ _ _ l0 t149 _ ?side1 ?side2 A15.out).mono ?_); (case side1 => exact zq116); (case side2 => exact zq102); rintro e w21 ⟨v150, rfl, ho0, hb⟩; have n0_ := am (Kd.V_elder' zq28 (Kd.S_base ho0) hb); have n1_ := am (Kd.S_lower (spec_LeastOfRank.newMS ho0 (below_size (pBq8 HB)) (blk_lt (g := B) (o := oB) zq7) (blk_lt (g := G) (o := oG) zq6)) (below_size (pBq8 HB))); have n2_ := am (blk_below (g := gb144) (o := .cells #[.int .i64 0, .slice none 0 0] 34 (0, 0)) zq65 hb); have nB_ := am (blk_below (g := B) (o := oB) zq60 hb); have nG_ := am (blk_below (g := G) (o := oG) zq59 hb); have n3_ := am (blk_below (g := gb148) (o := .cells #[.int .i64 (l0.length : Int), .slice none 0 0] 34 (0, 0)) zq55 hb); have n4_ := am (below_step (pBq8 HB) hb); clear HO_0; clear BK144 BKB BKG; clear BK148; clear HB; have HO_0 := n0_; have HO151 := n1_; have BK144 := n2_; have BKB := nB_; have BKG := nG_; clear nB_ nG_; have BK148 := n3_; have HB := n4_; clear n0_ n1_ n2_ n3_ n4_; (try clear hb); obtain ⟨Ao22, co22, eo22⟩ := Kd.S_slice HO151.out; subst eo22)))
     go_loopg [0, 1, 8] kj2 (fun kq v0 v1 v8 w' => ∃ (x0_2 : List Int) (x1_2 : Int) (x8_2 : Int) (x149001_2 : List Int) (u149001 : Value), v1 = .int .i64 x1_2 ∧ v8 = .int .i64 x8_2 ∧ Aside0 (spec_LeastOfRank.l0 kq x0_2 x1_2 t146 x8_2 (l0.length : Int) x149001_2 = some (r1, r2, r3)) ∧ Aside0 (kq ≤ kj2) ∧ Aside0 (Kd.V (Kd.int .i64) 3 w' w.heap.size (fun k_ => ((P0_ k_ ∨ w.heap.size ≤ k_) ∧ (k_ ≠ B ∧ k_ ≠ G)) ∧ some k_ ≠ (u149001 : Value).ownBlock ∧ k_ ≠ gb144 ∧ k_ ≠ gb148) v0 x0_2) ∧ Aside0 (Kd.R (Kd.int .i64) 3 w' w.heap.size (fun k_ => (w.heap.size ≤ k_ ∧ (k_ ≠ B ∧ k_ ≠ G))) u149001 x149001_2) ∧ Aside0 (spec_LeastOfRank.MBX w' w B G l0.length) ∧ Aside0 (w'.heap[gb144]? = some (.cells #[.int .i64 0, (.slice none 0 0)] 34 (0, 0))) ∧ Aside0 (w'.heap[gb148]? = some (.cells #[.int .i64 (l0.length : Int), u149001] 34 (0, 0))) ∧ Aside0 (Below w.heap.size w w'))
     case atStart => exact ⟨(l0), (a1), ((t149.length : Int)), (([] : List Int)), (.slice none 0 0), zq13, zq13, H', ⟨Nat.le_refl _⟩, ⟨by (with_reducible repeat (first | apply Kd.V_alloc | apply Kd.V_drewN | apply Kd.V_drew)); exact Kd.V_mono HO_0.out (fun _ hk => ⟨hk.1.1.1, ⟨zq176, ⟨hk.1.1.2, hk.1.2⟩⟩⟩)⟩, ⟨zq24⟩, ⟨⟨oB, oG, zq7, zq6, HMP.out⟩⟩, ⟨zq61⟩, ⟨zq79⟩, ⟨zq10⟩⟩
     case round =>
      clear H'
      try clear c1
      try clear p2
      try clear c6
      try clear c7
      try clear c11
      try clear c11b0
      try clear c17
      try clear c19
      try clear hcz14_0
      try clear hcz14_1
      try clear hcz20_0
      try clear hcz20_1
      try clear hcz8_0
      try clear hcz8_1
      try clear hfz14_0
      try clear hfz14_1
      try clear hfz20_0
      try clear hfz20_1
      try clear hfz8_0
      try clear hfz8_1
      try clear p2
      obtain ⟨x0_2, x1_2, x8_2, x149001_2, u149001, rfl, rfl, HA, HK2, HO_0, HO_149001, HMX, BK144, BK148, HB⟩ := hrel
      clear BKB BKG HMP
      obtain ⟨oB, oG, hB1_, hG1_, hB2_⟩ := HMX.out
      have BKB := am hB1_
      have BKG := am hG1_
      have HMP := am hB2_
      clear HMX hB1_ hG1_ hB2_
      cases gk with
      | zero => exact absurd HA.out (by simp [spec_LeastOfRank.l0])
      | succ k2 =>
       have H := HA.out
       clear HA
       simp only [spec_LeastOfRank.l0] at H
       by_cases c23 : x8_2 > 0
       ·rw [if_pos c23] at H
        have c23b0 : decide (0 < x8_2) = true := decide_eq_true c23
        clear c23
        have H' := am H
        clear H
        go_wp2
        repeat (go_quiet (fail); try go_wp2)
        go_loopg [0, 1, 9] k2 (fun kq v0 v1 v9 w' => ∃ (x0_3 : List Int) (x1_3 : Int) (x9_3 : Int) (x149001_3 : List Int) (u149001 : Value), v1 = .int .i64 x1_3 ∧ v9 = .int .i64 x9_3 ∧ Aside0 (spec_LeastOfRank.l1 kq x0_3 x1_3 t146 x8_2 x9_3 (l0.length : Int) x149001_3 = some (r1, r2, r3)) ∧ Aside0 (kq ≤ k2) ∧ Aside0 (Kd.V (Kd.int .i64) 3 w' w.heap.size (fun k_ => ((P0_ k_ ∨ w.heap.size ≤ k_) ∧ (k_ ≠ B ∧ k_ ≠ G)) ∧ some k_ ≠ (u149001 : Value).ownBlock ∧ k_ ≠ gb144 ∧ k_ ≠ gb148) v0 x0_3) ∧ Aside0 (Kd.R (Kd.int .i64) 3 w' w.heap.size (fun k_ => (w.heap.size ≤ k_ ∧ (k_ ≠ B ∧ k_ ≠ G))) u149001 x149001_3) ∧ Aside0 (spec_LeastOfRank.MBX w' w B G l0.length) ∧ Aside0 (w'.heap[gb144]? = some (.cells #[.int .i64 0, (.slice none 0 0)] 34 (0, 0))) ∧ Aside0 (w'.heap[gb148]? = some (.cells #[.int .i64 (l0.length : Int), u149001] 34 (0, 0))) ∧ Aside0 (Below w.heap.size w w'))
        case atStart => exact ⟨(x0_2), (x1_2), (0), (x149001_2), (u149001), zq13, zq13, H', ⟨Nat.le_refl _⟩, ⟨zq15⟩, ⟨zq147⟩, ⟨⟨oB, oG, zq7, zq6, HMP.out⟩⟩, ⟨zq61⟩, ⟨zq79⟩, ⟨zq10⟩⟩
        case round =>
         clear H'
         try clear c1
         try clear c2
         try clear p2
         try clear c6
         try clear c7
         try clear c11
         try clear c11b0
         try clear c17
         try clear c19
         try clear c23
         try clear c23b0
         try clear hcz14_0
         try clear hcz14_1
         try clear hcz20_0
         try clear hcz20_1
         try clear hcz8_0
         try clear hcz8_1
         try clear hfz14_0
         try clear hfz14_1
         try clear hfz20_0
         try clear hfz20_1
         try clear hfz8_0
         try clear hfz8_1
         try clear p2
         obtain ⟨x0_3, x1_3, x9_3, x149001_3, u149001, rfl, rfl, HA, HK3, HO_0, HO_149001, HMX, BK144, BK148, HB⟩ := hrel
         clear BKB BKG HMP
         obtain ⟨oB, oG, hB1_, hG1_, hB2_⟩ := HMX.out
         have BKB := am hB1_
         have BKG := am hG1_
         have HMP := am hB2_
         clear HMX hB1_ hG1_ hB2_
         cases gk with
         | zero => exact absurd HA.out (by simp [spec_LeastOfRank.l1])
         | succ k3 =>
          have H := HA.out
          clear HA
          simp only [spec_LeastOfRank.l1] at H
          by_cases c24 : (wrap64 (x9_3 + 1)) < (x0_3.length : Int)
          ·rw [if_pos c24] at H
           have c24b0 : decide ((wrap64 (x9_3 + 1)) < (x0_3.length : Int)) = true := decide_eq_true c24
           clear c24
           by_cases c25 : 0 ≤ x9_3
           ·rw [if_pos c25] at H
            have c25b0 : decide (0 ≤ x9_3) = true := decide_eq_true c25
            clear c25
            by_cases c26 : x9_3 < (x0_3.length : Int)
            ·rw [if_pos c26] at H
             have c26b0 : decide (x9_3 < (x0_3.length : Int)) = true := decide_eq_true c26
             clear c26
             obtain ⟨ji27, hji27⟩ : ∃ j_ : Int, (wrap64 (x9_3 + 1)) = j_ := ⟨_, rfl⟩
             replace H : (if 0 ≤ (ji27) then (if (rd x0_3 x9_3) < (rd x0_3 (ji27)) then (spec_LeastOfRank.l1 k3 x0_3 x1_3 t146 x8_2 ji27 (l0.length : Int) x149001_3) else ((spec_alSwap.f x0_3 x9_3).bind fun t154 => ((spec_LeastOfRank.ct (l0.length : Int) t154).bind fun t157 => (if x1_3 < t157 then (if x149001_3.length < 17592186044416 then ((spec_alSwap.f x0_3 x9_3).bind fun t161 => (spec_LeastOfRank.l0 k3 t161 x1_3 t146 (wrap64 (x8_2 - 1)) (l0.length : Int) (x149001_3 ++ [x9_3]))) else (none)) else (spec_LeastOfRank.l1 k3 x0_3 (wrap64 (x1_3 - t157)) t146 x8_2 ji27 (l0.length : Int) x149001_3))))) else (none)) = some (r1, r2, r3) := by first | (rw [hji27] at H; exact H) | (simp only [hji27] at H ⊢; exact H)
             (try rw [hji27] at c24b0)
             have hji27w : (IntKind.i64.wrap (x9_3 + 1)) = ji27 := (i64_w _).trans hji27
             by_cases c28 : 0 ≤ (ji27)
             ·rw [if_pos c28] at H
              have c28b0 : decide (0 ≤ (ji27)) = true := decide_eq_true c28
              clear c28
              by_cases c29 : (rd x0_3 x9_3) < (rd x0_3 (ji27))
              ·rw [if_pos c29] at H
               have c29b0 : decide ((rd x0_3 x9_3) < (rd x0_3 (ji27))) = true := decide_eq_true c29
               clear c29
               have H' := am H
               clear H
               obtain ⟨Ao30, co30, eo30⟩ := Kd.V_slice HO_0.out
               subst eo30
               have p152 : 0 ≤ (x9_3 : Int) := of_decide_eq_true zq9
               have q152 : x9_3 < (x0_3.length : Int) := of_decide_eq_true zq9
               obtain ⟨ad152, e152, hx152_0⟩ := Kd.at_int (Kd.V_reads' HO_0.out).2.2 x9_3 p152 q152
               cases e152
               replace p152 := eq_true p152
               replace q152 := eq_true q152
               have p153 : 0 ≤ ((ji27) : Int) := of_decide_eq_true zq9
               have q153 : (ji27) < (x0_3.length : Int) := of_decide_eq_true zq9
               obtain ⟨ad153, e153, hx153_0⟩ := Kd.at_int (Kd.V_reads' HO_0.out).2.2 (ji27) p153 q153
               obtain rfl : ad152 = ad153 := (by injection e153)
               replace p153 := eq_true p153
               replace q153 := eq_true q153
               go_wp2
               repeat (go_quiet (fail); try go_wp2)
               go_roundg k3
               case measure => have := HJ2.out; have := HK2.out; have := HK3.out; omega
               case rel => exact ⟨(x0_3), (x1_3), (ji27), (x149001_3), (u149001), zq13, (by first | rfl | (simp; done) | (simp only [← hji27] <;> (first | rfl | simp)) | (simp [*]; done)), H', ⟨zq157⟩, ⟨zq15⟩, ⟨zq147⟩, ⟨⟨oB, oG, zq7, zq6, HMP.out⟩⟩, ⟨zq61⟩, ⟨zq79⟩, ⟨zq10⟩⟩
              ·rw [if_neg c29] at H
               have c29b0 : decide ((rd x0_3 x9_3) < (rd x0_3 (ji27))) = false := decide_eq_false c29
               clear c29
               obtain ⟨t154, A31, H⟩ := zS H
               (try dsimp only at H)
               obtain ⟨t157, A32, H⟩ := zS H
               (try dsimp only at H)
               by_cases c33 : x1_3 < t157
               ·rw [if_pos c33] at H
                have c33b0 : decide (x1_3 < t157) = true := decide_eq_true c33
                clear c33
                by_cases c34 : x149001_3.length < 17592186044416
                ·rw [if_pos c34] at H
                 have LMc34 := am c34
                 clear c34
                 obtain ⟨y158, hy158⟩ : ∃ y_ : List Int, y_ = (x149001_3 ++ [x9_3]) := ⟨_, rfl⟩
                 replace H : ((spec_alSwap.f x0_3 x9_3).bind fun t161 => (spec_LeastOfRank.l0 k3 t161 x1_3 t146 (wrap64 (x8_2 - 1)) (l0.length : Int) y158)) = some (r1, r2, r3) := by first | (rw [hy158]; exact zH) | exact zH
                 have Ny158 := am hy158
                 clear hy158
                 obtain ⟨t161, A35, H⟩ := zS H
                 (try dsimp only at H)
                 have H' := am H
                 clear H
                 obtain ⟨Ao36, co36, eo36⟩ := Kd.V_slice HO_0.out
                 subst eo36
                 have p152 : 0 ≤ (x9_3 : Int) := of_decide_eq_true zq9
                 have q152 : x9_3 < (x0_3.length : Int) := of_decide_eq_true zq9
                 obtain ⟨ad152, e152, hx152_0⟩ := Kd.at_int (Kd.V_reads' HO_0.out).2.2 x9_3 p152 q152
                 cases e152
                 replace p152 := eq_true p152
                 replace q152 := eq_true q152
                 have p153 : 0 ≤ ((ji27) : Int) := of_decide_eq_true zq9
                 have q153 : (ji27) < (x0_3.length : Int) := of_decide_eq_true zq9
                 obtain ⟨ad153, e153, hx153_0⟩ := Kd.at_int (Kd.V_reads' HO_0.out).2.2 (ji27) p153 q153
                 obtain rfl : ad152 = ad153 := (by injection e153)
                 replace p153 := eq_true p153
                 replace q153 := eq_true q153
                 go_wp2_with (first | (go_at_call 47; (with_reducible refine (spec_alSwap.calls _ _ x0_3 x9_3 t154 _ ?side1 ?side2 A31.out).mono ?_); (case side1 => exact zq39); (case side2 => exact zq102); rintro e w37 ⟨v155, rfl, ho0, hb⟩; have n0_ := am (Kd.V_elder' zq15 (Kd.R_base ho0) hb); have n1_ := am (Kd.R_elder' (pRq8 HO_149001) (Kd.R_base ho0) hb); have n2_ := am (Kd.R_lower (Kd.R_new' (spec_LeastOfRank.newM ho0 (below_size (pBq8 HB)) (blk_lt (g := B) (o := oB) zq7) (blk_lt (g := G) (o := oG) zq6)) (Kd.R_lt (pRq8 HO_149001))) (below_size (pBq8 HB))); have n3_ := am (blk_below (pKq8 BK144) hb); have nB_ := am (blk_below (g := B) (o := oB) zq23 hb); have nG_ := am (blk_below (g := G) (o := oG) zq30 hb); have n4_ := am (blk_below (pKq8 BK148) hb); have n5_ := am (below_step (pBq8 HB) hb); clear HO_0; clear HO_149001; clear BK144 BKB BKG; clear BK148; clear HB; have HO_0 := n0_; have HO_149001 := n1_; have HO156 := n2_; have BK144 := n3_; have BKB := nB_; have BKG := nG_; clear nB_ nG_; have BK148 := n4_; have HB := n5_; clear n0_ n1_ n2_ n3_ n4_ n5_; (try clear hb); obtain ⟨Ao38, co38, eo38⟩ := Kd.R_slice HO156.out; subst eo38) | (go_at_call 35; (with_reducible refine (spec_alCounter_count.calls_g _ _ 16 B G _ _ t154 t157 w _ ?sB ?sM ?side1 ?side2 (spec_LeastOfRank.ct_out A32.out)).mono ?_); (case sB => exact (pBq8 HB)); (case sM => exact zq178); (case side1 => exact zq132); (case side2 => exact (Kd.R_reads' HO156.out).2.1); rintro e w39 ⟨rfl, hm_, hbB_, hk_⟩; replace HO_0 := am (Kd.V_kept zq15 hk_ (fun k_ hk_ e_ => absurd e_ zq14)); replace HO_149001 := am (Kd.R_kept (pRq8 HO_149001) hk_ (fun k_ hk_ e_ => absurd e_ zq14)); replace HO156 := am (Kd.R_kept (pRq8 HO156) hk_ (fun k_ hk_ e_ => absurd e_ zq14)); replace BK144 := am (blk_kept (g := gb144) (o := .cells #[.int .i64 0, .slice none 0 0] 34 (0, 0))  (pKq8 BK144) hk_ (fun e_ => NBG_144.out e_.symm)); replace BK148 := am (blk_kept (g := gb148) (o := .cells #[.int .i64 (l0.length : Int), u149001] 34 (0, 0))  (pKq8 BK148) hk_ (fun e_ => NBG_148.out e_.symm)); replace HB := am (hbB_); obtain ⟨oB, oG, hB1_, hG1_, hB2_⟩ := spec_LeastOfRank.after hm_; clear BKB BKG HMP; have BKB := am hB1_; have BKG := am hG1_; have HMP := am hB2_; clear hB1_ hG1_ hB2_ hm_ hbB_ hk_; have hnb40 := NB148_144.out; have hnc40 := NB144_148.out; have hcz41_0 : w39.cell? ⟨gb148, 0, none⟩ = some (.int .i64 (l0.length : Int)) := (blk_cell BK148.out 0).trans rfl; have hcz41_1 : w39.cell? ⟨gb148, 1, none⟩ = some (u149001) := (blk_cell BK148.out 1).trans rfl; have hfz41_0 := blk_frozen BK148.out 0; have hfz41_1 := blk_frozen BK148.out 1) | ((with_reducible refine gate_builtin (b := .append) (xs := #[.tmp 64, .tmp 66]) rfl ?_); at_builtin; refine Kd.R_append (Kd.int .i64) (w0 := w) w.heap.size rfl (.tmp 64) (.tmp 66) 24 3 (.int .i64 0) 8 rfl Try.underlying24 info3 rfl zq36 zq62 u149001 x149001_3 x9_3 [.int .i64 x9_3] (fun k_ => (w.heap.size ≤ k_ ∧ (k_ ≠ B ∧ k_ ≠ G)) ∧ some k_ ≠ (.slice Ao38 t154.length co38 : Value).ownBlock) (fun _ => False) rfl rfl ?aP (fun _ hk => hk.elim) ?aF ?aO ?aB ?aS ?aL ?_; (case aP => exact rfl); (case aB => exact (pBq8 HB)); (case aF => exact zq89); (case aO => exact (pRq8 HO_149001)); (case aS => exact (below_size (pBq8 HB))); (case aL => have := LMc34.out; omega); intro v159 w42 ho hb hg hat; rw [← Ny158.out] at ho; have n0_ := am (Kd.V_afterv (ok := (fun k_ => ((P0_ k_ ∨ w.heap.size ≤ k_) ∧ (k_ ≠ B ∧ k_ ≠ G)) ∧ some k_ ≠ (.slice Ao38 t154.length co38 : Value).ownBlock ∧ k_ ≠ gb144 ∧ k_ ≠ gb148)) zq115 hg hat); have n1_ := am (blk_grown (g := gb144) (o := .cells #[.int .i64 0, .slice none 0 0] 34 (0, 0)) (pKq8 BK144) hg (Kd.R_ne HO_149001.out BK144.out zq36)); have nB_ := am (blk_grown (g := B) (o := oB) zq23 hg (fun e_ => by have h_ := (HO_149001.out).1 B e_.symm; first | exact absurd rfl (h_.1.1.1.1.1.2.1) | exact absurd rfl (h_.1.1.1.1.2.1) | exact absurd rfl (h_.1.1.1.2.1) | exact absurd rfl (h_.1.1.2.1) | exact absurd rfl (h_.1.2.1) | exact absurd rfl (h_.2.1))); have nG_ := am (blk_grown (g := G) (o := oG) zq30 hg (fun e_ => by have h_ := (HO_149001.out).1 G e_.symm; first | exact absurd rfl (h_.1.1.1.1.1.2.2) | exact absurd rfl (h_.1.1.1.1.2.2) | exact absurd rfl (h_.1.1.1.2.2) | exact absurd rfl (h_.1.1.2.2) | exact absurd rfl (h_.1.2.2) | exact absurd rfl (h_.2.2))); have n2_ := am (blk_grown (g := gb148) (o := .cells #[.int .i64 (l0.length : Int), u149001] 34 (0, 0)) (pKq8 BK148) hg (Kd.R_ne HO_149001.out BK148.out zq36)); have n3_ := am (Kd.R_after (ok := (fun k_ => (w.heap.size ≤ k_ ∧ (k_ ≠ B ∧ k_ ≠ G)))) zq126 hg hat); have n4_ := am (hb); have n5_ := am (ho); clear HO_0; clear BK144 BKB BKG; clear BK148; clear HO156; clear HB; clear HO_149001; have HO_0 := n0_; have BK144 := n1_; have BKB := nB_; have BKG := nG_; clear nB_ nG_; have BK148 := n2_; have HO156 := n3_; have HB := n4_; have HO160 := n5_; clear n0_ n1_ n2_ n3_ n4_ n5_; clear ho hb hg hat; obtain ⟨Ao43, co43, eo43⟩ := Kd.R_slice HO160.out; subst eo43; have hcz44_0 : w42.cell? ⟨gb148, 0, none⟩ = some (.int .i64 (l0.length : Int)) := (blk_cell BK148.out 0).trans rfl; have hcz44_1 : w42.cell? ⟨gb148, 1, none⟩ = some (u149001) := (blk_cell BK148.out 1).trans rfl; have hfz44_0 := blk_frozen BK148.out 0; have hfz44_1 := blk_frozen BK148.out 1) | (go_at_call 47; (with_reducible refine (spec_alSwap.calls _ _ x0_3 x9_3 t161 _ ?side1 ?side2 A35.out).mono ?_); (case side1 => exact zq72); (case side2 => exact zq102); rintro e w45 ⟨v162, rfl, ho0, hb⟩; have n0_ := am (Kd.V_elder' zq35 (Kd.R_base ho0) hb); have n1_ := am (Kd.R_elder' zq43 (Kd.R_base ho0) hb); have n2_ := am (Kd.R_elder' zq42 (Kd.R_base ho0) hb); have n3_ := am (Kd.R_lower (Kd.R_new' (Kd.R_new' (spec_LeastOfRank.newM ho0 (below_size (pBq8 HB)) (blk_lt (g := B) (o := oB) zq7) (blk_lt (g := G) (o := oG) zq6)) (Kd.R_lt zq43)) (Kd.R_lt zq42)) (below_size (pBq8 HB))); have n4_ := am (blk_below (g := gb144) (o := .cells #[.int .i64 0, .slice none 0 0] 34 (0, 0)) zq88 hb); have nB_ := am (blk_below (g := B) (o := oB) zq83 hb); have nG_ := am (blk_below (g := G) (o := oG) zq82 hb); have n5_ := am (blk_below (g := gb148) (o := .cells #[.int .i64 (l0.length : Int), .slice Ao43 y158.length co43] 34 (0, 0)) zq78 hb); have n6_ := am (below_step (pBq8 HB) hb); clear HO_0; clear HO156; clear HO160; clear BK144 BKB BKG; clear BK148; clear HB; have HO_0 := n0_; have HO156 := n1_; have HO160 := n2_; have HO163 := n3_; have BK144 := n4_; have BKB := nB_; have BKG := nG_; clear nB_ nG_; have BK148 := n5_; have HB := n6_; clear n0_ n1_ n2_ n3_ n4_ n5_ n6_; (try clear hb hk)))
                 repeat (go_quiet (first | (go_at_call 47; (with_reducible refine (spec_alSwap.calls _ _ x0_3 x9_3 t154 _ ?side1 ?side2 A31.out).mono ?_); (case side1 => exact zq39); (case side2 => exact zq102); rintro e w37 ⟨v155, rfl, ho0, hb⟩; have n0_ := am (Kd.V_elder' zq15 (Kd.R_base ho0) hb); have n1_ := am (Kd.R_elder' (pRq8 HO_149001) (Kd.R_base ho0) hb); have n2_ := am (Kd.R_lower (Kd.R_new' (spec_LeastOfRank.newM ho0 (below_size (pBq8 HB)) (blk_lt (g := B) (o := oB) zq7) (blk_lt (g := G) (o := oG) zq6)) (Kd.R_lt (pRq8 HO_149001))) (below_size (pBq8 HB))); have n3_ := am (blk_below (pKq8 BK144) hb); have nB_ := am (blk_below (g := B) (o := oB) zq23 hb); have nG_ := am (blk_below (g := G) (o := oG) zq30 hb); have n4_ := am (blk_below (pKq8 BK148) hb); have n5_ := am (below_step (pBq8 HB) hb); clear HO_0; clear HO_149001; clear BK144 BKB BKG; clear BK148; clear HB; have HO_0 := n0_; have HO_149001 := n1_; have HO156 := n2_; have BK144 := n3_; have BKB := nB_; have BKG := nG_; clear nB_ nG_; have BK148 := n4_; have HB := n5_; clear n0_ n1_ n2_ n3_ n4_ n5_; (try clear hb); obtain ⟨Ao38, co38, eo38⟩ := Kd.R_slice HO156.out; subst eo38) | (go_at_call 35; (with_reducible refine (spec_alCounter_count.calls_g _ _ 16 B G _ _ t154 t157 w _ ?sB ?sM ?side1 ?side2 (spec_LeastOfRank.ct_out A32.out)).mono ?_); (case sB => exact (pBq8 HB)); (case sM => exact zq178); (case side1 => exact zq132); (case side2 => exact (Kd.R_reads' HO156.out).2.1); rintro e w39 ⟨rfl, hm_, hbB_, hk_⟩; replace HO_0 := am (Kd.V_kept zq15 hk_ (fun k_ hk_ e_ => absurd e_ zq14)); replace HO_149001 := am (Kd.R_kept (pRq8 HO_149001) hk_ (fun k_ hk_ e_ => absurd e_ zq14)); replace HO156 := am (Kd.R_kept (pRq8 HO156) hk_ (fun k_ hk_ e_ => absurd e_ zq14)); replace BK144 := am (blk_kept (g := gb144) (o := .cells #[.int .i64 0, .slice none 0 0] 34 (0, 0))  (pKq8 BK144) hk_ (fun e_ => NBG_144.out e_.symm)); replace BK148 := am (blk_kept (g := gb148) (o := .cells #[.int .i64 (l0.length : Int), u149001] 34 (0, 0))  (pKq8 BK148) hk_ (fun e_ => NBG_148.out e_.symm)); replace HB := am (hbB_); obtain ⟨oB, oG, hB1_, hG1_, hB2_⟩ := spec_LeastOfRank.after hm_; clear BKB BKG HMP; have BKB := am hB1_; have BKG := am hG1_; have HMP := am hB2_; clear hB1_ hG1_ hB2_ hm_ hbB_ hk_; have hnb40 := NB148_144.out; have hnc40 := NB144_148.out; have hcz41_0 : w39.cell? ⟨gb148, 0, none⟩ = some (.int .i64 (l0.length : Int)) := (blk_cell BK148.out 0).trans rfl; have hcz41_1 : w39.cell? ⟨gb148, 1, none⟩ = some (u149001) := (blk_cell BK148.out 1).trans rfl; have hfz41_0 := blk_frozen BK148.out 0; have hfz41_1 := blk_frozen BK148.out 1) | ((with_reducible refine gate_builtin (b := .append) (xs := #[.tmp 64, .tmp 66]) rfl ?_); at_builtin; refine Kd.R_append (Kd.int .i64) (w0 := w) w.heap.size rfl (.tmp 64) (.tmp 66) 24 3 (.int .i64 0) 8 rfl Try.underlying24 info3 rfl zq36 zq62 u149001 x149001_3 x9_3 [.int .i64 x9_3] (fun k_ => (w.heap.size ≤ k_ ∧ (k_ ≠ B ∧ k_ ≠ G)) ∧ some k_ ≠ (.slice Ao38 t154.length co38 : Value).ownBlock) (fun _ => False) rfl rfl ?aP (fun _ hk => hk.elim) ?aF ?aO ?aB ?aS ?aL ?_; (case aP => exact rfl); (case aB => exact (pBq8 HB)); (case aF => exact zq89); (case aO => exact (pRq8 HO_149001)); (case aS => exact (below_size (pBq8 HB))); (case aL => have := LMc34.out; omega); intro v159 w42 ho hb hg hat; rw [← Ny158.out] at ho; have n0_ := am (Kd.V_afterv (ok := (fun k_ => ((P0_ k_ ∨ w.heap.size ≤ k_) ∧ (k_ ≠ B ∧ k_ ≠ G)) ∧ some k_ ≠ (.slice Ao38 t154.length co38 : Value).ownBlock ∧ k_ ≠ gb144 ∧ k_ ≠ gb148)) zq115 hg hat); have n1_ := am (blk_grown (g := gb144) (o := .cells #[.int .i64 0, .slice none 0 0] 34 (0, 0)) (pKq8 BK144) hg (Kd.R_ne HO_149001.out BK144.out zq36)); have nB_ := am (blk_grown (g := B) (o := oB) zq23 hg (fun e_ => by have h_ := (HO_149001.out).1 B e_.symm; first | exact absurd rfl (h_.1.1.1.1.1.2.1) | exact absurd rfl (h_.1.1.1.1.2.1) | exact absurd rfl (h_.1.1.1.2.1) | exact absurd rfl (h_.1.1.2.1) | exact absurd rfl (h_.1.2.1) | exact absurd rfl (h_.2.1))); have nG_ := am (blk_grown (g := G) (o := oG) zq30 hg (fun e_ => by have h_ := (HO_149001.out).1 G e_.symm; first | exact absurd rfl (h_.1.1.1.1.1.2.2) | exact absurd rfl (h_.1.1.1.1.2.2) | exact absurd rfl (h_.1.1.1.2.2) | exact absurd rfl (h_.1.1.2.2) | exact absurd rfl (h_.1.2.2) | exact absurd rfl (h_.2.2))); have n2_ := am (blk_grown (g := gb148) (o := .cells #[.int .i64 (l0.length : Int), u149001] 34 (0, 0)) (pKq8 BK148) hg (Kd.R_ne HO_149001.out BK148.out zq36)); have n3_ := am (Kd.R_after (ok := (fun k_ => (w.heap.size ≤ k_ ∧ (k_ ≠ B ∧ k_ ≠ G)))) zq126 hg hat); have n4_ := am (hb); have n5_ := am (ho); clear HO_0; clear BK144 BKB BKG; clear BK148; clear HO156; clear HB; clear HO_149001; have HO_0 := n0_; have BK144 := n1_; have BKB := nB_; have BKG := nG_; clear nB_ nG_; have BK148 := n2_; have HO156 := n3_; have HB := n4_; have HO160 := n5_; clear n0_ n1_ n2_ n3_ n4_ n5_; clear ho hb hg hat; obtain ⟨Ao43, co43, eo43⟩ := Kd.R_slice HO160.out; subst eo43; have hcz44_0 : w42.cell? ⟨gb148, 0, none⟩ = some (.int .i64 (l0.length : Int)) := (blk_cell BK148.out 0).trans rfl; have hcz44_1 : w42.cell? ⟨gb148, 1, none⟩ = some (u149001) := (blk_cell BK148.out 1).trans rfl; have hfz44_0 := blk_frozen BK148.out 0; have hfz44_1 := blk_frozen BK148.out 1) | (go_at_call 47; (with_reducible refine (spec_alSwap.calls _ _ x0_3 x9_3 t161 _ ?side1 ?side2 A35.out).mono ?_); (case side1 => exact zq72); (case side2 => exact zq102); rintro e w45 ⟨v162, rfl, ho0, hb⟩; have n0_ := am (Kd.V_elder' zq35 (Kd.R_base ho0) hb); have n1_ := am (Kd.R_elder' zq43 (Kd.R_base ho0) hb); have n2_ := am (Kd.R_elder' zq42 (Kd.R_base ho0) hb); have n3_ := am (Kd.R_lower (Kd.R_new' (Kd.R_new' (spec_LeastOfRank.newM ho0 (below_size (pBq8 HB)) (blk_lt (g := B) (o := oB) zq7) (blk_lt (g := G) (o := oG) zq6)) (Kd.R_lt zq43)) (Kd.R_lt zq42)) (below_size (pBq8 HB))); have n4_ := am (blk_below (g := gb144) (o := .cells #[.int .i64 0, .slice none 0 0] 34 (0, 0)) zq88 hb); have nB_ := am (blk_below (g := B) (o := oB) zq83 hb); have nG_ := am (blk_below (g := G) (o := oG) zq82 hb); have n5_ := am (blk_below (g := gb148) (o := .cells #[.int .i64 (l0.length : Int), .slice Ao43 y158.length co43] 34 (0, 0)) zq78 hb); have n6_ := am (below_step (pBq8 HB) hb); clear HO_0; clear HO156; clear HO160; clear BK144 BKB BKG; clear BK148; clear HB; have HO_0 := n0_; have HO156 := n1_; have HO160 := n2_; have HO163 := n3_; have BK144 := n4_; have BKB := nB_; have BKG := nG_; clear nB_ nG_; have BK148 := n5_; have HB := n6_; clear n0_ n1_ n2_ n3_ n4_ n5_ n6_; (try clear hb hk))); try go_wp2_with (first | (go_at_call 47; (with_reducible refine (spec_alSwap.calls _ _ x0_3 x9_3 t154 _ ?side1 ?side2 A31.out).mono ?_); (case side1 => exact zq39); (case side2 => exact zq102); rintro e w37 ⟨v155, rfl, ho0, hb⟩; have n0_ := am (Kd.V_elder' zq15 (Kd.R_base ho0) hb); have n1_ := am (Kd.R_elder' (pRq8 HO_149001) (Kd.R_base ho0) hb); have n2_ := am (Kd.R_lower (Kd.R_new' (spec_LeastOfRank.newM ho0 (below_size (pBq8 HB)) (blk_lt (g := B) (o := oB) zq7) (blk_lt (g := G) (o := oG) zq6)) (Kd.R_lt (pRq8 HO_149001))) (below_size (pBq8 HB))); have n3_ := am (blk_below (pKq8 BK144) hb); have nB_ := am (blk_below (g := B) (o := oB) zq23 hb); have nG_ := am (blk_below (g := G) (o := oG) zq30 hb); have n4_ := am (blk_below (pKq8 BK148) hb); have n5_ := am (below_step (pBq8 HB) hb); clear HO_0; clear HO_149001; clear BK144 BKB BKG; clear BK148; clear HB; have HO_0 := n0_; have HO_149001 := n1_; have HO156 := n2_; have BK144 := n3_; have BKB := nB_; have BKG := nG_; clear nB_ nG_; have BK148 := n4_; have HB := n5_; clear n0_ n1_ n2_ n3_ n4_ n5_; (try clear hb); obtain ⟨Ao38, co38, eo38⟩ := Kd.R_slice HO156.out; subst eo38) | (go_at_call 35; (with_reducible refine (spec_alCounter_count.calls_g _ _ 16 B G _ _ t154 t157 w _ ?sB ?sM ?side1 ?side2 (spec_LeastOfRank.ct_out A32.out)).mono ?_); (case sB => exact (pBq8 HB)); (case sM => exact zq178); (case side1 => exact zq132); (case side2 => exact (Kd.R_reads' HO156.out).2.1); rintro e w39 ⟨rfl, hm_, hbB_, hk_⟩; replace HO_0 := am (Kd.V_kept zq15 hk_ (fun k_ hk_ e_ => absurd e_ zq14)); replace HO_149001 := am (Kd.R_kept (pRq8 HO_149001) hk_ (fun k_ hk_ e_ => absurd e_ zq14)); replace HO156 := am (Kd.R_kept (pRq8 HO156) hk_ (fun k_ hk_ e_ => absurd e_ zq14)); replace BK144 := am (blk_kept (g := gb144) (o := .cells #[.int .i64 0, .slice none 0 0] 34 (0, 0))  (pKq8 BK144) hk_ (fun e_ => NBG_144.out e_.symm)); replace BK148 := am (blk_kept (g := gb148) (o := .cells #[.int .i64 (l0.length : Int), u149001] 34 (0, 0))  (pKq8 BK148) hk_ (fun e_ => NBG_148.out e_.symm)); replace HB := am (hbB_); obtain ⟨oB, oG, hB1_, hG1_, hB2_⟩ := spec_LeastOfRank.after hm_; clear BKB BKG HMP; have BKB := am hB1_; have BKG := am hG1_; have HMP := am hB2_; clear hB1_ hG1_ hB2_ hm_ hbB_ hk_; have hnb40 := NB148_144.out; have hnc40 := NB144_148.out; have hcz41_0 : w39.cell? ⟨gb148, 0, none⟩ = some (.int .i64 (l0.length : Int)) := (blk_cell BK148.out 0).trans rfl; have hcz41_1 : w39.cell? ⟨gb148, 1, none⟩ = some (u149001) := (blk_cell BK148.out 1).trans rfl; have hfz41_0 := blk_frozen BK148.out 0; have hfz41_1 := blk_frozen BK148.out 1) | ((with_reducible refine gate_builtin (b := .append) (xs := #[.tmp 64, .tmp 66]) rfl ?_); at_builtin; refine Kd.R_append (Kd.int .i64) (w0 := w) w.heap.size rfl (.tmp 64) (.tmp 66) 24 3 (.int .i64 0) 8 rfl Try.underlying24 info3 rfl zq36 zq62 u149001 x149001_3 x9_3 [.int .i64 x9_3] (fun k_ => (w.heap.size ≤ k_ ∧ (k_ ≠ B ∧ k_ ≠ G)) ∧ some k_ ≠ (.slice Ao38 t154.length co38 : Value).ownBlock) (fun _ => False) rfl rfl ?aP (fun _ hk => hk.elim) ?aF ?aO ?aB ?aS ?aL ?_; (case aP => exact rfl); (case aB => exact (pBq8 HB)); (case aF => exact zq89); (case aO => exact (pRq8 HO_149001)); (case aS => exact (below_size (pBq8 HB))); (case aL => have := LMc34.out; omega); intro v159 w42 ho hb hg hat; rw [← Ny158.out] at ho; have n0_ := am (Kd.V_afterv (ok := (fun k_ => ((P0_ k_ ∨ w.heap.size ≤ k_) ∧ (k_ ≠ B ∧ k_ ≠ G)) ∧ some k_ ≠ (.slice Ao38 t154.length co38 : Value).ownBlock ∧ k_ ≠ gb144 ∧ k_ ≠ gb148)) zq115 hg hat); have n1_ := am (blk_grown (g := gb144) (o := .cells #[.int .i64 0, .slice none 0 0] 34 (0, 0)) (pKq8 BK144) hg (Kd.R_ne HO_149001.out BK144.out zq36)); have nB_ := am (blk_grown (g := B) (o := oB) zq23 hg (fun e_ => by have h_ := (HO_149001.out).1 B e_.symm; first | exact absurd rfl (h_.1.1.1.1.1.2.1) | exact absurd rfl (h_.1.1.1.1.2.1) | exact absurd rfl (h_.1.1.1.2.1) | exact absurd rfl (h_.1.1.2.1) | exact absurd rfl (h_.1.2.1) | exact absurd rfl (h_.2.1))); have nG_ := am (blk_grown (g := G) (o := oG) zq30 hg (fun e_ => by have h_ := (HO_149001.out).1 G e_.symm; first | exact absurd rfl (h_.1.1.1.1.1.2.2) | exact absurd rfl (h_.1.1.1.1.2.2) | exact absurd rfl (h_.1.1.1.2.2) | exact absurd rfl (h_.1.1.2.2) | exact absurd rfl (h_.1.2.2) | exact absurd rfl (h_.2.2))); have n2_ := am (blk_grown (g := gb148) (o := .cells #[.int .i64 (l0.length : Int), u149001] 34 (0, 0)) (pKq8 BK148) hg (Kd.R_ne HO_149001.out BK148.out zq36)); have n3_ := am (Kd.R_after (ok := (fun k_ => (w.heap.size ≤ k_ ∧ (k_ ≠ B ∧ k_ ≠ G)))) zq126 hg hat); have n4_ := am (hb); have n5_ := am (ho); clear HO_0; clear BK144 BKB BKG; clear BK148; clear HO156; clear HB; clear HO_149001; have HO_0 := n0_; have BK144 := n1_; have BKB := nB_; have BKG := nG_; clear nB_ nG_; have BK148 := n2_; have HO156 := n3_; have HB := n4_; have HO160 := n5_; clear n0_ n1_ n2_ n3_ n4_ n5_; clear ho hb hg hat; obtain ⟨Ao43, co43, eo43⟩ := Kd.R_slice HO160.out; subst eo43; have hcz44_0 : w42.cell? ⟨gb148, 0, none⟩ = some (.int .i64 (l0.length : Int)) := (blk_cell BK148.out 0).trans rfl; have hcz44_1 : w42.cell? ⟨gb148, 1, none⟩ = some (u149001) := (blk_cell BK148.out 1).trans rfl; have hfz44_0 := blk_frozen BK148.out 0; have hfz44_1 := blk_frozen BK148.out 1) | (go_at_call 47; (with_reducible refine (spec_alSwap.calls _ _ x0_3 x9_3 t161 _ ?side1 ?side2 A35.out).mono ?_); (case side1 => exact zq72); (case side2 => exact zq102); rintro e w45 ⟨v162, rfl, ho0, hb⟩; have n0_ := am (Kd.V_elder' zq35 (Kd.R_base ho0) hb); have n1_ := am (Kd.R_elder' zq43 (Kd.R_base ho0) hb); have n2_ := am (Kd.R_elder' zq42 (Kd.R_base ho0) hb); have n3_ := am (Kd.R_lower (Kd.R_new' (Kd.R_new' (spec_LeastOfRank.newM ho0 (below_size (pBq8 HB)) (blk_lt (g := B) (o := oB) zq7) (blk_lt (g := G) (o := oG) zq6)) (Kd.R_lt zq43)) (Kd.R_lt zq42)) (below_size (pBq8 HB))); have n4_ := am (blk_below (g := gb144) (o := .cells #[.int .i64 0, .slice none 0 0] 34 (0, 0)) zq88 hb); have nB_ := am (blk_below (g := B) (o := oB) zq83 hb); have nG_ := am (blk_below (g := G) (o := oG) zq82 hb); have n5_ := am (blk_below (g := gb148) (o := .cells #[.int .i64 (l0.length : Int), .slice Ao43 y158.length co43] 34 (0, 0)) zq78 hb); have n6_ := am (below_step (pBq8 HB) hb); clear HO_0; clear HO156; clear HO160; clear BK144 BKB BKG; clear BK148; clear HB; have HO_0 := n0_; have HO156 := n1_; have HO160 := n2_; have HO163 := n3_; have BK144 := n4_; have BKB := nB_; have BKG := nG_; clear nB_ nG_; have BK148 := n5_; have HB := n6_; clear n0_ n1_ n2_ n3_ n4_ n5_ n6_; (try clear hb hk))))
                 go_roundg k3
                 case measure => have := HJ2.out; have := HK2.out; have := HK3.out; omega
                 case rel => exact ⟨(t161), (x1_3), (wrap64 (x8_2 - 1)), (y158), (.slice Ao43 y158.length co43), zq13, zq13, H', ⟨zq157⟩, ⟨Kd.V_mono (Kd.R_V (by (with_reducible repeat (first | apply Kd.R_alloc | apply Kd.R_drewN | apply Kd.R_drew)); exact (Kd.R_types (Kd.R_types HO163.out BK144.out zq36) BK148.out zq36))) (fun k_ hk => by exact ⟨⟨.inr (hk.1.1.1.1.1).1, (hk.1.1.1.1.1).2⟩, ⟨hk.1.1.2, ⟨hk.1.2, hk.2⟩⟩⟩)⟩, ⟨by (with_reducible repeat (first | apply Kd.R_alloc | apply Kd.R_drewN | apply Kd.R_drew)); exact Kd.R_mono HO160.out (fun _ hk => hk.1.1)⟩, ⟨⟨oB, oG, zq7, zq6, HMP.out⟩⟩, ⟨zq61⟩, ⟨zq79⟩, ⟨zq10⟩⟩
                ·rw [if_neg c34] at H
                 exact absurd H zq66
               ·rw [if_neg c33] at H
                have c33b0 : decide (x1_3 < t157) = false := decide_eq_false c33
                clear c33
                have H' := am H
                clear H
                obtain ⟨Ao46, co46, eo46⟩ := Kd.V_slice HO_0.out
                subst eo46
                have p152 : 0 ≤ (x9_3 : Int) := of_decide_eq_true zq9
                have q152 : x9_3 < (x0_3.length : Int) := of_decide_eq_true zq9
                obtain ⟨ad152, e152, hx152_0⟩ := Kd.at_int (Kd.V_reads' HO_0.out).2.2 x9_3 p152 q152
                cases e152
                replace p152 := eq_true p152
                replace q152 := eq_true q152
                have p153 : 0 ≤ ((ji27) : Int) := of_decide_eq_true zq9
                have q153 : (ji27) < (x0_3.length : Int) := of_decide_eq_true zq9
                obtain ⟨ad153, e153, hx153_0⟩ := Kd.at_int (Kd.V_reads' HO_0.out).2.2 (ji27) p153 q153
                obtain rfl : ad152 = ad153 := (by injection e153)
                replace p153 := eq_true p153
                replace q153 := eq_true q153
                go_wp2_with (first | (go_at_call 47; (with_reducible refine (spec_alSwap.calls _ _ x0_3 x9_3 t154 _ ?side1 ?side2 A31.out).mono ?_); (case side1 => exact zq39); (case side2 => exact zq102); rintro e w47 ⟨v155, rfl, ho0, hb⟩; have n0_ := am (Kd.V_elder' zq15 (Kd.R_base ho0) hb); have n1_ := am (Kd.R_elder' (pRq8 HO_149001) (Kd.R_base ho0) hb); have n2_ := am (Kd.R_lower (Kd.R_new' (spec_LeastOfRank.newM ho0 (below_size (pBq8 HB)) (blk_lt (g := B) (o := oB) zq7) (blk_lt (g := G) (o := oG) zq6)) (Kd.R_lt (pRq8 HO_149001))) (below_size (pBq8 HB))); have n3_ := am (blk_below (pKq8 BK144) hb); have nB_ := am (blk_below (g := B) (o := oB) zq23 hb); have nG_ := am (blk_below (g := G) (o := oG) zq30 hb); have n4_ := am (blk_below (pKq8 BK148) hb); have n5_ := am (below_step (pBq8 HB) hb); clear HO_0; clear HO_149001; clear BK144 BKB BKG; clear BK148; clear HB; have HO_0 := n0_; have HO_149001 := n1_; have HO156 := n2_; have BK144 := n3_; have BKB := nB_; have BKG := nG_; clear nB_ nG_; have BK148 := n4_; have HB := n5_; clear n0_ n1_ n2_ n3_ n4_ n5_; (try clear hb); obtain ⟨Ao48, co48, eo48⟩ := Kd.R_slice HO156.out; subst eo48) | (go_at_call 35; (with_reducible refine (spec_alCounter_count.calls_g _ _ 16 B G _ _ t154 t157 w _ ?sB ?sM ?side1 ?side2 (spec_LeastOfRank.ct_out A32.out)).mono ?_); (case sB => exact (pBq8 HB)); (case sM => exact zq178); (case side1 => exact zq132); (case side2 => exact (Kd.R_reads' HO156.out).2.1); rintro e w49 ⟨rfl, hm_, hbB_, hk_⟩; replace HO_0 := am (Kd.V_kept zq15 hk_ (fun k_ hk_ e_ => absurd e_ zq14)); replace HO_149001 := am (Kd.R_kept (pRq8 HO_149001) hk_ (fun k_ hk_ e_ => absurd e_ zq14)); replace HO156 := am (Kd.R_kept (pRq8 HO156) hk_ (fun k_ hk_ e_ => absurd e_ zq14)); replace BK144 := am (blk_kept (g := gb144) (o := .cells #[.int .i64 0, .slice none 0 0] 34 (0, 0))  (pKq8 BK144) hk_ (fun e_ => NBG_144.out e_.symm)); replace BK148 := am (blk_kept (g := gb148) (o := .cells #[.int .i64 (l0.length : Int), u149001] 34 (0, 0))  (pKq8 BK148) hk_ (fun e_ => NBG_148.out e_.symm)); replace HB := am (hbB_); obtain ⟨oB, oG, hB1_, hG1_, hB2_⟩ := spec_LeastOfRank.after hm_; clear BKB BKG HMP; have BKB := am hB1_; have BKG := am hG1_; have HMP := am hB2_; clear hB1_ hG1_ hB2_ hm_ hbB_ hk_))
                repeat (go_quiet (first | (go_at_call 47; (with_reducible refine (spec_alSwap.calls _ _ x0_3 x9_3 t154 _ ?side1 ?side2 A31.out).mono ?_); (case side1 => exact zq39); (case side2 => exact zq102); rintro e w47 ⟨v155, rfl, ho0, hb⟩; have n0_ := am (Kd.V_elder' zq15 (Kd.R_base ho0) hb); have n1_ := am (Kd.R_elder' (pRq8 HO_149001) (Kd.R_base ho0) hb); have n2_ := am (Kd.R_lower (Kd.R_new' (spec_LeastOfRank.newM ho0 (below_size (pBq8 HB)) (blk_lt (g := B) (o := oB) zq7) (blk_lt (g := G) (o := oG) zq6)) (Kd.R_lt (pRq8 HO_149001))) (below_size (pBq8 HB))); have n3_ := am (blk_below (pKq8 BK144) hb); have nB_ := am (blk_below (g := B) (o := oB) zq23 hb); have nG_ := am (blk_below (g := G) (o := oG) zq30 hb); have n4_ := am (blk_below (pKq8 BK148) hb); have n5_ := am (below_step (pBq8 HB) hb); clear HO_0; clear HO_149001; clear BK144 BKB BKG; clear BK148; clear HB; have HO_0 := n0_; have HO_149001 := n1_; have HO156 := n2_; have BK144 := n3_; have BKB := nB_; have BKG := nG_; clear nB_ nG_; have BK148 := n4_; have HB := n5_; clear n0_ n1_ n2_ n3_ n4_ n5_; (try clear hb); obtain ⟨Ao48, co48, eo48⟩ := Kd.R_slice HO156.out; subst eo48) | (go_at_call 35; (with_reducible refine (spec_alCounter_count.calls_g _ _ 16 B G _ _ t154 t157 w _ ?sB ?sM ?side1 ?side2 (spec_LeastOfRank.ct_out A32.out)).mono ?_); (case sB => exact (pBq8 HB)); (case sM => exact zq178); (case side1 => exact zq132); (case side2 => exact (Kd.R_reads' HO156.out).2.1); rintro e w49 ⟨rfl, hm_, hbB_, hk_⟩; replace HO_0 := am (Kd.V_kept zq15 hk_ (fun k_ hk_ e_ => absurd e_ zq14)); replace HO_149001 := am (Kd.R_kept (pRq8 HO_149001) hk_ (fun k_ hk_ e_ => absurd e_ zq14)); replace HO156 := am (Kd.R_kept (pRq8 HO156) hk_ (fun k_ hk_ e_ => absurd e_ zq14)); replace BK144 := am (blk_kept (g := gb144) (o := .cells #[.int .i64 0, .slice none 0 0] 34 (0, 0))  (pKq8 BK144) hk_ (fun e_ => NBG_144.out e_.symm)); replace BK148 := am (blk_kept (g := gb148) (o := .cells #[.int .i64 (l0.length : Int), u149001] 34 (0, 0))  (pKq8 BK148) hk_ (fun e_ => NBG_148.out e_.symm)); replace HB := am (hbB_); obtain ⟨oB, oG, hB1_, hG1_, hB2_⟩ := spec_LeastOfRank.after hm_; clear BKB BKG HMP; have BKB := am hB1_; have BKG := am hG1_; have HMP := am hB2_; clear hB1_ hG1_ hB2_ hm_ hbB_ hk_)); try go_wp2_with (first | (go_at_call 47; (with_reducible refine (spec_alSwap.calls _ _ x0_3 x9_3 t154 _ ?side1 ?side2 A31.out).mono ?_); (case side1 => exact zq39); (case side2 => exact zq102); rintro e w47 ⟨v155, rfl, ho0, hb⟩; have n0_ := am (Kd.V_elder' zq15 (Kd.R_base ho0) hb); have n1_ := am (Kd.R_elder' (pRq8 HO_149001) (Kd.R_base ho0) hb); have n2_ := am (Kd.R_lower (Kd.R_new' (spec_LeastOfRank.newM ho0 (below_size (pBq8 HB)) (blk_lt (g := B) (o := oB) zq7) (blk_lt (g := G) (o := oG) zq6)) (Kd.R_lt (pRq8 HO_149001))) (below_size (pBq8 HB))); have n3_ := am (blk_below (pKq8 BK144) hb); have nB_ := am (blk_below (g := B) (o := oB) zq23 hb); have nG_ := am (blk_below (g := G) (o := oG) zq30 hb); have n4_ := am (blk_below (pKq8 BK148) hb); have n5_ := am (below_step (pBq8 HB) hb); clear HO_0; clear HO_149001; clear BK144 BKB BKG; clear BK148; clear HB; have HO_0 := n0_; have HO_149001 := n1_; have HO156 := n2_; have BK144 := n3_; have BKB := nB_; have BKG := nG_; clear nB_ nG_; have BK148 := n4_; have HB := n5_; clear n0_ n1_ n2_ n3_ n4_ n5_; (try clear hb); obtain ⟨Ao48, co48, eo48⟩ := Kd.R_slice HO156.out; subst eo48) | (go_at_call 35; (with_reducible refine (spec_alCounter_count.calls_g _ _ 16 B G _ _ t154 t157 w _ ?sB ?sM ?side1 ?side2 (spec_LeastOfRank.ct_out A32.out)).mono ?_); (case sB => exact (pBq8 HB)); (case sM => exact zq178); (case side1 => exact zq132); (case side2 => exact (Kd.R_reads' HO156.out).2.1); rintro e w49 ⟨rfl, hm_, hbB_, hk_⟩; replace HO_0 := am (Kd.V_kept zq15 hk_ (fun k_ hk_ e_ => absurd e_ zq14)); replace HO_149001 := am (Kd.R_kept (pRq8 HO_149001) hk_ (fun k_ hk_ e_ => absurd e_ zq14)); replace HO156 := am (Kd.R_kept (pRq8 HO156) hk_ (fun k_ hk_ e_ => absurd e_ zq14)); replace BK144 := am (blk_kept (g := gb144) (o := .cells #[.int .i64 0, .slice none 0 0] 34 (0, 0))  (pKq8 BK144) hk_ (fun e_ => NBG_144.out e_.symm)); replace BK148 := am (blk_kept (g := gb148) (o := .cells #[.int .i64 (l0.length : Int), u149001] 34 (0, 0))  (pKq8 BK148) hk_ (fun e_ => NBG_148.out e_.symm)); replace HB := am (hbB_); obtain ⟨oB, oG, hB1_, hG1_, hB2_⟩ := spec_LeastOfRank.after hm_; clear BKB BKG HMP; have BKB := am hB1_; have BKG := am hG1_; have HMP := am hB2_; clear hB1_ hG1_ hB2_ hm_ hbB_ hk_)))
                go_roundg k3
                case measure => have := HJ2.out; have := HK2.out; have := HK3.out; omega
                case rel => exact ⟨(x0_3), (wrap64 (x1_3 - t157)), (ji27), (x149001_3), (u149001), zq13, (by first | rfl | (simp; done) | (simp only [← hji27] <;> (first | rfl | simp)) | (simp [*]; done)), H', ⟨zq157⟩, ⟨by (with_reducible repeat (first | apply Kd.V_alloc | apply Kd.V_drewN | apply Kd.V_drew)); exact Kd.V_mono HO_0.out (fun _ hk => ⟨hk.1.1, ⟨hk.1.2.1, ⟨hk.1.2.2.1, hk.1.2.2.2⟩⟩⟩)⟩, ⟨by (with_reducible repeat (first | apply Kd.R_alloc | apply Kd.R_drewN | apply Kd.R_drew)); exact Kd.R_mono HO_149001.out (fun _ hk => hk.1)⟩, ⟨⟨oB, oG, zq7, zq6, HMP.out⟩⟩, ⟨zq61⟩, ⟨zq79⟩, ⟨zq10⟩⟩
             ·rw [if_neg c28] at H
              exact absurd H zq66
            ·rw [if_neg c26] at H
             exact absurd H zq66
           ·rw [if_neg c25] at H
            exact absurd H zq66
          ·rw [if_neg c24] at H
           have c24b0 : decide ((wrap64 (x9_3 + 1)) < (x0_3.length : Int)) = false := decide_eq_false c24
           clear c24
           have H' := am H
           clear H
           obtain ⟨Ao50, co50, eo50⟩ := Kd.V_slice HO_0.out
           subst eo50
           go_wp2
           repeat (go_quiet (fail); try go_wp2)
           go_roundg k3
           case measure => have := HJ2.out; have := HK2.out; have := HK3.out; omega
           case rel => exact ⟨(x0_3), (x1_3), (wrap64 (x8_2 - 1)), (x149001_3), (u149001), zq13, zq13, H', ⟨zq157⟩, ⟨zq15⟩, ⟨zq147⟩, ⟨⟨oB, oG, zq7, zq6, HMP.out⟩⟩, ⟨zq61⟩, ⟨zq79⟩, ⟨zq10⟩⟩
       ·rw [if_neg c23] at H
        have c23b0 : decide (0 < x8_2) = false := decide_eq_false c23
        clear c23
        simp only [Option.some.injEq, Prod.mk.injEq] at H
        obtain ⟨rfl, rfl, rfl⟩ := H
        have hnb51 := NB148_144.out
        have hnc51 := NB144_148.out
        have hcz52_0 : wr.cell? ⟨gb148, 0, none⟩ = some (.int .i64 (l0.length : Int)) := (blk_cell BK148.out 0).trans rfl
        have hcz52_1 : wr.cell? ⟨gb148, 1, none⟩ = some (u149001) := (blk_cell BK148.out 1).trans rfl
        have hfz52_0 := blk_frozen BK148.out 0
        have hfz52_1 := blk_frozen BK148.out 1
        have hcz53_0 : wr.cell? ⟨gb144, 0, none⟩ = some (.int .i64 0) := (blk_cell BK144.out 0).trans rfl
        have hcz53_1 : wr.cell? ⟨gb144, 1, none⟩ = some (.slice none 0 0) := (blk_cell BK144.out 1).trans rfl
        have hfz53_0 := blk_frozen BK144.out 0
        have hfz53_1 := blk_frozen BK144.out 1
        obtain ⟨Ao54, co54, eo54⟩ := Kd.R_slice HO_149001.out
        subst eo54
        go_wp2
        repeat (go_quiet (fail); try go_wp2)
        refine bodyPost_ret (results_ct rfl _ _ gb144 34 #[.int .i64 (l0.length : Int), .slice Ao54 x149001_2.length co54] (0, 0) _ rfl (by (with_reducible repeat (first | refine blk_drewN ?_ _ | refine blk_drew ?_ | refine blk_alloc ?_ _)); refine blk_put (cs := #[.int .i64 (l0.length : Int), .slice none 0 0]) ?_ 1 _ rfl; (with_reducible repeat (first | refine blk_drewN ?_ _ | refine blk_drew ?_ | refine blk_alloc ?_ _)); refine blk_put (cs := #[.int .i64 0, .slice none 0 0]) ?_ 0 _ rfl; (with_reducible repeat (first | refine blk_drewN ?_ _ | refine blk_drew ?_ | refine blk_alloc ?_ _)); exact BK144.out) Try.underlying34 rfl zq26) rfl ?_
        exact ⟨_, zq11, by (with_reducible repeat (first | apply Kd.R_alloc | apply Kd.R_drewN | apply Kd.R_drew)); exact Kd.R_mono (Kd.R_far (p := ⟨gb144, 1, none⟩) (Kd.R_far (p := ⟨gb144, 0, none⟩) (Kd.R_types HO_149001.out BK144.out zq36) (fun _ hk => hk.2) (.int .i64 (l0.length : Int))) (fun _ hk => hk.2) (.slice Ao54 x149001_2.length co54)) (fun _ _ => trivial), zq10⟩
noncomputable def spec_LeastOfRank.f (l0 : List Int) (a1 : Int) : Option (Int × List Int × Bool) := spec_LeastOfRank.g 200 l0 a1
theorem spec_LeastOfRank.calls (A0 : Option Addr) (c0 : Nat) (l0 : List Int) (a1 : Int) (r1 : Int) (r2 : List Int) (r3 : Bool) (w : World) (hr0 : Kd.C (Kd.int .i64) w A0 l0.length l0) (hc0 : l0.length ≤ c0) (h : spec_LeastOfRank.f l0 a1 = some (r1, r2, r3)) :
  Calls Try.prog 25 #[.slice A0 l0.length c0, .int .i64 a1] w fun e w' => ∃ v1_ : Value, e = .returned (.tuple #[.agg #[.int .i64 r1, v1_], .bool r3]) ∧ Kd.R (Kd.int .i64) 3 w' w.heap.size (fun _ => True) v1_ r2 ∧ Below w.heap.size w w' :=
 spec_LeastOfRank.calls_g 200 zq36 (fun k_ => k_ < w.heap.size) A0 c0 l0 a1 r1 r2 r3 w (Kd.V_mk hc0 (Kd.C_F (Kd.heap_int .i64) hr0)) h
/-! ### impl_IsLeast: function 26 -/
def impl_IsLeast.f (k : Nat) (a0_0 : Int) (l0_1 : List Int) : Option (Bool × Bool) := (impl_isLadder.f a0_0 l0_1).bind fun t531 => (if t531 = true then ((impl_needless.f k a0_0 l0_1).bind fun t532 => (some ((t532 == 0), true))) else (some (false, false)))
theorem impl_IsLeast.mono : ∀ a0 a1 k, LeO (impl_IsLeast.f k a0 a1) (impl_IsLeast.f (k + 1) a0 a1) := by
 intro a0 a1 k
 unfold impl_IsLeast.f
 repeat' first | (with_reducible first | exact impl_needless.mono _ _ _ | exact LeO.refl _ | exact LeO.none _ | refine LeO.ite ?_ ?_ | refine LeO.bind ?_ (fun _ => ?_))
theorem impl_IsLeast.calls (k : Nat) (a0_0 : Int) (A0_1 : Option Addr) (c0_1 : Nat) (l0_1 : List Int) (r1 : Bool) (r2 : Bool) (w : World) (hr0_1 : Kd.C (Kd.int .i64) w A0_1 l0_1.length l0_1) (hc0_1 : l0_1.length ≤ c0_1) (h : impl_IsLeast.f k a0_0 l0_1 = some (r1, r2)) :
  Calls Try.prog 26 #[.agg #[.int .i64 a0_0, .slice A0_1 l0_1.length c0_1]] w fun e w' => e = .returned (.tuple #[.bool r1, .bool r2]) ∧ Below w.heap.size w w' := by
 have hu34 := Try.underlying34
 have HR0_1 := am hr0_1
 have HC0_1 := am hc0_1
 clear hr0_1 hc0_1
 have HB := am (Below.refl w.heap.size w)
 have H : ((impl_isLadder.f a0_0 l0_1).bind fun t531 => (if t531 = true then ((impl_needless.f k a0_0 l0_1).bind fun t532 => (some ((t532 == 0), true))) else (some (false, false)))) = some (r1, r2) := h
 clear h
 obtain ⟨t531, A2, H⟩ := zS H
 (try dsimp only at H)
 by_cases c3 : t531 = true
 ·subst c3
  rw [if_pos rfl] at H
  obtain ⟨t532, A4, H⟩ := zS H
  (try dsimp only at H)
  simp only [Option.some.injEq, Prod.mk.injEq] at H
  obtain ⟨rfl, rfl⟩ := H
  go_enter Try.func26, Try.ntmps26
  go_wp2_with (first | ((with_reducible refine gate_dst (N := 1) rfl ?_); refine zE 1 (cs := #[.int .i64 a0_0, .slice A0_1 l0_1.length c0_1]) 34 ?_; intro gb530 hg w5 hbox hb; have BK530 := am (hbox); have GW530 := am ((zq84 : w.heap.size ≤ gb530)); have GE530 := am ((zq84 : w.heap.size ≤ gb530)); replace HB := am (below_step (pBq8 HB) hb); clear hb hbox hg; have hcz6_0 : w5.cell? ⟨gb530, 0, none⟩ = some (.int .i64 a0_0) := (blk_cell BK530.out 0).trans rfl; have hcz6_1 : w5.cell? ⟨gb530, 1, none⟩ = some (.slice A0_1 l0_1.length c0_1) := (blk_cell BK530.out 1).trans rfl; have hfz6_0 := blk_frozen BK530.out 0; have hfz6_1 := blk_frozen BK530.out 1) | ((with_reducible refine gate_callee (f := 40) rfl ?_); refine goesL_ (some 5) rfl rfl Try.func40 zq26 rfl #[.agg #[.int .i64 a0_0, .slice A0_1 l0_1.length c0_1]] rfl zq1 ?_; (with_reducible refine (impl_isLadder.calls a0_0 _ _ l0_1 true _ ?side1 ?side2 A2.out).mono ?_); (case side1 => exact zq21); (case side2 => exact HC0_1.out); rintro e w7 ⟨rfl, hb⟩; refine ⟨_, rfl, ?_⟩; replace BK530 := am (blk_below (pKq8 BK530) hb); replace HB := am (below_step (pBq8 HB) hb); (try clear hb); have hcz8_0 : w7.cell? ⟨gb530, 0, none⟩ = some (.int .i64 a0_0) := (blk_cell BK530.out 0).trans rfl; have hcz8_1 : w7.cell? ⟨gb530, 1, none⟩ = some (.slice A0_1 l0_1.length c0_1) := (blk_cell BK530.out 1).trans rfl; have hfz8_0 := blk_frozen BK530.out 0; have hfz8_1 := blk_frozen BK530.out 1) | ((with_reducible refine gate_callee (f := 53) rfl ?_); refine goesL_ (some 8) rfl rfl Try.func53 zq26 rfl #[.agg #[.int .i64 a0_0, .slice A0_1 l0_1.length c0_1]] rfl zq1 ?_; (with_reducible refine (impl_needless.calls k a0_0 _ _ l0_1 t532 _ ?side1 ?side2 A4.out).mono ?_); (case side1 => exact zq21); (case side2 => exact HC0_1.out); rintro e w9 ⟨rfl, hb⟩; refine ⟨_, rfl, ?_⟩; replace BK530 := am (blk_below (pKq8 BK530) hb); replace HB := am (below_step (pBq8 HB) hb); (try clear hb)))
  go_ret2
  exact ⟨zq11, zq10⟩
 ·replace c3 := Bool.eq_false_iff.mpr c3
  subst c3
  rw [if_neg (show ¬ (false = true) by decide)] at H
  simp only [Option.some.injEq, Prod.mk.injEq] at H
  obtain ⟨rfl, rfl⟩ := H
  go_enter Try.func26, Try.ntmps26
  go_wp2_with (first | ((with_reducible refine gate_dst (N := 1) rfl ?_); refine zE 1 (cs := #[.int .i64 a0_0, .slice A0_1 l0_1.length c0_1]) 34 ?_; intro gb530 hg w10 hbox hb; have BK530 := am (hbox); have GW530 := am ((zq84 : w.heap.size ≤ gb530)); have GE530 := am ((zq84 : w.heap.size ≤ gb530)); replace HB := am (below_step (pBq8 HB) hb); clear hb hbox hg; have hcz11_0 : w10.cell? ⟨gb530, 0, none⟩ = some (.int .i64 a0_0) := (blk_cell BK530.out 0).trans rfl; have hcz11_1 : w10.cell? ⟨gb530, 1, none⟩ = some (.slice A0_1 l0_1.length c0_1) := (blk_cell BK530.out 1).trans rfl; have hfz11_0 := blk_frozen BK530.out 0; have hfz11_1 := blk_frozen BK530.out 1) | ((with_reducible refine gate_callee (f := 40) rfl ?_); refine goesL_ (some 5) rfl rfl Try.func40 zq26 rfl #[.agg #[.int .i64 a0_0, .slice A0_1 l0_1.length c0_1]] rfl zq1 ?_; (with_reducible refine (impl_isLadder.calls a0_0 _ _ l0_1 false _ ?side1 ?side2 A2.out).mono ?_); (case side1 => exact zq21); (case side2 => exact HC0_1.out); rintro e w12 ⟨rfl, hb⟩; refine ⟨_, rfl, ?_⟩; replace BK530 := am (blk_below (pKq8 BK530) hb); replace HB := am (below_step (pBq8 HB) hb); (try clear hb)))
  go_ret2
  exact ⟨zq11, zq10⟩
end
end Go.Proofs.Ytdeoeogdnagibaa.PLi
