-- Written for this claim by a program of this session (myprint.py) over the kit's printer.
import Derived.Test.YtaheijeojbimeaaPLlx0
import Derived.Test.YtaheijeojbimeaaPLlx1
import Derived.Test.YtaheijeojbimeaaPLlx2
import Derived.Test.YtaheijeojbimeaaPLlx3
import Derived.Test.YtaheijeojbimeaaPLlx5
namespace Go.Proofs.Ytaheijeojbimeaa.PLl
noncomputable section
open Go.RowKit Go.Proofs.YtaheijeojbimeaaW.PrintWords Go.Proofs.YtaheijeojbimeaaW.PrintLast Go.Proofs.YtaheijeojbimeaaW.PrintMore
attribute [local go_sem] max2_int min2_int max_two min_two max_three min_three max_four min_four   -- for this text's walks alone
open List (setIfInBounds_toArray set_cons_zero set_cons_succ)
set_option linter.unusedVariables false
set_option linter.unusedSimpArgs false
theorem pRq6 {α : Type} {d : Kd α} {e base : Nat} {ok : Nat → Prop} {v : Value} {xs : List α} {w W : World} (h0 : Aside0 (Kd.R d e w base ok v xs)) (hp : Kd.R d e W base ok v xs := by (with_reducible repeat (first | apply Kd.R_alloc | apply Kd.R_drewN | apply Kd.R_drew)); exact Aside0.out (by with_reducible assumption)) : Kd.R d e W base ok v xs := hp
theorem pKq6 {g : Nat} {o : Obj} {w W : World} (h0 : Aside0 (w.heap[g]? = some o)) (hp : W.heap[g]? = some o := by (with_reducible repeat (first | refine blk_drewN ?_ _ | refine blk_drew ?_ | refine blk_alloc ?_ _)); exact Aside0.out (by with_reducible assumption)) : W.heap[g]? = some o := hp
theorem pBq6 {b : Nat} {w0 w W : World} (h0 : Aside0 (Below b w0 w)) (hp : Below b w0 W := by repeat (first | (with_reducible first | exact Aside0.out (by assumption) | apply below_alloc | apply pw_below_drewN | apply below_drew1 | refine below_set ?_ (Aside0.out (by assumption))))) : Below b w0 W := hp
/-! ### spec_l1Cur_ladder: function 92 -/
def spec_l1Cur_ladder.f (k : Nat) (s0_0 : List Int) (s0_1 : Int) (s0_2 : Int) : Option (Int × List Int × Int × Int) := (spec_l1Cur_sureLadder.f k s0_0 s0_1 s0_2 6 12).bind fun bt383 => ((spec_l1Cur_pick.f s0_0 bt383.2.2.1 bt383.2.2.2 16).bind fun bt390 => (if bt390.1 = 0 then ((spec_l1Cur_among.f s0_0 bt390.2.1 bt390.2.2 (([(-1), wrap64 (bt383.1 - 1), 4611686018427387904] : List Int))).bind fun bt396 => (if bt383.2.1.length < 17592186044416 then (some (bt383.1, (bt383.2.1 ++ [bt396.1]), bt396.2.1, bt396.2.2)) else (none))) else (if bt390.1 = 1 then ((spec_l1Cur_among.f s0_0 bt390.2.1 bt390.2.2 (([1, 2, 8, 9, (-1)] : List Int))).bind fun bt405 => (some (bt405.1, bt383.2.1, bt405.2.1, bt405.2.2))) else (if bt390.1 = 2 then ((spec_l1Cur_pick.f s0_0 bt390.2.1 bt390.2.2 2).bind fun bt408 => (if 0 ≤ (wrap64 (60 + bt408.1)) then (if (wrap64 (60 + bt408.1) : Int).toNat ≤ 35184372088832 then (some (bt383.1, (List.replicate (wrap64 (60 + bt408.1) : Int).toNat 0), bt408.2.1, bt408.2.2)) else (none)) else (none))) else (some (bt383.1, bt383.2.1, bt390.2.1, bt390.2.2))))))
theorem spec_l1Cur_ladder.mono : ∀ a0 a1 a2 k, LeO (spec_l1Cur_ladder.f k a0 a1 a2) (spec_l1Cur_ladder.f (k + 1) a0 a1 a2) := by
 intro a0 a1 a2 k
 unfold spec_l1Cur_ladder.f
 repeat' first | (with_reducible first | exact spec_l1Cur_sureLadder.mono _ _ _ _ _ _ | exact LeO.refl _ | exact LeO.none _ | refine LeO.ite ?_ ?_ | refine LeO.bind ?_ (fun _ => ?_))
def spec_l1Cur_ladder.T4 : Bool × List (List Nat × List Nat) := (true, [([], []), ([0], [0]), ([], []), ([], []), ([3], [3]), ([4], [4]), ([5], [5]), ([2, 6], [2, 6]), ([7], [7]), ([1, 8, 7], [1, 8]), ([0, 1, 2, 3, 4, 5, 6, 7, 8, 9], []), ([10, 9, 9, 0, 1, 2, 3, 4, 5, 6, 7, 8, 9], [9, 10])])
def spec_l1Cur_ladder.B4 : List Nat := [0, 1, 0, 0, 8, 24, 56, 124, 252, 511, 1023, 2047]
theorem spec_l1Cur_ladder.tab4 : rtab .any (opsOf Try.f92 4) = spec_l1Cur_ladder.T4 := by kernel_rfl
theorem spec_l1Cur_ladder.bits4 : waitsOk spec_l1Cur_ladder.T4.2 spec_l1Cur_ladder.B4 = true := by kernel_rfl
set_option maxHeartbeats 8000000 in
set_option maxRecDepth 100000 in
theorem spec_l1Cur_ladder.calls (k : Nat) (g : Nat) (s0_0 : List Int) (s0_1 : Int) (s0_2 : Int) (r1 : Int) (r2 : List Int) (r3 : Int) (r4 : Int) (w0 w : World) (hI : IsS75 w0 w g s0_0 s0_1 s0_2) (hB : Below w0.heap.size w0 w) (h : spec_l1Cur_ladder.f k s0_0 s0_1 s0_2 = some (r1, r2, r3, r4)) :
  Calls Try.prog 92 #[.pointer (some ⟨g, 0, none⟩)] w fun e w' => ∃ v1_ : Value, e = .returned (.agg #[.int .i64 r1, v1_]) ∧ Kd.R (Kd.int .i64) 3 w' w.heap.size (fun _ => True) v1_ r2 ∧ IsS75 w0 w' g s0_0 r3 r4 ∧ Below w0.heap.size w0 w' ∧ KeepBut w w' g none := by
 have hu40 := Try.underlying40
 have HI0 := Aside0.mk hI
 have HK := Aside0.mk (KeepBut.refl w g none)
 have HL := Aside0.mk hB.size
 clear hI
 have HW0 := Aside0.mk hB.size
 have HB := Aside0.mk hB
 clear hB
 have H : ((spec_l1Cur_sureLadder.f k s0_0 s0_1 s0_2 6 12).bind fun bt383 => ((spec_l1Cur_pick.f s0_0 bt383.2.2.1 bt383.2.2.2 16).bind fun bt390 => (if bt390.1 = 0 then ((spec_l1Cur_among.f s0_0 bt390.2.1 bt390.2.2 (([(-1), wrap64 (bt383.1 - 1), 4611686018427387904] : List Int))).bind fun bt396 => (if bt383.2.1.length < 17592186044416 then (some (bt383.1, (bt383.2.1 ++ [bt396.1]), bt396.2.1, bt396.2.2)) else (none))) else (if bt390.1 = 1 then ((spec_l1Cur_among.f s0_0 bt390.2.1 bt390.2.2 (([1, 2, 8, 9, (-1)] : List Int))).bind fun bt405 => (some (bt405.1, bt383.2.1, bt405.2.1, bt405.2.2))) else (if bt390.1 = 2 then ((spec_l1Cur_pick.f s0_0 bt390.2.1 bt390.2.2 2).bind fun bt408 => (if 0 ≤ (wrap64 (60 + bt408.1)) then (if (wrap64 (60 + bt408.1) : Int).toNat ≤ 35184372088832 then (some (bt383.1, (List.replicate (wrap64 (60 + bt408.1) : Int).toNat 0), bt408.2.1, bt408.2.2)) else (none)) else (none))) else (some (bt383.1, bt383.2.1, bt390.2.1, bt390.2.2))))))) = some (r1, r2, r3, r4) := h
 clear h
 replace H := Option.bind_eq_some_iff.mp H
 obtain ⟨⟨t383, t384, t387, t388⟩, A20, H⟩ := H
 replace H : ((spec_l1Cur_pick.f s0_0 t387 t388 16).bind fun bt390 => (if bt390.1 = 0 then ((spec_l1Cur_among.f s0_0 bt390.2.1 bt390.2.2 (([(-1), wrap64 (t383 - 1), 4611686018427387904] : List Int))).bind fun bt396 => (if t384.length < 17592186044416 then (some (t383, (t384 ++ [bt396.1]), bt396.2.1, bt396.2.2)) else (none))) else (if bt390.1 = 1 then ((spec_l1Cur_among.f s0_0 bt390.2.1 bt390.2.2 (([1, 2, 8, 9, (-1)] : List Int))).bind fun bt405 => (some (bt405.1, t384, bt405.2.1, bt405.2.2))) else (if bt390.1 = 2 then ((spec_l1Cur_pick.f s0_0 bt390.2.1 bt390.2.2 2).bind fun bt408 => (if 0 ≤ (wrap64 (60 + bt408.1)) then (if (wrap64 (60 + bt408.1) : Int).toNat ≤ 35184372088832 then (some (t383, (List.replicate (wrap64 (60 + bt408.1) : Int).toNat 0), bt408.2.1, bt408.2.2)) else (none)) else (none))) else (some (t383, t384, bt390.2.1, bt390.2.2)))))) = some (r1, r2, r3, r4) := H
 have A2 := Aside0.mk A20
 clear A20
 replace H := Option.bind_eq_some_iff.mp H
 obtain ⟨⟨t390, t391, t392⟩, A30, H⟩ := H
 replace H : (if t390 = 0 then ((spec_l1Cur_among.f s0_0 t391 t392 (([(-1), wrap64 (t383 - 1), 4611686018427387904] : List Int))).bind fun bt396 => (if t384.length < 17592186044416 then (some (t383, (t384 ++ [bt396.1]), bt396.2.1, bt396.2.2)) else (none))) else (if t390 = 1 then ((spec_l1Cur_among.f s0_0 t391 t392 (([1, 2, 8, 9, (-1)] : List Int))).bind fun bt405 => (some (bt405.1, t384, bt405.2.1, bt405.2.2))) else (if t390 = 2 then ((spec_l1Cur_pick.f s0_0 t391 t392 2).bind fun bt408 => (if 0 ≤ (wrap64 (60 + bt408.1)) then (if (wrap64 (60 + bt408.1) : Int).toNat ≤ 35184372088832 then (some (t383, (List.replicate (wrap64 (60 + bt408.1) : Int).toNat 0), bt408.2.1, bt408.2.2)) else (none)) else (none))) else (some (t383, t384, t391, t392))))) = some (r1, r2, r3, r4) := H
 have A3 := Aside0.mk A30
 clear A30
 by_cases c4 : t390 = 0
 ·rw [if_pos c4] at H
  have c4b0 : (t390 == 0) = true := beq_iff_eq.mpr c4
  have c4b1 : (t390 != 0) = false := bne_eq_false_iff_eq.mpr c4
  clear c4
  obtain ⟨y393, hy393⟩ : ∃ y_ : List Int, y_ = (([(-1), wrap64 (t383 - 1), 4611686018427387904] : List Int)) := ⟨_, rfl⟩
  replace H : ((spec_l1Cur_among.f s0_0 t391 t392 y393).bind fun bt396 => (if t384.length < 17592186044416 then (some (t383, (t384 ++ [bt396.1]), bt396.2.1, bt396.2.2)) else (none))) = some (r1, r2, r3, r4) := by first | (rw [hy393]; with_reducible exact H) | (have H2_ := (Option.bind_some _ _).symm.trans H; rw [hy393]; with_reducible exact H2_) | (have H2_ := (Option.bind_some _ _).symm.trans H; with_reducible exact H2_) | with_reducible exact H | (rw [hy393]; exact H) | exact H
  have Ny393 := Aside0.mk hy393
  clear hy393
  replace H := Option.bind_eq_some_iff.mp H
  obtain ⟨⟨t396, t397, t398⟩, A50, H⟩ := H
  replace H : (if t384.length < 17592186044416 then (some (t383, (t384 ++ [t396]), t397, t398)) else (none)) = some (r1, r2, r3, r4) := H
  have A5 := Aside0.mk A50
  clear A50
  by_cases c6 : t384.length < 17592186044416
  ·rw [if_pos c6] at H
   have LMc6 := Aside0.mk c6
   clear c6
   obtain ⟨y399, hy399⟩ : ∃ y_ : List Int, y_ = (t384 ++ [t396]) := ⟨_, rfl⟩
   replace H : (some (t383, y399, t397, t398)) = some (r1, r2, r3, r4) := by first | (rw [hy399]; with_reducible exact H) | (have H2_ := (Option.bind_some _ _).symm.trans H; rw [hy399]; with_reducible exact H2_) | (have H2_ := (Option.bind_some _ _).symm.trans H; with_reducible exact H2_) | with_reducible exact H | (rw [hy399]; exact H) | exact H
   have Ny399 := Aside0.mk hy399
   clear hy399
   simp only [Option.some.injEq, Prod.mk.injEq] at H
   obtain ⟨rfl, rfl, rfl, rfl⟩ := H
   go_enter Try.func92, Try.ntmps92
   try go_wp2_with (first | ((with_reducible refine gate_dst (N := 2) rfl ?_); refine box_event ?hg (N := 2) ?hd (cs := #[.int .i64 0, .slice none 0 0]) (t := 40) ?hr ?_; (case hd => rfl); (case hg => rfl); (case hr => exact zq16); intro gb382 hg w7 hbox hb; have BK382 := Aside0.mk (hbox); have GW382 := Aside0.mk ((by rw [hg]; exact (keep_size (w := w) (g := g) (row := none) zq1) : w.heap.size ≤ gb382)); have GE382 := Aside0.mk ((Nat.le_trans HW0.out (by rw [hg]; exact (keep_size (w := w) (g := g) (row := none) zq1) : w.heap.size ≤ gb382) : w0.heap.size ≤ gb382)); have NB0_382 := Aside0.mk ((by rw [hg]; exact Nat.ne_of_lt (IsS75.lt (show IsS75 w0 _ g s0_0 s0_1 s0_2 from by repeat (first | (with_reducible first | exact HI0.out | apply IsS75.alloc | apply IsS75.drewN | apply IsS75.drew | apply IsS75.set_1 | apply IsS75.set_2) | exact HI0.out))) : g ≠ gb382)); have NB382_0 := Aside0.mk ((by rw [hg]; exact Nat.ne_of_gt (IsS75.lt (show IsS75 w0 _ g s0_0 s0_1 s0_2 from by repeat (first | (with_reducible first | exact HI0.out | apply IsS75.alloc | apply IsS75.drewN | apply IsS75.drew | apply IsS75.set_1 | apply IsS75.set_2) | exact HI0.out))) : gb382 ≠ g)); replace HK := Aside0.mk (KeepBut.trans zq1 (KeepBut.of_below hb g none) (.inl rfl)); replace HB := Aside0.mk (below_step zq4 hb); replace HI0 := Aside0.mk (IsS75.below zq6 hb); clear hb hbox hg) | ((with_reducible refine gate_callee (f := 118) rfl ?_); refine goesL_ (some 5) rfl rfl Try.func118 zq17 rfl #[.pointer (some ⟨g, 0, none⟩), .int .i64 6, .int .i64 12] rfl zq0 ?_; (with_reducible refine (spec_l1Cur_sureLadder.calls k g s0_0 s0_1 s0_2 6 12 t383 t384 t387 t388 w0 _ ?side1 ?side2 A2.out).mono ?_); (case side1 => exact zq19); (case side2 => exact zq20); rintro e w8 ⟨v385, rfl, ho0, hi, hb, hk⟩; refine ⟨_, rfl, ?_⟩; have HO386 := Aside0.mk (Kd.R_lower ho0 (keep_size (w := w) (g := g) (row := none) zq11)); replace BK382 := Aside0.mk (KeepBut.blk hk (g' := gb382) (o := .cells #[.int .i64 0, .slice none 0 0] 40 (0, 0)) (pKq6 BK382) NB382_0.out zq41); replace HK := Aside0.mk (KeepBut.trans zq11 hk (.inl rfl)); replace HB := Aside0.mk (hb); replace HI0 := Aside0.mk (hi); (try clear hb); (try clear hk); (try clear hi); (try clear ho0)) | ((with_reducible refine gate_dst (N := 3) rfl ?_); refine box_event ?hg (N := 3) ?hd (cs := #[.int .i64 0, .slice none 0 0]) (t := 40) ?hr ?_; (case hd => rfl); (case hg => rfl); (case hr => exact zq16); intro gb389 hg w9 hbox hb; have BK389 := Aside0.mk (hbox); have GW389 := Aside0.mk ((by rw [hg]; exact (keep_size (w := w) (g := g) (row := none) zq11) : w.heap.size ≤ gb389)); have GE389 := Aside0.mk ((Nat.le_trans HW0.out (by rw [hg]; exact (keep_size (w := w) (g := g) (row := none) zq11) : w.heap.size ≤ gb389) : w0.heap.size ≤ gb389)); have NB382_389 := Aside0.mk ((by rw [hg]; exact Nat.ne_of_lt (blk_lt (pKq6 BK382)) : gb382 ≠ gb389)); have NB389_382 := Aside0.mk ((by rw [hg]; exact Nat.ne_of_gt (blk_lt (pKq6 BK382)) : gb389 ≠ gb382)); have NB0_389 := Aside0.mk ((by rw [hg]; exact Nat.ne_of_lt (IsS75.lt (show IsS75 w0 _ g s0_0 t387 t388 from by repeat (first | (with_reducible first | exact HI0.out | apply IsS75.alloc | apply IsS75.drewN | apply IsS75.drew | apply IsS75.set_1 | apply IsS75.set_2 | refine IsS75.far ?_ NB0_382.out _) | exact HI0.out))) : g ≠ gb389)); have NB389_0 := Aside0.mk ((by rw [hg]; exact Nat.ne_of_gt (IsS75.lt (show IsS75 w0 _ g s0_0 t387 t388 from by repeat (first | (with_reducible first | exact HI0.out | apply IsS75.alloc | apply IsS75.drewN | apply IsS75.drew | apply IsS75.set_1 | apply IsS75.set_2 | refine IsS75.far ?_ NB0_382.out _) | exact HI0.out))) : gb389 ≠ g)); replace HO386 := Aside0.mk (Kd.R_below (pRq6 HO386) hb); replace BK382 := Aside0.mk (blk_below (pKq6 BK382) hb); replace HK := Aside0.mk (KeepBut.trans zq11 (KeepBut.of_below hb g none) (.inl rfl)); replace HB := Aside0.mk (below_step zq20 hb); replace HI0 := Aside0.mk (IsS75.below zq19 hb); clear hb hbox hg; have hnb10 := NB389_382.out; have hnc10 := NB382_389.out; have hnb11 := NB389_0.out; have hnc11 := NB0_389.out; have hcz12_0 : w9.cell? ⟨gb389, 0, none⟩ = some (.int .i64 0) := (blk_cell BK389.out 0).trans rfl; have hcz12_1 : w9.cell? ⟨gb389, 1, none⟩ = some (.slice none 0 0) := (blk_cell BK389.out 1).trans rfl; have hfz12_0 := blk_frozen BK389.out 0; have hfz12_1 := blk_frozen BK389.out 1; obtain ⟨Ao13, co13, eo13⟩ := Kd.R_slice HO386.out; subst eo13) | ((with_reducible refine gate_callee (f := 91) rfl ?_); refine goesL_ (some 7) rfl rfl Try.func91 zq17 rfl #[.pointer (some ⟨g, 0, none⟩), .int .i64 16] rfl zq0 ?_; (with_reducible refine (spec_l1Cur_pick.calls g s0_0 t387 t388 16 t390 t391 t392 w0 _ ?side1 ?side2 A3.out).mono ?_); (case side1 => exact zq13); (case side2 => exact zq14); rintro e w14 ⟨rfl, hi, hb, hk⟩; refine ⟨_, rfl, ?_⟩; replace BK382 := Aside0.mk (KeepBut.blk hk (g' := gb382) (o := .cells #[.int .i64 0, .slice none 0 0] 40 (0, 0)) zq27 NB382_0.out zq41); replace HO386 := Aside0.mk (Kd.R_mono (Kd.R_keep (IsS75.apart (show IsS75 w0 _ g s0_0 t387 t388 from by repeat (first | (with_reducible first | exact HI0.out | apply IsS75.alloc | apply IsS75.drewN | apply IsS75.drew | apply IsS75.set_1 | apply IsS75.set_2 | refine IsS75.far ?_ NB0_382.out _ | refine IsS75.far ?_ NB0_389.out _) | exact HI0.out)) (by (with_reducible repeat (first | apply Kd.R_alloc | apply Kd.R_drewN | apply Kd.R_drew)); exact (Kd.R_mono (Kd.R_far (p := ⟨gb389, 1, none⟩) (Kd.R_far (p := ⟨gb389, 0, none⟩) (Kd.R_types HO386.out BK389.out zq35) (fun _ hk => hk.2) (.int .i64 t383)) (fun _ hk => hk.2) (.slice Ao13 t384.length co13)) (fun _ h_ => h_.1))) zq35) hk (fun _ h => h.2)) (fun _ h => h.1)); replace BK389 := Aside0.mk (KeepBut.blk hk (g' := gb389) (o := .cells #[.int .i64 t383, .slice Ao13 t384.length co13] 40 (0, 0)) zq21 NB389_0.out zq41); replace HK := Aside0.mk (KeepBut.trans zq10 hk (.inl rfl)); replace HB := Aside0.mk (hb); replace HI0 := Aside0.mk (hi); (try clear hb); (try clear hk); (try clear hi)))
   replace HO386 := Aside0.mk (Kd.R_drew HO386.out)
   replace BK382 := Aside0.mk (blk_drew BK382.out)
   replace BK389 := Aside0.mk (blk_drew BK389.out)
   replace HI0 := Aside0.mk (IsS75.drew HI0.out)
   replace HK := Aside0.mk (keep_drew HK.out)
   replace HB := Aside0.mk (below_drew1 HB.out)
   refine start_ (n := 12) (S := fun w' => w'.cell? ⟨gb389, 0, none⟩ = some (.int .i64 t383) ∧ w'.cell? ⟨gb389, 1, none⟩ = some (.slice Ao13 t384.length co13)) (ds := [11]) #[false, false, false, false, false, false, false, false, false, false, false, false] zq17 rfl rfl ⟨(blk_cell BK389.out 0).trans rfl, (blk_cell BK389.out 1).trans rfl⟩ (fun hHeld => ?_); refine with_tabW spec_l1Cur_ladder.tab4 spec_l1Cur_ladder.bits4 (fun HT_ HW_ => ?_)
   generalize w14.drew = w15 at HO386 BK382 BK389 HI0 HK HB hHeld ⊢
   refine zU 0 10 HT_ ?_
   refine zU 2 12 HT_ ?_
   refine zU 3 13 HT_ ?_
   refine zT 1 11 HT_ HW_ hHeld ?_
   refine zT 4 14 HT_ HW_ hHeld ?_
   refine zU 5 15 HT_ ?_
   refine zO 6 16 HT_ fun K hK => ?_
   refine Kd.R_lit_step (Kd.int .i64) _ 3 ?hg (N := 16) ?hd (xs := ([(-1), wrap64 (t383 - 1), 4611686018427387904] : List Int)) (inner := [.int .i64 (-1), .int .i64 (wrap64 (t383 - 1)), .int .i64 4611686018427387904]) (ok := fun _ => True) (okp := fun _ => True) ?hr ?hp (fun _ hk => hk) trivial (Below.refl _ _) (Nat.le_refl _) zq41 ?_; (case hd => rfl); (case hg => rfl); (case hr => exact zq16); (case hp => exact (Reps.one (show Kd.M (Kd.int .i64) _ _ _ (-1) [.int .i64 (-1)] from rfl) (Reps.one (show Kd.M (Kd.int .i64) _ _ _ (wrap64 (t383 - 1)) [.int .i64 (wrap64 (t383 - 1))] from rfl) (Reps.one (show Kd.M (Kd.int .i64) _ _ _ 4611686018427387904 [.int .i64 4611686018427387904] from rfl) (Reps.none _ _)))))
   intro v394 w16 ho17 hb hg_ hnew_
   clear hg_ hnew_
   (first | rw [← Ny393.out] at ho17 | (simp only [Int.reduceToNat] at ho17; rw [← Ny393.out] at ho17))
   have HO395 := Aside0.mk (Kd.R_lower (Kd.R_new' ho17 (Kd.R_lt (pRq6 HO386))) (keep_size (w := w) (g := g) (row := none) zq10))
   replace HO386 := Aside0.mk (Kd.R_elder' (pRq6 HO386) (Kd.R_base ho17) hb)
   replace BK382 := Aside0.mk (blk_below (pKq6 BK382) hb)
   replace BK389 := Aside0.mk (blk_below (pKq6 BK389) hb)
   replace HK := Aside0.mk (KeepBut.trans zq10 (KeepBut.of_below hb g none) (.inl rfl))
   replace HB := Aside0.mk (below_step zq14 hb)
   replace HI0 := Aside0.mk (IsS75.below zq13 hb)
   clear hb ho17
   obtain ⟨Ao18, co18, eo18⟩ := Kd.R_slice HO395.out
   (first | subst eo18 | (injection eo18 with f1_ f2_ f3_; have f4_ := f1_.symm; have f5_ := f3_.symm; clear f1_ f2_ f3_; subst f4_; subst f5_))
   refine hK.out _ _ ⟨(blk_cell BK389.out 0).trans rfl, (blk_cell BK389.out 1).trans rfl⟩ (fun hHeld => ?_)
   clear hK K
   refine zN 16 ?_
   refine zO 7 17 HT_ fun K hK => ?_
   refine goes_ Try.func112 zq17 rfl #[.pointer (some ⟨g, 0, none⟩), .slice Ao18 y393.length co18] (by rfl) rfl rfl zq0 ?_
   with_reducible refine (spec_l1Cur_among.calls g s0_0 t391 t392 _ _ y393 t396 t397 t398 w0 _ ?side1 ?side2 ?side3 ?side4 ?side5 A5.out).mono ?_
   (case side1 => exact zq13)
   (case side2 => exact zq14)
   (case side3 => repeat (first | exact (Kd.R_reads' HO395.out).2.2 | (with_reducible refine Kd.C_alloc ?_ _) | (with_reducible refine Kd.C_drewN ?_ _) | (with_reducible refine Kd.C_drew ?_)))
   (case side4 => exact (Kd.R_reads' HO395.out).2.1)
   (case side5 => exact far_slice (IsS75.own_ne HI0.out HO395.out zq35))
   rintro e w19 ⟨rfl, hi, hb, hk⟩
   refine ⟨_, rfl, ?_⟩
   replace BK382 := Aside0.mk (KeepBut.blk hk (g' := gb382) (o := .cells #[.int .i64 0, .slice none 0 0] 40 (0, 0)) (pKq6 BK382) NB382_0.out zq41)
   replace HO386 := Aside0.mk (Kd.R_mono (Kd.R_keep (IsS75.apart (show IsS75 w0 _ g s0_0 t391 t392 from by repeat (first | (with_reducible first | exact HI0.out | apply IsS75.alloc | apply IsS75.drewN | apply IsS75.drew | apply IsS75.set_1 | apply IsS75.set_2 | refine IsS75.far ?_ NB0_382.out _ | refine IsS75.far ?_ NB0_389.out _) | exact HI0.out)) (pRq6 HO386) zq35) hk (fun _ h => h.2)) (fun _ h => h.1))
   replace BK389 := Aside0.mk (KeepBut.blk hk (g' := gb389) (o := .cells #[.int .i64 t383, .slice Ao13 t384.length co13] 40 (0, 0)) (pKq6 BK389) NB389_0.out zq41)
   replace HO395 := Aside0.mk (Kd.R_mono (Kd.R_keep (IsS75.apart (show IsS75 w0 _ g s0_0 t391 t392 from by repeat (first | (with_reducible first | exact HI0.out | apply IsS75.alloc | apply IsS75.drewN | apply IsS75.drew | apply IsS75.set_1 | apply IsS75.set_2 | refine IsS75.far ?_ NB0_382.out _ | refine IsS75.far ?_ NB0_389.out _) | exact HI0.out)) (pRq6 HO395) zq35) hk (fun _ h => h.2)) (fun _ h => h.1))
   replace HK := Aside0.mk (KeepBut.trans zq10 hk (.inl rfl))
   replace HB := Aside0.mk (hb)
   replace HI0 := Aside0.mk (hi)
   (try clear hb)
   (try clear hb2)
   (try clear hk)
   (try clear hi)
   refine hK.out _ _ ⟨(blk_cell BK389.out 0).trans rfl, (blk_cell BK389.out 1).trans rfl⟩ (fun hHeld => ?_)
   clear hK K
   refine zN 17 ?_
   refine zO 8 18 HT_ fun K hK => ?_
   refine value_ (w1 := ?_) (v := ?_) (by rfl) rfl ?_ ?_
   rotate_left 2
   ·go_simp
    constructor
    ·rfl
    ·rfl
   refine hK.out _ _ ⟨(blk_cell (blk_alloc BK389.out _) 0).trans rfl, (blk_cell (blk_alloc BK389.out _) 1).trans rfl⟩ (fun hHeld => ?_)
   clear hK K
   refine zN 18 ?_
   refine zO 9 19 HT_ fun K hK => ?_
   refine Kd.R_append_step (Kd.int .i64) w.heap.size (by rfl) (.tmp 11) (.tmp 18) 24 3 (.int .i64 0) 8 rfl Try.underlying24 info3 rfl zq35 zq60 (.slice Ao13 t384.length co13) t384 t396 [.int .i64 t396] (fun k_ => some k_ ≠ (.slice Ao18 y393.length co18 : Value).ownBlock) (fun _ => False) rfl rfl ?aP (fun _ hk => hk.elim) ?aF ?aO (Below.refl _ _) ?aS ?aL ?_
   (case aP => exact rfl)
   (case aF => exact (fun k_ hk => Kd.fresh' (Kd.R_lt (pRq6 HO395)) k_ hk))
   (case aO => exact (by (with_reducible repeat (first | apply Kd.R_alloc | apply Kd.R_drewN | apply Kd.R_drew)); exact Kd.R_mono HO386.out (fun _ hk => hk.2)))
   (case aS => exact (keep_size (w := w) (g := g) (row := none) zq10))
   (case aL => have := LMc6.out; omega)
   intro v400 w20 ho hb hg hat
   rw [← Ny399.out] at ho
   have HO401 := Aside0.mk (ho)
   replace BK382 := Aside0.mk (blk_grown (g := gb382) (o := .cells #[.int .i64 0, .slice none 0 0] 40 (0, 0)) (pKq6 BK382) hg (Kd.R_ne HO386.out BK382.out zq35))
   replace BK389 := Aside0.mk (blk_grown (g := gb389) (o := .cells #[.int .i64 t383, .slice Ao13 t384.length co13] 40 (0, 0)) (pKq6 BK389) hg (Kd.R_ne HO386.out BK389.out zq35))
   replace HO395 := Aside0.mk (Kd.R_after (ok := (fun _ => True)) (pRq6 HO395) hg hat)
   replace HB := Aside0.mk (below_weaken zq14 HL.out hb)
   replace HI0 := Aside0.mk (IsS75.grown zq13 hg (IsS75.own_ne HI0.out HO386.out zq35))
   replace HK := Aside0.mk (KeepBut.trans zq10 (KeepBut.of_grown hg g) (Kd.R_base2 HO386.out))
   clear HO386
   clear ho hb hg hat
   obtain ⟨Ao21, co21, eo21⟩ := Kd.R_slice HO401.out
   (first | subst eo21 | (injection eo21 with f1_ f2_ f3_; have f4_ := f1_.symm; have f5_ := f3_.symm; clear f1_ f2_ f3_; subst f4_; subst f5_))
   refine hK.out _ _ ⟨(blk_cell BK389.out 0).trans rfl, (blk_cell BK389.out 1).trans rfl⟩ (fun hHeld => ?_)
   clear hK K
   refine zN 19 ?_
   refine zU 10 20 HT_ ?_
   refine last_ (i := 11) (N := none) #[true, true, true, true, true, true, true, true, true, true, true, true] rfl rfl (one_of HT_.out zq17) zq35 (fun K hK => ?_)
   have hs22 : w20.cell? ⟨gb389, 1, none⟩ = some (.slice Ao13 t384.length co13) := (blk_cell BK389.out 1).trans rfl
   have hfs22 := blk_frozen BK389.out 1
   have hns22_0 := NB382_389.out
   have hms22_0 := NB389_382.out
   refine skip_ (w1 := ?_) (by rfl) rfl ?_ ?_
   rotate_left
   ·go_simp
    rfl
   refine hK.out _ _ ?_
   clear hK K
   refine done_ (done_of HT_.out zq17) ?_
   have hcz23_0 : w20.cell? ⟨gb389, 0, none⟩ = some (.int .i64 t383) := (blk_cell BK389.out 0).trans rfl
   have hcz23_1 : w20.cell? ⟨gb389, 1, none⟩ = some (.slice Ao13 t384.length co13) := (blk_cell BK389.out 1).trans rfl
   have hfz23_0 := blk_frozen BK389.out 0
   have hfz23_1 := blk_frozen BK389.out 1
   have hnb24 := NB382_0.out
   have hnc24 := NB0_382.out
   have hcz25_0 : w20.cell? ⟨gb382, 0, none⟩ = some (.int .i64 0) := (blk_cell BK382.out 0).trans rfl
   have hcz25_1 : w20.cell? ⟨gb382, 1, none⟩ = some (.slice none 0 0) := (blk_cell BK382.out 1).trans rfl
   have hfz25_0 := blk_frozen BK382.out 0
   have hfz25_1 := blk_frozen BK382.out 1
   try go_wp2
   refine bodyPost_ret (results_cell_row rfl _ _ gb382 40 #[.int .i64 t383, .slice Ao21 y399.length co21] (0, 0) _ rfl zq40 Try.underlying40 rfl zq17) rfl ?_
   exact ⟨_, zq3, by (with_reducible repeat (first | apply Kd.R_alloc | apply Kd.R_drewN | apply Kd.R_drew)); exact Kd.R_mono (Kd.R_far (p := ⟨gb382, 1, none⟩) (Kd.R_far (p := ⟨gb382, 0, none⟩) (Kd.R_far (p := ⟨gb389, 1, none⟩) (Kd.R_types (Kd.R_types HO401.out BK389.out zq35) BK382.out zq35) (fun _ hk => hk.1.2) (.slice Ao21 y399.length co21)) (fun _ hk => hk.2) (.int .i64 t383)) (fun _ hk => hk.2) (.slice Ao21 y399.length co21)) (fun _ hk => trivial), zq13, zq14, zq10⟩
  ·rw [if_neg c6] at H
   exact absurd H zq41
 ·rw [if_neg c4] at H
  have c4b0 : (t390 == 0) = false := beq_eq_false_iff_ne.mpr c4
  have c4b1 : (t390 != 0) = true := bne_iff_ne.mpr c4
  by_cases c26 : t390 = 1
  ·rw [if_pos c26] at H
   have c26b0 : (t390 == 1) = true := beq_iff_eq.mpr c26
   have c26b1 : (t390 != 1) = false := bne_eq_false_iff_eq.mpr c26
   clear c26
   obtain ⟨y402, hy402⟩ : ∃ y_ : List Int, y_ = (([1, 2, 8, 9, (-1)] : List Int)) := ⟨_, rfl⟩
   replace H : ((spec_l1Cur_among.f s0_0 t391 t392 y402).bind fun bt405 => (some (bt405.1, t384, bt405.2.1, bt405.2.2))) = some (r1, r2, r3, r4) := by first | (rw [hy402]; with_reducible exact H) | (have H2_ := (Option.bind_some _ _).symm.trans H; rw [hy402]; with_reducible exact H2_) | (have H2_ := (Option.bind_some _ _).symm.trans H; with_reducible exact H2_) | with_reducible exact H | (rw [hy402]; exact H) | exact H
   have Ny402 := Aside0.mk hy402
   clear hy402
   replace H := Option.bind_eq_some_iff.mp H
   obtain ⟨⟨t405, t406, t407⟩, A270, H⟩ := H
   replace H : (some (t405, t384, t406, t407)) = some (r1, r2, r3, r4) := H
   have A27 := Aside0.mk A270
   clear A270
   simp only [Option.some.injEq, Prod.mk.injEq] at H
   obtain ⟨rfl, rfl, rfl, rfl⟩ := H
   go_enter Try.func92, Try.ntmps92
   go_wp2_with (first | ((with_reducible refine gate_dst (N := 2) rfl ?_); refine box_event ?hg (N := 2) ?hd (cs := #[.int .i64 0, .slice none 0 0]) (t := 40) ?hr ?_; (case hd => rfl); (case hg => rfl); (case hr => exact zq16); intro gb382 hg w28 hbox hb; have BK382 := Aside0.mk (hbox); have GW382 := Aside0.mk ((by rw [hg]; exact (keep_size (w := w) (g := g) (row := none) zq1) : w.heap.size ≤ gb382)); have GE382 := Aside0.mk ((Nat.le_trans HW0.out (by rw [hg]; exact (keep_size (w := w) (g := g) (row := none) zq1) : w.heap.size ≤ gb382) : w0.heap.size ≤ gb382)); have NB0_382 := Aside0.mk ((by rw [hg]; exact Nat.ne_of_lt (IsS75.lt (show IsS75 w0 _ g s0_0 s0_1 s0_2 from by repeat (first | (with_reducible first | exact HI0.out | apply IsS75.alloc | apply IsS75.drewN | apply IsS75.drew | apply IsS75.set_1 | apply IsS75.set_2) | exact HI0.out))) : g ≠ gb382)); have NB382_0 := Aside0.mk ((by rw [hg]; exact Nat.ne_of_gt (IsS75.lt (show IsS75 w0 _ g s0_0 s0_1 s0_2 from by repeat (first | (with_reducible first | exact HI0.out | apply IsS75.alloc | apply IsS75.drewN | apply IsS75.drew | apply IsS75.set_1 | apply IsS75.set_2) | exact HI0.out))) : gb382 ≠ g)); replace HK := Aside0.mk (KeepBut.trans zq1 (KeepBut.of_below hb g none) (.inl rfl)); replace HB := Aside0.mk (below_step zq4 hb); replace HI0 := Aside0.mk (IsS75.below zq6 hb); clear hb hbox hg) | ((with_reducible refine gate_callee (f := 118) rfl ?_); refine goesL_ (some 5) rfl rfl Try.func118 zq17 rfl #[.pointer (some ⟨g, 0, none⟩), .int .i64 6, .int .i64 12] rfl zq0 ?_; (with_reducible refine (spec_l1Cur_sureLadder.calls k g s0_0 s0_1 s0_2 6 12 t383 t384 t387 t388 w0 _ ?side1 ?side2 A2.out).mono ?_); (case side1 => exact zq19); (case side2 => exact zq20); rintro e w29 ⟨v385, rfl, ho0, hi, hb, hk⟩; refine ⟨_, rfl, ?_⟩; have HO386 := Aside0.mk (Kd.R_lower ho0 (keep_size (w := w) (g := g) (row := none) zq11)); replace BK382 := Aside0.mk (KeepBut.blk hk (g' := gb382) (o := .cells #[.int .i64 0, .slice none 0 0] 40 (0, 0)) (pKq6 BK382) NB382_0.out zq41); replace HK := Aside0.mk (KeepBut.trans zq11 hk (.inl rfl)); replace HB := Aside0.mk (hb); replace HI0 := Aside0.mk (hi); (try clear hb); (try clear hk); (try clear hi); (try clear ho0)) | ((with_reducible refine gate_dst (N := 3) rfl ?_); refine box_event ?hg (N := 3) ?hd (cs := #[.int .i64 0, .slice none 0 0]) (t := 40) ?hr ?_; (case hd => rfl); (case hg => rfl); (case hr => exact zq16); intro gb389 hg w30 hbox hb; have BK389 := Aside0.mk (hbox); have GW389 := Aside0.mk ((by rw [hg]; exact (keep_size (w := w) (g := g) (row := none) zq11) : w.heap.size ≤ gb389)); have GE389 := Aside0.mk ((Nat.le_trans HW0.out (by rw [hg]; exact (keep_size (w := w) (g := g) (row := none) zq11) : w.heap.size ≤ gb389) : w0.heap.size ≤ gb389)); have NB382_389 := Aside0.mk ((by rw [hg]; exact Nat.ne_of_lt (blk_lt (pKq6 BK382)) : gb382 ≠ gb389)); have NB389_382 := Aside0.mk ((by rw [hg]; exact Nat.ne_of_gt (blk_lt (pKq6 BK382)) : gb389 ≠ gb382)); have NB0_389 := Aside0.mk ((by rw [hg]; exact Nat.ne_of_lt (IsS75.lt (show IsS75 w0 _ g s0_0 t387 t388 from by repeat (first | (with_reducible first | exact HI0.out | apply IsS75.alloc | apply IsS75.drewN | apply IsS75.drew | apply IsS75.set_1 | apply IsS75.set_2 | refine IsS75.far ?_ NB0_382.out _) | exact HI0.out))) : g ≠ gb389)); have NB389_0 := Aside0.mk ((by rw [hg]; exact Nat.ne_of_gt (IsS75.lt (show IsS75 w0 _ g s0_0 t387 t388 from by repeat (first | (with_reducible first | exact HI0.out | apply IsS75.alloc | apply IsS75.drewN | apply IsS75.drew | apply IsS75.set_1 | apply IsS75.set_2 | refine IsS75.far ?_ NB0_382.out _) | exact HI0.out))) : gb389 ≠ g)); replace HO386 := Aside0.mk (Kd.R_below (pRq6 HO386) hb); replace BK382 := Aside0.mk (blk_below (pKq6 BK382) hb); replace HK := Aside0.mk (KeepBut.trans zq11 (KeepBut.of_below hb g none) (.inl rfl)); replace HB := Aside0.mk (below_step zq20 hb); replace HI0 := Aside0.mk (IsS75.below zq19 hb); clear hb hbox hg; have hnb31 := NB389_382.out; have hnc31 := NB382_389.out; have hnb32 := NB389_0.out; have hnc32 := NB0_389.out; have hcz33_0 : w30.cell? ⟨gb389, 0, none⟩ = some (.int .i64 0) := (blk_cell BK389.out 0).trans rfl; have hcz33_1 : w30.cell? ⟨gb389, 1, none⟩ = some (.slice none 0 0) := (blk_cell BK389.out 1).trans rfl; have hfz33_0 := blk_frozen BK389.out 0; have hfz33_1 := blk_frozen BK389.out 1; obtain ⟨Ao34, co34, eo34⟩ := Kd.R_slice HO386.out; subst eo34) | ((with_reducible refine gate_callee (f := 91) rfl ?_); refine goesL_ (some 7) rfl rfl Try.func91 zq17 rfl #[.pointer (some ⟨g, 0, none⟩), .int .i64 16] rfl zq0 ?_; (with_reducible refine (spec_l1Cur_pick.calls g s0_0 t387 t388 16 t390 t391 t392 w0 _ ?side1 ?side2 A3.out).mono ?_); (case side1 => exact zq13); (case side2 => exact zq14); rintro e w35 ⟨rfl, hi, hb, hk⟩; refine ⟨_, rfl, ?_⟩; replace BK382 := Aside0.mk (KeepBut.blk hk (g' := gb382) (o := .cells #[.int .i64 0, .slice none 0 0] 40 (0, 0)) zq27 NB382_0.out zq41); replace HO386 := Aside0.mk (Kd.R_mono (Kd.R_keep (IsS75.apart (show IsS75 w0 _ g s0_0 t387 t388 from by repeat (first | (with_reducible first | exact HI0.out | apply IsS75.alloc | apply IsS75.drewN | apply IsS75.drew | apply IsS75.set_1 | apply IsS75.set_2 | refine IsS75.far ?_ NB0_382.out _ | refine IsS75.far ?_ NB0_389.out _) | exact HI0.out)) (by (with_reducible repeat (first | apply Kd.R_alloc | apply Kd.R_drewN | apply Kd.R_drew)); exact (Kd.R_mono (Kd.R_far (p := ⟨gb389, 1, none⟩) (Kd.R_far (p := ⟨gb389, 0, none⟩) (Kd.R_types HO386.out BK389.out zq35) (fun _ hk => hk.2) (.int .i64 t383)) (fun _ hk => hk.2) (.slice Ao34 t384.length co34)) (fun _ h_ => h_.1))) zq35) hk (fun _ h => h.2)) (fun _ h => h.1)); replace BK389 := Aside0.mk (KeepBut.blk hk (g' := gb389) (o := .cells #[.int .i64 t383, .slice Ao34 t384.length co34] 40 (0, 0)) zq21 NB389_0.out zq41); replace HK := Aside0.mk (KeepBut.trans zq10 hk (.inl rfl)); replace HB := Aside0.mk (hb); replace HI0 := Aside0.mk (hi); (try clear hb); (try clear hk); (try clear hi)) | ((with_reducible refine gate_dst (N := 24) rfl ?_); refine Kd.R_lit (Kd.int .i64) _ 3 ?hg (N := 24) ?hd (xs := ([1, 2, 8, 9, (-1)] : List Int)) (inner := [.int .i64 1, .int .i64 2, .int .i64 8, .int .i64 9, .int .i64 (-1)]) (ok := fun _ => True) (okp := fun _ => True) ?hr ?hp (fun _ hk => hk) trivial (Below.refl _ _) (Nat.le_refl _) zq41 ?_; (case hd => rfl); (case hg => rfl); (case hr => exact zq16); (case hp => exact (Reps.one (show Kd.M (Kd.int .i64) _ _ _ 1 [.int .i64 1] from rfl) (Reps.one (show Kd.M (Kd.int .i64) _ _ _ 2 [.int .i64 2] from rfl) (Reps.one (show Kd.M (Kd.int .i64) _ _ _ 8 [.int .i64 8] from rfl) (Reps.one (show Kd.M (Kd.int .i64) _ _ _ 9 [.int .i64 9] from rfl) (Reps.one (show Kd.M (Kd.int .i64) _ _ _ (-1) [.int .i64 (-1)] from rfl) (Reps.none _ _))))))); intro v403 w36 ho37 hb hg_ hnew_; clear hg_ hnew_; (first | rw [← Ny402.out] at ho37 | (simp only [Int.reduceToNat] at ho37; rw [← Ny402.out] at ho37)); have HO404 := Aside0.mk (Kd.R_lower (Kd.R_new' ho37 (Kd.R_lt (pRq6 HO386))) (keep_size (w := w) (g := g) (row := none) zq10)); replace HO386 := Aside0.mk (Kd.R_elder' (pRq6 HO386) (Kd.R_base ho37) hb); replace BK382 := Aside0.mk (blk_below (pKq6 BK382) hb); replace BK389 := Aside0.mk (blk_below (pKq6 BK389) hb); replace HK := Aside0.mk (KeepBut.trans zq10 (KeepBut.of_below hb g none) (.inl rfl)); replace HB := Aside0.mk (below_step zq14 hb); replace HI0 := Aside0.mk (IsS75.below zq13 hb); clear hb ho37; obtain ⟨Ao38, co38, eo38⟩ := Kd.R_slice HO404.out; subst eo38) | ((with_reducible refine gate_callee (f := 112) rfl ?_); refine goesL_ (some 25) rfl rfl Try.func112 zq17 rfl #[.pointer (some ⟨g, 0, none⟩), .slice Ao38 y402.length co38] rfl zq0 ?_; (with_reducible refine (spec_l1Cur_among.calls g s0_0 t391 t392 _ _ y402 t405 t406 t407 w0 _ ?side1 ?side2 ?side3 ?side4 ?side5 A27.out).mono ?_); (case side1 => exact zq13); (case side2 => exact zq14); (case side3 => repeat (first | exact (Kd.R_reads' HO404.out).2.2 | (with_reducible refine Kd.C_alloc ?_ _) | (with_reducible refine Kd.C_drewN ?_ _) | (with_reducible refine Kd.C_drew ?_))); (case side4 => exact (Kd.R_reads' HO404.out).2.1); (case side5 => exact far_slice (IsS75.own_ne HI0.out HO404.out zq35)); rintro e w39 ⟨rfl, hi, hb, hk⟩; refine ⟨_, rfl, ?_⟩; replace BK382 := Aside0.mk (KeepBut.blk hk (g' := gb382) (o := .cells #[.int .i64 0, .slice none 0 0] 40 (0, 0)) (pKq6 BK382) NB382_0.out zq41); replace HO386 := Aside0.mk (Kd.R_mono (Kd.R_keep (IsS75.apart (show IsS75 w0 _ g s0_0 t391 t392 from by repeat (first | (with_reducible first | exact HI0.out | apply IsS75.alloc | apply IsS75.drewN | apply IsS75.drew | apply IsS75.set_1 | apply IsS75.set_2 | refine IsS75.far ?_ NB0_382.out _ | refine IsS75.far ?_ NB0_389.out _) | exact HI0.out)) (pRq6 HO386) zq35) hk (fun _ h => h.2)) (fun _ h => h.1)); replace BK389 := Aside0.mk (KeepBut.blk hk (g' := gb389) (o := .cells #[.int .i64 t383, .slice Ao34 t384.length co34] 40 (0, 0)) (pKq6 BK389) NB389_0.out zq41); replace HO404 := Aside0.mk (Kd.R_mono (Kd.R_keep (IsS75.apart (show IsS75 w0 _ g s0_0 t391 t392 from by repeat (first | (with_reducible first | exact HI0.out | apply IsS75.alloc | apply IsS75.drewN | apply IsS75.drew | apply IsS75.set_1 | apply IsS75.set_2 | refine IsS75.far ?_ NB0_382.out _ | refine IsS75.far ?_ NB0_389.out _) | exact HI0.out)) (pRq6 HO404) zq35) hk (fun _ h => h.2)) (fun _ h => h.1)); replace HK := Aside0.mk (KeepBut.trans zq10 hk (.inl rfl)); replace HB := Aside0.mk (hb); replace HI0 := Aside0.mk (hi); (try clear hb); (try clear hk); (try clear hi); have hcz40_0 : w39.cell? ⟨gb389, 0, none⟩ = some (.int .i64 t383) := (blk_cell BK389.out 0).trans rfl; have hcz40_1 : w39.cell? ⟨gb389, 1, none⟩ = some (.slice Ao34 t384.length co34) := (blk_cell BK389.out 1).trans rfl; have hfz40_0 := blk_frozen BK389.out 0; have hfz40_1 := blk_frozen BK389.out 1; have hnb41 := NB382_0.out; have hnc41 := NB0_382.out; have hcz42_0 : w39.cell? ⟨gb382, 0, none⟩ = some (.int .i64 0) := (blk_cell BK382.out 0).trans rfl; have hcz42_1 : w39.cell? ⟨gb382, 1, none⟩ = some (.slice none 0 0) := (blk_cell BK382.out 1).trans rfl; have hfz42_0 := blk_frozen BK382.out 0; have hfz42_1 := blk_frozen BK382.out 1))
   refine bodyPost_ret (results_cell_row rfl _ _ gb382 40 #[.int .i64 t405, .slice Ao34 t384.length co34] (0, 0) _ rfl (by (with_reducible repeat (first | refine blk_drewN ?_ _ | refine blk_drew ?_ | refine blk_alloc ?_ _)); refine blk_put (cs := #[.int .i64 t405, .slice none 0 0]) ?_ 1 _ rfl; (with_reducible repeat (first | refine blk_drewN ?_ _ | refine blk_drew ?_ | refine blk_alloc ?_ _)); refine blk_put (cs := #[.int .i64 0, .slice none 0 0]) ?_ 0 _ rfl; (with_reducible repeat (first | refine blk_drewN ?_ _ | refine blk_drew ?_ | refine blk_alloc ?_ _)); refine blk_far ?_ NB382_389.out _; (with_reducible repeat (first | refine blk_drewN ?_ _ | refine blk_drew ?_ | refine blk_alloc ?_ _)); exact BK382.out) Try.underlying40 rfl zq17) rfl ?_
   exact ⟨_, zq3, by (with_reducible repeat (first | apply Kd.R_alloc | apply Kd.R_drewN | apply Kd.R_drew)); exact Kd.R_mono (Kd.R_far (p := ⟨gb382, 1, none⟩) (Kd.R_far (p := ⟨gb382, 0, none⟩) (Kd.R_far (p := ⟨gb389, 0, none⟩) (Kd.R_types (Kd.R_types HO386.out BK389.out zq35) BK382.out zq35) (fun _ hk => hk.1.2) (.int .i64 t405)) (fun _ hk => hk.2) (.int .i64 t405)) (fun _ hk => hk.2) (.slice Ao34 t384.length co34)) (fun _ hk => trivial), zq13, zq14, zq10⟩
  ·rw [if_neg c26] at H
   have c26b0 : (t390 == 1) = false := beq_eq_false_iff_ne.mpr c26
   have c26b1 : (t390 != 1) = true := bne_iff_ne.mpr c26
   by_cases c43 : t390 = 2
   ·rw [if_pos c43] at H
    have c43b0 : (t390 == 2) = true := beq_iff_eq.mpr c43
    have c43b1 : (t390 != 2) = false := bne_eq_false_iff_eq.mpr c43
    clear c43
    replace H := Option.bind_eq_some_iff.mp H
    obtain ⟨⟨t408, t409, t410⟩, A440, H⟩ := H
    replace H : (if 0 ≤ (wrap64 (60 + t408)) then (if (wrap64 (60 + t408) : Int).toNat ≤ 35184372088832 then (some (t383, (List.replicate (wrap64 (60 + t408) : Int).toNat 0), t409, t410)) else (none)) else (none)) = some (r1, r2, r3, r4) := H
    have A44 := Aside0.mk A440
    clear A440
    obtain ⟨ji45, hji45⟩ : ∃ j_ : Int, (wrap64 (60 + t408)) = j_ := ⟨_, rfl⟩
    replace H : (if 0 ≤ (ji45) then (if (ji45 : Int).toNat ≤ 35184372088832 then (some (t383, (List.replicate (ji45 : Int).toNat 0), t409, t410)) else (none)) else (none)) = some (r1, r2, r3, r4) := by first | (rw [hji45] at H; exact H) | (simp only [hji45] at H ⊢; exact H)
    (try rw [hji45] at A2)
    (try rw [hji45] at A3)
    (try rw [hji45] at A44)
    have hji45w : (IntKind.i64.wrap (60 + t408)) = ji45 := (i64_w _).trans hji45
    by_cases c46 : 0 ≤ (ji45)
    ·rw [if_pos c46] at H
     have c46b0 := eq_true c46
     have c46b1 : decide (0 ≤ (ji45)) = true := decide_eq_true c46
     clear c46
     by_cases c47 : (ji45 : Int).toNat ≤ 35184372088832
     ·rw [if_pos c47] at H
      have c47b0 := eq_true c47
      have c47b1 : decide ((ji45 : Int).toNat ≤ 35184372088832) = true := decide_eq_true c47
      clear c47
      obtain ⟨y411, hy411⟩ : ∃ y_ : List Int, y_ = (List.replicate (ji45 : Int).toNat 0) := ⟨_, rfl⟩
      replace H : (some (t383, y411, t409, t410)) = some (r1, r2, r3, r4) := by first | (rw [hy411]; with_reducible exact H) | (have H2_ := (Option.bind_some _ _).symm.trans H; rw [hy411]; with_reducible exact H2_) | (have H2_ := (Option.bind_some _ _).symm.trans H; with_reducible exact H2_) | with_reducible exact H | (rw [hy411]; exact H) | exact H
      have Ny411 := Aside0.mk hy411
      clear hy411
      simp only [Option.some.injEq, Prod.mk.injEq] at H
      obtain ⟨rfl, rfl, rfl, rfl⟩ := H
      go_enter Try.func92, Try.ntmps92
      go_wp2_with (first | ((with_reducible refine gate_dst (N := 2) rfl ?_); refine box_event ?hg (N := 2) ?hd (cs := #[.int .i64 0, .slice none 0 0]) (t := 40) ?hr ?_; (case hd => rfl); (case hg => rfl); (case hr => exact zq16); intro gb382 hg w48 hbox hb; have BK382 := Aside0.mk (hbox); have GW382 := Aside0.mk ((by rw [hg]; exact (keep_size (w := w) (g := g) (row := none) zq1) : w.heap.size ≤ gb382)); have GE382 := Aside0.mk ((Nat.le_trans HW0.out (by rw [hg]; exact (keep_size (w := w) (g := g) (row := none) zq1) : w.heap.size ≤ gb382) : w0.heap.size ≤ gb382)); have NB0_382 := Aside0.mk ((by rw [hg]; exact Nat.ne_of_lt (IsS75.lt (show IsS75 w0 _ g s0_0 s0_1 s0_2 from by repeat (first | (with_reducible first | exact HI0.out | apply IsS75.alloc | apply IsS75.drewN | apply IsS75.drew | apply IsS75.set_1 | apply IsS75.set_2) | exact HI0.out))) : g ≠ gb382)); have NB382_0 := Aside0.mk ((by rw [hg]; exact Nat.ne_of_gt (IsS75.lt (show IsS75 w0 _ g s0_0 s0_1 s0_2 from by repeat (first | (with_reducible first | exact HI0.out | apply IsS75.alloc | apply IsS75.drewN | apply IsS75.drew | apply IsS75.set_1 | apply IsS75.set_2) | exact HI0.out))) : gb382 ≠ g)); replace HK := Aside0.mk (KeepBut.trans zq1 (KeepBut.of_below hb g none) (.inl rfl)); replace HB := Aside0.mk (below_step zq4 hb); replace HI0 := Aside0.mk (IsS75.below zq6 hb); clear hb hbox hg) | ((with_reducible refine gate_callee (f := 118) rfl ?_); refine goesL_ (some 5) rfl rfl Try.func118 zq17 rfl #[.pointer (some ⟨g, 0, none⟩), .int .i64 6, .int .i64 12] rfl zq0 ?_; (with_reducible refine (spec_l1Cur_sureLadder.calls k g s0_0 s0_1 s0_2 6 12 t383 t384 t387 t388 w0 _ ?side1 ?side2 A2.out).mono ?_); (case side1 => exact zq19); (case side2 => exact zq20); rintro e w49 ⟨v385, rfl, ho0, hi, hb, hk⟩; refine ⟨_, rfl, ?_⟩; have HO386 := Aside0.mk (Kd.R_lower ho0 (keep_size (w := w) (g := g) (row := none) zq11)); replace BK382 := Aside0.mk (KeepBut.blk hk (g' := gb382) (o := .cells #[.int .i64 0, .slice none 0 0] 40 (0, 0)) (pKq6 BK382) NB382_0.out zq41); replace HK := Aside0.mk (KeepBut.trans zq11 hk (.inl rfl)); replace HB := Aside0.mk (hb); replace HI0 := Aside0.mk (hi); (try clear hb); (try clear hk); (try clear hi); (try clear ho0)) | ((with_reducible refine gate_dst (N := 3) rfl ?_); refine box_event ?hg (N := 3) ?hd (cs := #[.int .i64 0, .slice none 0 0]) (t := 40) ?hr ?_; (case hd => rfl); (case hg => rfl); (case hr => exact zq16); intro gb389 hg w50 hbox hb; have BK389 := Aside0.mk (hbox); have GW389 := Aside0.mk ((by rw [hg]; exact (keep_size (w := w) (g := g) (row := none) zq11) : w.heap.size ≤ gb389)); have GE389 := Aside0.mk ((Nat.le_trans HW0.out (by rw [hg]; exact (keep_size (w := w) (g := g) (row := none) zq11) : w.heap.size ≤ gb389) : w0.heap.size ≤ gb389)); have NB382_389 := Aside0.mk ((by rw [hg]; exact Nat.ne_of_lt (blk_lt (pKq6 BK382)) : gb382 ≠ gb389)); have NB389_382 := Aside0.mk ((by rw [hg]; exact Nat.ne_of_gt (blk_lt (pKq6 BK382)) : gb389 ≠ gb382)); have NB0_389 := Aside0.mk ((by rw [hg]; exact Nat.ne_of_lt (IsS75.lt (show IsS75 w0 _ g s0_0 t387 t388 from by repeat (first | (with_reducible first | exact HI0.out | apply IsS75.alloc | apply IsS75.drewN | apply IsS75.drew | apply IsS75.set_1 | apply IsS75.set_2 | refine IsS75.far ?_ NB0_382.out _) | exact HI0.out))) : g ≠ gb389)); have NB389_0 := Aside0.mk ((by rw [hg]; exact Nat.ne_of_gt (IsS75.lt (show IsS75 w0 _ g s0_0 t387 t388 from by repeat (first | (with_reducible first | exact HI0.out | apply IsS75.alloc | apply IsS75.drewN | apply IsS75.drew | apply IsS75.set_1 | apply IsS75.set_2 | refine IsS75.far ?_ NB0_382.out _) | exact HI0.out))) : gb389 ≠ g)); replace HO386 := Aside0.mk (Kd.R_below (pRq6 HO386) hb); replace BK382 := Aside0.mk (blk_below (pKq6 BK382) hb); replace HK := Aside0.mk (KeepBut.trans zq11 (KeepBut.of_below hb g none) (.inl rfl)); replace HB := Aside0.mk (below_step zq20 hb); replace HI0 := Aside0.mk (IsS75.below zq19 hb); clear hb hbox hg; have hnb51 := NB389_382.out; have hnc51 := NB382_389.out; have hnb52 := NB389_0.out; have hnc52 := NB0_389.out; have hcz53_0 : w50.cell? ⟨gb389, 0, none⟩ = some (.int .i64 0) := (blk_cell BK389.out 0).trans rfl; have hcz53_1 : w50.cell? ⟨gb389, 1, none⟩ = some (.slice none 0 0) := (blk_cell BK389.out 1).trans rfl; have hfz53_0 := blk_frozen BK389.out 0; have hfz53_1 := blk_frozen BK389.out 1; obtain ⟨Ao54, co54, eo54⟩ := Kd.R_slice HO386.out; subst eo54) | ((with_reducible refine gate_callee (f := 91) rfl ?_); refine goesL_ (some 7) rfl rfl Try.func91 zq17 rfl #[.pointer (some ⟨g, 0, none⟩), .int .i64 16] rfl zq0 ?_; (with_reducible refine (spec_l1Cur_pick.calls g s0_0 t387 t388 16 t390 t391 t392 w0 _ ?side1 ?side2 A3.out).mono ?_); (case side1 => exact zq13); (case side2 => exact zq14); rintro e w55 ⟨rfl, hi, hb, hk⟩; refine ⟨_, rfl, ?_⟩; replace BK382 := Aside0.mk (KeepBut.blk hk (g' := gb382) (o := .cells #[.int .i64 0, .slice none 0 0] 40 (0, 0)) zq27 NB382_0.out zq41); replace HO386 := Aside0.mk (Kd.R_mono (Kd.R_keep (IsS75.apart (show IsS75 w0 _ g s0_0 t387 t388 from by repeat (first | (with_reducible first | exact HI0.out | apply IsS75.alloc | apply IsS75.drewN | apply IsS75.drew | apply IsS75.set_1 | apply IsS75.set_2 | refine IsS75.far ?_ NB0_382.out _ | refine IsS75.far ?_ NB0_389.out _) | exact HI0.out)) (by (with_reducible repeat (first | apply Kd.R_alloc | apply Kd.R_drewN | apply Kd.R_drew)); exact (Kd.R_mono (Kd.R_far (p := ⟨gb389, 1, none⟩) (Kd.R_far (p := ⟨gb389, 0, none⟩) (Kd.R_types HO386.out BK389.out zq35) (fun _ hk => hk.2) (.int .i64 t383)) (fun _ hk => hk.2) (.slice Ao54 t384.length co54)) (fun _ h_ => h_.1))) zq35) hk (fun _ h => h.2)) (fun _ h => h.1)); replace BK389 := Aside0.mk (KeepBut.blk hk (g' := gb389) (o := .cells #[.int .i64 t383, .slice Ao54 t384.length co54] 40 (0, 0)) zq21 NB389_0.out zq41); replace HK := Aside0.mk (KeepBut.trans zq10 hk (.inl rfl)); replace HB := Aside0.mk (hb); replace HI0 := Aside0.mk (hi); (try clear hb); (try clear hk); (try clear hi)) | ((with_reducible refine gate_callee (f := 91) rfl ?_); refine goesL_ (some 30) rfl rfl Try.func91 zq17 rfl #[.pointer (some ⟨g, 0, none⟩), .int .i64 2] rfl zq0 ?_; (with_reducible refine (spec_l1Cur_pick.calls g s0_0 t391 t392 2 t408 t409 t410 w0 _ ?side1 ?side2 A44.out).mono ?_); (case side1 => exact zq13); (case side2 => exact zq14); rintro e w56 ⟨rfl, hi, hb, hk⟩; refine ⟨_, rfl, ?_⟩; replace BK382 := Aside0.mk (KeepBut.blk hk (g' := gb382) (o := .cells #[.int .i64 0, .slice none 0 0] 40 (0, 0)) (pKq6 BK382) NB382_0.out zq41); replace HO386 := Aside0.mk (Kd.R_mono (Kd.R_keep (IsS75.apart (show IsS75 w0 _ g s0_0 t391 t392 from by repeat (first | (with_reducible first | exact HI0.out | apply IsS75.alloc | apply IsS75.drewN | apply IsS75.drew | apply IsS75.set_1 | apply IsS75.set_2 | refine IsS75.far ?_ NB0_382.out _ | refine IsS75.far ?_ NB0_389.out _) | exact HI0.out)) (pRq6 HO386) zq35) hk (fun _ h => h.2)) (fun _ h => h.1)); replace BK389 := Aside0.mk (KeepBut.blk hk (g' := gb389) (o := .cells #[.int .i64 t383, .slice Ao54 t384.length co54] 40 (0, 0)) (pKq6 BK389) NB389_0.out zq41); replace HK := Aside0.mk (KeepBut.trans zq10 hk (.inl rfl)); replace HB := Aside0.mk (hb); replace HI0 := Aside0.mk (hi); (try clear hb); (try clear hk); (try clear hi)) | ((with_reducible refine gate_dst (N := 32) rfl ?_); refine Kd.R_make (Kd.int .i64) _ 3 rfl (N := 32) rfl 24 _ _ rfl ji45 rfl rfl Try.underlying24 (.int .i64 0) 8 info3 rfl zq35 zq60 0 (ok := fun _ => True) (okp := fun _ => True) rfl (fun _ hk => hk) trivial (of_decide_eq_true zq2) (Nat.le_trans (Nat.mul_le_mul_right _ (of_decide_eq_true zq2 : ji45.toNat ≤ 35184372088832)) zq60) (Below.refl _ _) (Nat.le_refl _) ?_; intro v412 w57 ho58 hb hg_ hnew_; clear hg_ hnew_; (first | rw [← Ny411.out] at ho58 | (simp only [Int.reduceToNat] at ho58; rw [← Ny411.out] at ho58)); have HO413 := Aside0.mk (Kd.R_lower (Kd.R_new' ho58 (Kd.R_lt (pRq6 HO386))) (keep_size (w := w) (g := g) (row := none) zq10)); replace HO386 := Aside0.mk (Kd.R_elder' (pRq6 HO386) (Kd.R_base ho58) hb); replace BK382 := Aside0.mk (blk_below (pKq6 BK382) hb); replace BK389 := Aside0.mk (blk_below (pKq6 BK389) hb); replace HK := Aside0.mk (KeepBut.trans zq10 (KeepBut.of_below hb g none) (.inl rfl)); replace HB := Aside0.mk (below_step zq14 hb); replace HI0 := Aside0.mk (IsS75.below zq13 hb); clear hb ho58; obtain ⟨Ao59, co59, eo59⟩ := Kd.R_slice HO413.out; subst eo59; have hcz60_0 : w57.cell? ⟨gb389, 0, none⟩ = some (.int .i64 t383) := (blk_cell BK389.out 0).trans rfl; have hcz60_1 : w57.cell? ⟨gb389, 1, none⟩ = some (.slice Ao54 t384.length co54) := (blk_cell BK389.out 1).trans rfl; have hfz60_0 := blk_frozen BK389.out 0; have hfz60_1 := blk_frozen BK389.out 1; have hnb61 := NB382_0.out; have hnc61 := NB0_382.out; have hcz62_0 : w57.cell? ⟨gb382, 0, none⟩ = some (.int .i64 0) := (blk_cell BK382.out 0).trans rfl; have hcz62_1 : w57.cell? ⟨gb382, 1, none⟩ = some (.slice none 0 0) := (blk_cell BK382.out 1).trans rfl; have hfz62_0 := blk_frozen BK382.out 0; have hfz62_1 := blk_frozen BK382.out 1))
      refine bodyPost_ret (results_cell_row rfl _ _ gb382 40 #[.int .i64 t383, .slice Ao59 y411.length co59] (0, 0) _ rfl zq40 Try.underlying40 rfl zq17) rfl ?_
      exact ⟨_, by first | rfl | (simp [errW_none, errW_some] <;> rfl) | (simp only [← hji45]; first | rfl | (simp [errW_none, errW_some] <;> rfl)) | (simp [*, errW_none, errW_some] <;> rfl), by (with_reducible repeat (first | apply Kd.R_alloc | apply Kd.R_drewN | apply Kd.R_drew)); exact Kd.R_mono (Kd.R_far (p := ⟨gb382, 1, none⟩) (Kd.R_far (p := ⟨gb382, 0, none⟩) (Kd.R_far (p := ⟨gb389, 1, none⟩) (Kd.R_types (Kd.R_types HO413.out BK389.out zq35) BK382.out zq35) (fun _ hk => hk.1.2) (.slice Ao59 y411.length co59)) (fun _ hk => hk.2) (.int .i64 t383)) (fun _ hk => hk.2) (.slice Ao59 y411.length co59)) (fun _ hk => trivial), zq13, zq14, zq10⟩
     ·rw [if_neg c47] at H
      exact absurd H zq41
    ·rw [if_neg c46] at H
     exact absurd H zq41
   ·rw [if_neg c43] at H
    have c43b0 : (t390 == 2) = false := beq_eq_false_iff_ne.mpr c43
    have c43b1 : (t390 != 2) = true := bne_iff_ne.mpr c43
    simp only [Option.some.injEq, Prod.mk.injEq] at H
    obtain ⟨rfl, rfl, rfl, rfl⟩ := H
    go_enter Try.func92, Try.ntmps92
    go_wp2_with (first | ((with_reducible refine gate_dst (N := 2) rfl ?_); refine box_event ?hg (N := 2) ?hd (cs := #[.int .i64 0, .slice none 0 0]) (t := 40) ?hr ?_; (case hd => rfl); (case hg => rfl); (case hr => exact zq16); intro gb382 hg w63 hbox hb; have BK382 := Aside0.mk (hbox); have GW382 := Aside0.mk ((by rw [hg]; exact (keep_size (w := w) (g := g) (row := none) zq1) : w.heap.size ≤ gb382)); have GE382 := Aside0.mk ((Nat.le_trans HW0.out (by rw [hg]; exact (keep_size (w := w) (g := g) (row := none) zq1) : w.heap.size ≤ gb382) : w0.heap.size ≤ gb382)); have NB0_382 := Aside0.mk ((by rw [hg]; exact Nat.ne_of_lt (IsS75.lt (show IsS75 w0 _ g s0_0 s0_1 s0_2 from by repeat (first | (with_reducible first | exact HI0.out | apply IsS75.alloc | apply IsS75.drewN | apply IsS75.drew | apply IsS75.set_1 | apply IsS75.set_2) | exact HI0.out))) : g ≠ gb382)); have NB382_0 := Aside0.mk ((by rw [hg]; exact Nat.ne_of_gt (IsS75.lt (show IsS75 w0 _ g s0_0 s0_1 s0_2 from by repeat (first | (with_reducible first | exact HI0.out | apply IsS75.alloc | apply IsS75.drewN | apply IsS75.drew | apply IsS75.set_1 | apply IsS75.set_2) | exact HI0.out))) : gb382 ≠ g)); replace HK := Aside0.mk (KeepBut.trans zq1 (KeepBut.of_below hb g none) (.inl rfl)); replace HB := Aside0.mk (below_step zq4 hb); replace HI0 := Aside0.mk (IsS75.below zq6 hb); clear hb hbox hg) | ((with_reducible refine gate_callee (f := 118) rfl ?_); refine goesL_ (some 5) rfl rfl Try.func118 zq17 rfl #[.pointer (some ⟨g, 0, none⟩), .int .i64 6, .int .i64 12] rfl zq0 ?_; (with_reducible refine (spec_l1Cur_sureLadder.calls k g s0_0 s0_1 s0_2 6 12 t383 t384 t387 t388 w0 _ ?side1 ?side2 A2.out).mono ?_); (case side1 => exact zq19); (case side2 => exact zq20); rintro e w64 ⟨v385, rfl, ho0, hi, hb, hk⟩; refine ⟨_, rfl, ?_⟩; have HO386 := Aside0.mk (Kd.R_lower ho0 (keep_size (w := w) (g := g) (row := none) zq11)); replace BK382 := Aside0.mk (KeepBut.blk hk (g' := gb382) (o := .cells #[.int .i64 0, .slice none 0 0] 40 (0, 0)) (pKq6 BK382) NB382_0.out zq41); replace HK := Aside0.mk (KeepBut.trans zq11 hk (.inl rfl)); replace HB := Aside0.mk (hb); replace HI0 := Aside0.mk (hi); (try clear hb); (try clear hk); (try clear hi); (try clear ho0)) | ((with_reducible refine gate_dst (N := 3) rfl ?_); refine box_event ?hg (N := 3) ?hd (cs := #[.int .i64 0, .slice none 0 0]) (t := 40) ?hr ?_; (case hd => rfl); (case hg => rfl); (case hr => exact zq16); intro gb389 hg w65 hbox hb; have BK389 := Aside0.mk (hbox); have GW389 := Aside0.mk ((by rw [hg]; exact (keep_size (w := w) (g := g) (row := none) zq11) : w.heap.size ≤ gb389)); have GE389 := Aside0.mk ((Nat.le_trans HW0.out (by rw [hg]; exact (keep_size (w := w) (g := g) (row := none) zq11) : w.heap.size ≤ gb389) : w0.heap.size ≤ gb389)); have NB382_389 := Aside0.mk ((by rw [hg]; exact Nat.ne_of_lt (blk_lt (pKq6 BK382)) : gb382 ≠ gb389)); have NB389_382 := Aside0.mk ((by rw [hg]; exact Nat.ne_of_gt (blk_lt (pKq6 BK382)) : gb389 ≠ gb382)); have NB0_389 := Aside0.mk ((by rw [hg]; exact Nat.ne_of_lt (IsS75.lt (show IsS75 w0 _ g s0_0 t387 t388 from by repeat (first | (with_reducible first | exact HI0.out | apply IsS75.alloc | apply IsS75.drewN | apply IsS75.drew | apply IsS75.set_1 | apply IsS75.set_2 | refine IsS75.far ?_ NB0_382.out _) | exact HI0.out))) : g ≠ gb389)); have NB389_0 := Aside0.mk ((by rw [hg]; exact Nat.ne_of_gt (IsS75.lt (show IsS75 w0 _ g s0_0 t387 t388 from by repeat (first | (with_reducible first | exact HI0.out | apply IsS75.alloc | apply IsS75.drewN | apply IsS75.drew | apply IsS75.set_1 | apply IsS75.set_2 | refine IsS75.far ?_ NB0_382.out _) | exact HI0.out))) : gb389 ≠ g)); replace HO386 := Aside0.mk (Kd.R_below (pRq6 HO386) hb); replace BK382 := Aside0.mk (blk_below (pKq6 BK382) hb); replace HK := Aside0.mk (KeepBut.trans zq11 (KeepBut.of_below hb g none) (.inl rfl)); replace HB := Aside0.mk (below_step zq20 hb); replace HI0 := Aside0.mk (IsS75.below zq19 hb); clear hb hbox hg; have hnb66 := NB389_382.out; have hnc66 := NB382_389.out; have hnb67 := NB389_0.out; have hnc67 := NB0_389.out; have hcz68_0 : w65.cell? ⟨gb389, 0, none⟩ = some (.int .i64 0) := (blk_cell BK389.out 0).trans rfl; have hcz68_1 : w65.cell? ⟨gb389, 1, none⟩ = some (.slice none 0 0) := (blk_cell BK389.out 1).trans rfl; have hfz68_0 := blk_frozen BK389.out 0; have hfz68_1 := blk_frozen BK389.out 1; obtain ⟨Ao69, co69, eo69⟩ := Kd.R_slice HO386.out; subst eo69) | ((with_reducible refine gate_callee (f := 91) rfl ?_); refine goesL_ (some 7) rfl rfl Try.func91 zq17 rfl #[.pointer (some ⟨g, 0, none⟩), .int .i64 16] rfl zq0 ?_; (with_reducible refine (spec_l1Cur_pick.calls g s0_0 t387 t388 16 t390 t391 t392 w0 _ ?side1 ?side2 A3.out).mono ?_); (case side1 => exact zq13); (case side2 => exact zq14); rintro e w70 ⟨rfl, hi, hb, hk⟩; refine ⟨_, rfl, ?_⟩; replace BK382 := Aside0.mk (KeepBut.blk hk (g' := gb382) (o := .cells #[.int .i64 0, .slice none 0 0] 40 (0, 0)) zq27 NB382_0.out zq41); replace HO386 := Aside0.mk (Kd.R_mono (Kd.R_keep (IsS75.apart (show IsS75 w0 _ g s0_0 t387 t388 from by repeat (first | (with_reducible first | exact HI0.out | apply IsS75.alloc | apply IsS75.drewN | apply IsS75.drew | apply IsS75.set_1 | apply IsS75.set_2 | refine IsS75.far ?_ NB0_382.out _ | refine IsS75.far ?_ NB0_389.out _) | exact HI0.out)) (by (with_reducible repeat (first | apply Kd.R_alloc | apply Kd.R_drewN | apply Kd.R_drew)); exact (Kd.R_mono (Kd.R_far (p := ⟨gb389, 1, none⟩) (Kd.R_far (p := ⟨gb389, 0, none⟩) (Kd.R_types HO386.out BK389.out zq35) (fun _ hk => hk.2) (.int .i64 t383)) (fun _ hk => hk.2) (.slice Ao69 t384.length co69)) (fun _ h_ => h_.1))) zq35) hk (fun _ h => h.2)) (fun _ h => h.1)); replace BK389 := Aside0.mk (KeepBut.blk hk (g' := gb389) (o := .cells #[.int .i64 t383, .slice Ao69 t384.length co69] 40 (0, 0)) zq21 NB389_0.out zq41); replace HK := Aside0.mk (KeepBut.trans zq10 hk (.inl rfl)); replace HB := Aside0.mk (hb); replace HI0 := Aside0.mk (hi); (try clear hb); (try clear hk); (try clear hi); have hcz71_0 : w70.cell? ⟨gb389, 0, none⟩ = some (.int .i64 t383) := (blk_cell BK389.out 0).trans rfl; have hcz71_1 : w70.cell? ⟨gb389, 1, none⟩ = some (.slice Ao69 t384.length co69) := (blk_cell BK389.out 1).trans rfl; have hfz71_0 := blk_frozen BK389.out 0; have hfz71_1 := blk_frozen BK389.out 1; have hnb72 := NB382_0.out; have hnc72 := NB0_382.out; have hcz73_0 : w70.cell? ⟨gb382, 0, none⟩ = some (.int .i64 0) := (blk_cell BK382.out 0).trans rfl; have hcz73_1 : w70.cell? ⟨gb382, 1, none⟩ = some (.slice none 0 0) := (blk_cell BK382.out 1).trans rfl; have hfz73_0 := blk_frozen BK382.out 0; have hfz73_1 := blk_frozen BK382.out 1))
    refine bodyPost_ret (results_cell_row rfl _ _ gb382 40 #[.int .i64 t383, .slice Ao69 t384.length co69] (0, 0) _ rfl (by (with_reducible repeat (first | refine blk_drewN ?_ _ | refine blk_drew ?_ | refine blk_alloc ?_ _)); refine blk_put (cs := #[.int .i64 t383, .slice none 0 0]) ?_ 1 _ rfl; (with_reducible repeat (first | refine blk_drewN ?_ _ | refine blk_drew ?_ | refine blk_alloc ?_ _)); refine blk_put (cs := #[.int .i64 0, .slice none 0 0]) ?_ 0 _ rfl; (with_reducible repeat (first | refine blk_drewN ?_ _ | refine blk_drew ?_ | refine blk_alloc ?_ _)); exact BK382.out) Try.underlying40 rfl zq17) rfl ?_
    exact ⟨_, zq3, by (with_reducible repeat (first | apply Kd.R_alloc | apply Kd.R_drewN | apply Kd.R_drew)); exact Kd.R_mono (Kd.R_far (p := ⟨gb382, 1, none⟩) (Kd.R_far (p := ⟨gb382, 0, none⟩) (Kd.R_types HO386.out BK382.out zq35) (fun _ hk => hk.2) (.int .i64 t383)) (fun _ hk => hk.2) (.slice Ao69 t384.length co69)) (fun _ hk => trivial), zq13, zq14, zq10⟩
/-! ### spec_DrawIsLeast: function 38 -/
def spec_DrawIsLeast.f (k : Nat) (l0 : List Int) : Option (Int × List Int) := (spec_l1Cur_one.f l0 0 0 3).bind fun bt416 => (if bt416.1 = true then ((spec_l1Cur_pick.f l0 bt416.2.1 bt416.2.2 5).bind fun bt419 => ((spec_l1Cur_sureOrder.f k l0 bt419.2.1 bt419.2.2 (wrap64 (2 + bt419.1))).bind fun bt422 => ((spec_lsFirst.f k bt422.1).bind fun t427 => (some ((bt422.1.length : Int), t427))))) else ((spec_l1Cur_ladder.f k l0 bt416.2.1 bt416.2.2).bind fun bt430 => (some (bt430.1, bt430.2.1))))
theorem spec_DrawIsLeast.mono : ∀ a0 k, LeO (spec_DrawIsLeast.f k a0) (spec_DrawIsLeast.f (k + 1) a0) := by
 intro a0 k
 unfold spec_DrawIsLeast.f
 repeat' first | (with_reducible first | exact spec_l1Cur_ladder.mono _ _ _ _ | exact spec_l1Cur_sureOrder.mono _ _ _ _ _ | exact spec_lsFirst.mono _ _ | exact LeO.refl _ | exact LeO.none _ | refine LeO.ite ?_ ?_ | refine LeO.bind ?_ (fun _ => ?_))
set_option maxHeartbeats 8000000 in
set_option maxRecDepth 100000 in
theorem spec_DrawIsLeast.calls (k : Nat) (A0 : Option Addr) (c0 : Nat) (l0 : List Int) (r1 : Int) (r2 : List Int) (w : World) (hr0 : Kd.C (Kd.int .u8) w A0 l0.length l0) (hc0 : l0.length ≤ c0) (h : spec_DrawIsLeast.f k l0 = some (r1, r2)) :
  Calls Try.prog 38 #[.slice A0 l0.length c0] w fun e w' => ∃ v1_ : Value, e = .returned (.agg #[.int .i64 r1, v1_]) ∧ Kd.R (Kd.int .i64) 3 w' w.heap.size (fun _ => True) v1_ r2 ∧ Below w.heap.size w w' := by
 have hu40 := Try.underlying40
 have hu75 := Try.underlying75
 have HR0 := Aside0.mk hr0
 have HC0 := Aside0.mk hc0
 clear hr0 hc0
 have HB := Aside0.mk (Below.refl w.heap.size w)
 have H : ((spec_l1Cur_one.f l0 0 0 3).bind fun bt416 => (if bt416.1 = true then ((spec_l1Cur_pick.f l0 bt416.2.1 bt416.2.2 5).bind fun bt419 => ((spec_l1Cur_sureOrder.f k l0 bt419.2.1 bt419.2.2 (wrap64 (2 + bt419.1))).bind fun bt422 => ((spec_lsFirst.f k bt422.1).bind fun t427 => (some ((bt422.1.length : Int), t427))))) else ((spec_l1Cur_ladder.f k l0 bt416.2.1 bt416.2.2).bind fun bt430 => (some (bt430.1, bt430.2.1))))) = some (r1, r2) := h
 clear h
 replace H := Option.bind_eq_some_iff.mp H
 obtain ⟨⟨t416, t417, t418⟩, A20, H⟩ := H
 replace H : (if t416 = true then ((spec_l1Cur_pick.f l0 t417 t418 5).bind fun bt419 => ((spec_l1Cur_sureOrder.f k l0 bt419.2.1 bt419.2.2 (wrap64 (2 + bt419.1))).bind fun bt422 => ((spec_lsFirst.f k bt422.1).bind fun t427 => (some ((bt422.1.length : Int), t427))))) else ((spec_l1Cur_ladder.f k l0 t417 t418).bind fun bt430 => (some (bt430.1, bt430.2.1)))) = some (r1, r2) := H
 have A2 := Aside0.mk A20
 clear A20
 by_cases c3 : t416 = true
 ·subst c3
  have H1 : ((spec_l1Cur_pick.f l0 t417 t418 5).bind fun bt419 => ((spec_l1Cur_sureOrder.f k l0 bt419.2.1 bt419.2.2 (wrap64 (2 + bt419.1))).bind fun bt422 => ((spec_lsFirst.f k bt422.1).bind fun t427 => (some ((bt422.1.length : Int), t427))))) = some (r1, r2) := by rw [if_pos rfl] at H; exact H
  clear H
  have H := H1
  clear H1
  replace H := Option.bind_eq_some_iff.mp H
  obtain ⟨⟨t419, t420, t421⟩, A40, H⟩ := H
  replace H : ((spec_l1Cur_sureOrder.f k l0 t420 t421 (wrap64 (2 + t419))).bind fun bt422 => ((spec_lsFirst.f k bt422.1).bind fun t427 => (some ((bt422.1.length : Int), t427)))) = some (r1, r2) := H
  have A4 := Aside0.mk A40
  clear A40
  replace H := Option.bind_eq_some_iff.mp H
  obtain ⟨⟨t422, t425, t426⟩, A50, H⟩ := H
  replace H : ((spec_lsFirst.f k t422).bind fun t427 => (some ((t422.length : Int), t427))) = some (r1, r2) := H
  have A5 := Aside0.mk A50
  clear A50
  replace H := Option.bind_eq_some_iff.mp H
  obtain ⟨t427, A60, H⟩ := H
  replace H : (some ((t422.length : Int), t427)) = some (r1, r2) := H
  have A6 := Aside0.mk A60
  clear A60
  simp only [Option.some.injEq, Prod.mk.injEq] at H
  obtain ⟨rfl, rfl⟩ := H
  go_enter Try.func38, Try.ntmps38
  go_wp2_with (first | ((with_reducible refine gate_dst (N := 2) rfl ?_); refine box_event ?hg (N := 2) ?hd (cs := #[.int .i64 0, .slice none 0 0]) (t := 40) ?hr ?_; (case hd => rfl); (case hg => rfl); (case hr => exact zq16); intro gb414 hg w7 hbox hb; have BK414 := Aside0.mk (hbox); have GW414 := Aside0.mk ((by rw [hg]; exact (below_size (pBq6 HB)) : w.heap.size ≤ gb414)); have GE414 := Aside0.mk ((by rw [hg]; exact (below_size (pBq6 HB)) : w.heap.size ≤ gb414)); replace HB := Aside0.mk (below_step (pBq6 HB) hb); clear hb hbox hg) | ((with_reducible refine gate_dst (N := 7) rfl ?_); refine box_event ?hg (N := 7) ?hd (cs := #[.slice A0 l0.length c0, .int .i64 0, .int .u64 0]) (t := 75) ?hr ?_; (case hd => rfl); (case hg => rfl); (case hr => exact zq16); intro gb415 hg w8 hbox hb; have BK415 := Aside0.mk (hbox); have GW415 := Aside0.mk ((by rw [hg]; exact (below_size (pBq6 HB)) : w.heap.size ≤ gb415)); have GE415 := Aside0.mk ((by rw [hg]; exact (below_size (pBq6 HB)) : w.heap.size ≤ gb415)); have NB414_415 := Aside0.mk ((by rw [hg]; exact Nat.ne_of_lt (blk_lt (pKq6 BK414)) : gb414 ≠ gb415)); have NB415_414 := Aside0.mk ((by rw [hg]; exact Nat.ne_of_gt (blk_lt (pKq6 BK414)) : gb415 ≠ gb414)); replace BK414 := Aside0.mk (blk_below (pKq6 BK414) hb); replace HB := Aside0.mk (below_step (pBq6 HB) hb); clear hb hbox hg) | ((with_reducible refine gate_callee (f := 79) rfl ?_); refine goesL_ (some 9) rfl rfl Try.func79 zq17 rfl #[.pointer (some ⟨gb415, 0, none⟩), .int .i64 3] rfl zq0 ?_; (with_reducible refine (spec_l1Cur_one.calls gb415 l0 0 0 3 true t417 t418 w _ ?side1 ?side2 A2.out).mono ?_); (case side1 => unfold IsS75; exact ⟨_, _, (pKq6 BK415), GW415.out, HR0.out⟩); (case side2 => exact zq82); rintro e w9 ⟨rfl, hi, hb, hk⟩; refine ⟨_, rfl, ?_⟩; replace BK414 := Aside0.mk (KeepBut.blk hk (g' := gb414) (o := .cells #[.int .i64 0, .slice none 0 0] 40 (0, 0)) (pKq6 BK414) NB414_415.out zq41); replace HB := Aside0.mk (hb); replace BK415 := Aside0.mk (hi); (try clear hb); (try clear hk); (try clear hi)) | ((with_reducible refine gate_callee (f := 91) rfl ?_); refine goesL_ (some 12) rfl rfl Try.func91 zq17 rfl #[.pointer (some ⟨gb415, 0, none⟩), .int .i64 5] rfl zq0 ?_; (with_reducible refine (spec_l1Cur_pick.calls gb415 l0 t417 t418 5 t419 t420 t421 w _ ?side1 ?side2 A4.out).mono ?_); (case side1 => exact zq38); (case side2 => exact zq18); rintro e w10 ⟨rfl, hi, hb, hk⟩; refine ⟨_, rfl, ?_⟩; replace BK414 := Aside0.mk (KeepBut.blk hk (g' := gb414) (o := .cells #[.int .i64 0, .slice none 0 0] 40 (0, 0)) (pKq6 BK414) NB414_415.out zq41); replace HB := Aside0.mk (hb); replace BK415 := Aside0.mk (hi); (try clear hb); (try clear hk); (try clear hi)) | ((with_reducible refine gate_callee (f := 80) rfl ?_); refine goesL_ (some 14) rfl rfl Try.func80 zq17 rfl #[.pointer (some ⟨gb415, 0, none⟩), .int .i64 (wrap64 (2 + t419))] rfl zq0 ?_; (with_reducible refine (spec_l1Cur_sureOrder.calls k gb415 l0 t420 t421 (wrap64 (2 + t419)) t422 t425 t426 w _ ?side1 ?side2 A5.out).mono ?_); (case side1 => exact zq38); (case side2 => exact zq18); rintro e w11 ⟨v423, rfl, ho0, hi, hb, hk⟩; refine ⟨_, rfl, ?_⟩; have HO424 := Aside0.mk (Kd.R_lower ho0 (below_size zq18)); replace BK414 := Aside0.mk (KeepBut.blk hk (g' := gb414) (o := .cells #[.int .i64 0, .slice none 0 0] 40 (0, 0)) (pKq6 BK414) NB414_415.out zq41); replace HB := Aside0.mk (hb); replace BK415 := Aside0.mk (hi); (try clear hb); (try clear hk); (try clear hi); (try clear ho0); obtain ⟨Ao12, co12, eo12⟩ := Kd.R_slice HO424.out; subst eo12) | ((with_reducible refine gate_callee (f := 83) rfl ?_); refine goesL_ (some 18) rfl rfl Try.func83 zq17 rfl #[.slice Ao12 t422.length co12] rfl zq0 ?_; (with_reducible refine (spec_lsFirst.calls k _ _ t422 t427 _ ?side1 ?side2 A6.out).mono ?_); (case side1 => repeat (first | exact (Kd.R_reads' HO424.out).2.2 | (with_reducible refine Kd.C_alloc ?_ _) | (with_reducible refine Kd.C_drewN ?_ _) | (with_reducible refine Kd.C_drew ?_))); (case side2 => exact (Kd.R_reads' HO424.out).2.1); rintro e w13 ⟨v428, rfl, ho0, hb⟩; refine ⟨_, rfl, ?_⟩; have HO429 := Aside0.mk (Kd.R_lower (Kd.R_new' ho0 (Kd.R_lt (pRq6 HO424))) (below_size zq18)); replace HO424 := Aside0.mk (Kd.R_elder' (pRq6 HO424) (Kd.R_base ho0) hb); replace BK414 := Aside0.mk (blk_below (pKq6 BK414) hb); replace HB := Aside0.mk (below_step zq18 hb); replace BK415 := Aside0.mk (IsS75.below zq38 hb); (try clear hb); (try clear ho0); obtain ⟨Ao14, co14, eo14⟩ := Kd.R_slice HO429.out; subst eo14; have hnb15 := NB414_415.out; have hnc15 := NB415_414.out; have hcz16_0 : w13.cell? ⟨gb414, 0, none⟩ = some (.int .i64 0) := (blk_cell BK414.out 0).trans rfl; have hcz16_1 : w13.cell? ⟨gb414, 1, none⟩ = some (.slice none 0 0) := (blk_cell BK414.out 1).trans rfl; have hfz16_0 := blk_frozen BK414.out 0; have hfz16_1 := blk_frozen BK414.out 1))
  refine bodyPost_ret (results_cell_row rfl _ _ gb414 40 #[.int .i64 (t422.length : Int), .slice Ao14 t427.length co14] (0, 0) _ rfl (by (with_reducible repeat (first | refine blk_drewN ?_ _ | refine blk_drew ?_ | refine blk_alloc ?_ _)); refine blk_put (cs := #[.int .i64 (t422.length : Int), .slice none 0 0]) ?_ 1 _ rfl; (with_reducible repeat (first | refine blk_drewN ?_ _ | refine blk_drew ?_ | refine blk_alloc ?_ _)); refine blk_put (cs := #[.int .i64 0, .slice none 0 0]) ?_ 0 _ rfl; (with_reducible repeat (first | refine blk_drewN ?_ _ | refine blk_drew ?_ | refine blk_alloc ?_ _)); exact BK414.out) Try.underlying40 rfl zq17) rfl ?_
  exact ⟨_, zq3, by (with_reducible repeat (first | apply Kd.R_alloc | apply Kd.R_drewN | apply Kd.R_drew)); exact Kd.R_mono (Kd.R_far (p := ⟨gb414, 1, none⟩) (Kd.R_far (p := ⟨gb414, 0, none⟩) (Kd.R_types HO429.out BK414.out zq35) (fun _ hk => hk.2) (.int .i64 (t422.length : Int))) (fun _ hk => hk.2) (.slice Ao14 t427.length co14)) (fun _ hk => trivial), zq18⟩
 ·replace c3 := Bool.eq_false_iff.mpr c3
  subst c3
  have H1 : ((spec_l1Cur_ladder.f k l0 t417 t418).bind fun bt430 => (some (bt430.1, bt430.2.1))) = some (r1, r2) := by rw [if_neg (show ¬ (false = true) by decide)] at H; exact H
  clear H
  have H := H1
  clear H1
  replace H := Option.bind_eq_some_iff.mp H
  obtain ⟨⟨t430, t431, t434, t435⟩, A170, H⟩ := H
  replace H : (some (t430, t431)) = some (r1, r2) := H
  have A17 := Aside0.mk A170
  clear A170
  simp only [Option.some.injEq, Prod.mk.injEq] at H
  obtain ⟨rfl, rfl⟩ := H
  go_enter Try.func38, Try.ntmps38
  go_wp2_with (first | ((with_reducible refine gate_dst (N := 2) rfl ?_); refine box_event ?hg (N := 2) ?hd (cs := #[.int .i64 0, .slice none 0 0]) (t := 40) ?hr ?_; (case hd => rfl); (case hg => rfl); (case hr => exact zq16); intro gb414 hg w18 hbox hb; have BK414 := Aside0.mk (hbox); have GW414 := Aside0.mk ((by rw [hg]; exact (below_size (pBq6 HB)) : w.heap.size ≤ gb414)); have GE414 := Aside0.mk ((by rw [hg]; exact (below_size (pBq6 HB)) : w.heap.size ≤ gb414)); replace HB := Aside0.mk (below_step (pBq6 HB) hb); clear hb hbox hg) | ((with_reducible refine gate_dst (N := 7) rfl ?_); refine box_event ?hg (N := 7) ?hd (cs := #[.slice A0 l0.length c0, .int .i64 0, .int .u64 0]) (t := 75) ?hr ?_; (case hd => rfl); (case hg => rfl); (case hr => exact zq16); intro gb415 hg w19 hbox hb; have BK415 := Aside0.mk (hbox); have GW415 := Aside0.mk ((by rw [hg]; exact (below_size (pBq6 HB)) : w.heap.size ≤ gb415)); have GE415 := Aside0.mk ((by rw [hg]; exact (below_size (pBq6 HB)) : w.heap.size ≤ gb415)); have NB414_415 := Aside0.mk ((by rw [hg]; exact Nat.ne_of_lt (blk_lt (pKq6 BK414)) : gb414 ≠ gb415)); have NB415_414 := Aside0.mk ((by rw [hg]; exact Nat.ne_of_gt (blk_lt (pKq6 BK414)) : gb415 ≠ gb414)); replace BK414 := Aside0.mk (blk_below (pKq6 BK414) hb); replace HB := Aside0.mk (below_step (pBq6 HB) hb); clear hb hbox hg) | ((with_reducible refine gate_callee (f := 79) rfl ?_); refine goesL_ (some 9) rfl rfl Try.func79 zq17 rfl #[.pointer (some ⟨gb415, 0, none⟩), .int .i64 3] rfl zq0 ?_; (with_reducible refine (spec_l1Cur_one.calls gb415 l0 0 0 3 false t417 t418 w _ ?side1 ?side2 A2.out).mono ?_); (case side1 => unfold IsS75; exact ⟨_, _, (pKq6 BK415), GW415.out, HR0.out⟩); (case side2 => exact zq82); rintro e w20 ⟨rfl, hi, hb, hk⟩; refine ⟨_, rfl, ?_⟩; replace BK414 := Aside0.mk (KeepBut.blk hk (g' := gb414) (o := .cells #[.int .i64 0, .slice none 0 0] 40 (0, 0)) (pKq6 BK414) NB414_415.out zq41); replace HB := Aside0.mk (hb); replace BK415 := Aside0.mk (hi); (try clear hb); (try clear hk); (try clear hi)) | ((with_reducible refine gate_callee (f := 92) rfl ?_); refine goesL_ (some 21) rfl rfl Try.func92 zq17 rfl #[.pointer (some ⟨gb415, 0, none⟩)] rfl zq0 ?_; (with_reducible refine (spec_l1Cur_ladder.calls k gb415 l0 t417 t418 t430 t431 t434 t435 w _ ?side1 ?side2 A17.out).mono ?_); (case side1 => exact zq38); (case side2 => exact zq18); rintro e w21 ⟨v432, rfl, ho0, hi, hb, hk⟩; refine ⟨_, rfl, ?_⟩; have HO433 := Aside0.mk (Kd.R_lower ho0 (below_size zq18)); replace BK414 := Aside0.mk (KeepBut.blk hk (g' := gb414) (o := .cells #[.int .i64 0, .slice none 0 0] 40 (0, 0)) (pKq6 BK414) NB414_415.out zq41); replace HB := Aside0.mk (hb); replace BK415 := Aside0.mk (hi); (try clear hb); (try clear hk); (try clear hi); (try clear ho0); have hnb22 := NB414_415.out; have hnc22 := NB415_414.out; have hcz23_0 : w21.cell? ⟨gb414, 0, none⟩ = some (.int .i64 0) := (blk_cell BK414.out 0).trans rfl; have hcz23_1 : w21.cell? ⟨gb414, 1, none⟩ = some (.slice none 0 0) := (blk_cell BK414.out 1).trans rfl; have hfz23_0 := blk_frozen BK414.out 0; have hfz23_1 := blk_frozen BK414.out 1; obtain ⟨Ao24, co24, eo24⟩ := Kd.R_slice HO433.out; subst eo24))
  refine bodyPost_ret (results_cell_row rfl _ _ gb414 40 #[.int .i64 t430, .slice Ao24 t431.length co24] (0, 0) _ rfl (by (with_reducible repeat (first | refine blk_drewN ?_ _ | refine blk_drew ?_ | refine blk_alloc ?_ _)); refine blk_put (cs := #[.int .i64 t430, .slice none 0 0]) ?_ 1 _ rfl; (with_reducible repeat (first | refine blk_drewN ?_ _ | refine blk_drew ?_ | refine blk_alloc ?_ _)); refine blk_put (cs := #[.int .i64 0, .slice none 0 0]) ?_ 0 _ rfl; (with_reducible repeat (first | refine blk_drewN ?_ _ | refine blk_drew ?_ | refine blk_alloc ?_ _)); exact BK414.out) Try.underlying40 rfl zq17) rfl ?_
  exact ⟨_, zq3, by (with_reducible repeat (first | apply Kd.R_alloc | apply Kd.R_drewN | apply Kd.R_drew)); exact Kd.R_mono (Kd.R_far (p := ⟨gb414, 1, none⟩) (Kd.R_far (p := ⟨gb414, 0, none⟩) (Kd.R_types HO433.out BK414.out zq35) (fun _ hk => hk.2) (.int .i64 t430)) (fun _ hk => hk.2) (.slice Ao24 t431.length co24)) (fun _ hk => trivial), zq18⟩
/-! ### spec_l1All: function 119 -/
def spec_l1All.l0 : Nat → Int → Int → List Int → Int → Int → Option (Bool)
 | 0, _, _, _, _, _ => none
 | k + 1, x1, x2, x9, x10, x11 => if x11 < x10 then (if 0 ≤ x11 then (if x11 < (x9.length : Int) then ((spec_l1In.f (rd x9 x11) x1 x2).bind fun t437 => (if t437 = true then (spec_l1All.l0 k x1 x2 x9 x10 (wrap64 (x11 + 1))) else (some false))) else (none)) else (none)) else (some true)
def spec_l1All.f (k : Nat) (l0 : List Int) (a1 : Int) (a2 : Int) : Option (Bool) := spec_l1All.l0 k a1 a2 l0 (l0.length : Int) 0
theorem spec_l1All.mono_l : ∀ k, (∀ y0 y1 y2 y3 y4, LeO (spec_l1All.l0 k y0 y1 y2 y3 y4) (spec_l1All.l0 (k + 1) y0 y1 y2 y3 y4))
 | 0 => fun _ _ _ _ _ r h => by simp [spec_l1All.l0] at h
 | k + 1 => by
  have ih0 := spec_l1All.mono_l k
  ·intro y0 y1 y2 y3 y4
   unfold spec_l1All.l0
   repeat' first | (with_reducible first | exact ih0 _ _ _ _ _ | exact LeO.refl _ | exact LeO.none _ | refine LeO.ite ?_ ?_ | refine LeO.bind ?_ (fun _ => ?_))
theorem spec_l1All.mono : ∀ a0 a1 a2 k, LeO (spec_l1All.f k a0 a1 a2) (spec_l1All.f (k + 1) a0 a1 a2) := by
 intro a0 a1 a2 k
 have ih0 := spec_l1All.mono_l k
 unfold spec_l1All.f
 repeat' first | (with_reducible first | exact ih0 _ _ _ _ _ | exact LeO.refl _ | exact LeO.none _ | refine LeO.ite ?_ ?_ | refine LeO.bind ?_ (fun _ => ?_))
set_option maxHeartbeats 8000000 in
set_option maxRecDepth 100000 in
theorem spec_l1All.calls (k : Nat) (A0 : Option Addr) (c0 : Nat) (l0 : List Int) (a1 : Int) (a2 : Int) (r : Bool) (w : World) (hr0 : Kd.C (Kd.int .i64) w A0 l0.length l0) (hc0 : l0.length ≤ c0) (h : spec_l1All.f k l0 a1 a2 = some r) :
  Calls Try.prog 119 #[.slice A0 l0.length c0, .int .i64 a1, .int .i64 a2] w fun e w' => e = .returned (.bool r) ∧ Drawn0 w w' := by
 have HR0 := Aside0.mk hr0
 have HC0 := Aside0.mk hc0
 clear hr0 hc0
 have H : (spec_l1All.l0 k a1 a2 l0 (l0.length : Int) 0) = some r := h
 clear h
 have H' := Aside0.mk H
 clear H
 go_enter Try.func119, Try.ntmps119
 go_wp2
 go_loopg [11] k (fun kq v11 w' => ∃ (x11_1 : Int), v11 = .int .i64 x11_1 ∧ Aside0 (spec_l1All.l0 kq a1 a2 l0 (l0.length : Int) x11_1 = some r) ∧ Aside0 (kq ≤ k) ∧ Drawn0 w w')
 case atStart => exact ⟨(0), zq8, H', ⟨Nat.le_refl _⟩, zq12⟩
 case round =>
  clear H'
  try clear c1
  try clear p2
  obtain ⟨x11_1, rfl, HA, HK1, ⟨m1, rfl⟩⟩ := hrel
  cases gk with
  | zero => exact absurd HA.out (by simp [spec_l1All.l0])
  | succ k1 =>
   have H := HA.out
   clear HA
   simp only [spec_l1All.l0] at H
   by_cases c4 : x11_1 < (l0.length : Int)
   ·rw [if_pos c4] at H
    have c4b0 : decide (x11_1 < (l0.length : Int)) = true := decide_eq_true c4
    clear c4
    by_cases c5 : 0 ≤ x11_1
    ·rw [if_pos c5] at H
     have c5b0 : decide (0 ≤ x11_1) = true := decide_eq_true c5
     clear c5
     by_cases c6 : x11_1 < (l0.length : Int)
     ·rw [if_pos c6] at H
      have c6b0 : decide (x11_1 < (l0.length : Int)) = true := decide_eq_true c6
      clear c6
      replace H := Option.bind_eq_some_iff.mp H
      obtain ⟨t437, A70, H⟩ := H
      replace H : (if t437 = true then (spec_l1All.l0 k1 a1 a2 l0 (l0.length : Int) (wrap64 (x11_1 + 1))) else (some false)) = some r := H
      have A7 := Aside0.mk A70
      clear A70
      by_cases c8 : t437 = true
      ·subst c8
       have H1 : (spec_l1All.l0 k1 a1 a2 l0 (l0.length : Int) (wrap64 (x11_1 + 1))) = some r := by rw [if_pos rfl] at H; exact H
       clear H
       have H := H1
       clear H1
       have H' := Aside0.mk H
       clear H
       have p436 : 0 ≤ (x11_1 : Int) := of_decide_eq_true zq2
       have q436 : x11_1 < (l0.length : Int) := of_decide_eq_true zq2
       obtain ⟨ad436, e436, hx436_0⟩ := Kd.at_int HR0.out x11_1 p436 q436
       cases e436
       replace p436 := eq_true p436
       replace q436 := eq_true q436
       go_wp2_with (first | ((with_reducible refine gate_callee (f := 100) rfl ?_); refine goesL_ (some 18) rfl rfl Try.func100 zq17 rfl #[.int .i64 (rd l0 x11_1), .int .i64 a1, .int .i64 a2] rfl zq0 ?_; (with_reducible refine (spec_l1In.calls (rd l0 x11_1) a1 a2 true _ A7.out).mono ?_); rintro e w' ⟨rfl, ⟨nd, rfl⟩⟩; refine ⟨_, rfl, ?_⟩))
       go_roundg k1
       case measure => have := HK1.out; omega
       case rel => exact ⟨(wrap64 (x11_1 + 1)), zq8, H', ⟨zq44⟩, zq12⟩
      ·replace c8 := Bool.eq_false_iff.mpr c8
       subst c8
       have H1 : (some false) = some r := by rw [if_neg (show ¬ (false = true) by decide)] at H; exact H
       clear H
       have H := H1
       clear H1
       obtain rfl := Option.some.inj H
       have p436 : 0 ≤ (x11_1 : Int) := of_decide_eq_true zq2
       have q436 : x11_1 < (l0.length : Int) := of_decide_eq_true zq2
       obtain ⟨ad436, e436, hx436_0⟩ := Kd.at_int HR0.out x11_1 p436 q436
       cases e436
       replace p436 := eq_true p436
       replace q436 := eq_true q436
       go_wp2_with (first | ((with_reducible refine gate_callee (f := 100) rfl ?_); refine goesL_ (some 18) rfl rfl Try.func100 zq17 rfl #[.int .i64 (rd l0 x11_1), .int .i64 a1, .int .i64 a2] rfl zq0 ?_; (with_reducible refine (spec_l1In.calls (rd l0 x11_1) a1 a2 false _ A7.out).mono ?_); rintro e w' ⟨rfl, ⟨nd, rfl⟩⟩; refine ⟨_, rfl, ?_⟩))
       go_ret
       exact ⟨zq8, zq12⟩
     ·rw [if_neg c6] at H
      exact absurd H zq41
    ·rw [if_neg c5] at H
     exact absurd H zq41
   ·rw [if_neg c4] at H
    have c4b0 : decide (x11_1 < (l0.length : Int)) = false := decide_eq_false c4
    clear c4
    obtain rfl := Option.some.inj H
    go_wp2
    go_ret
    exact ⟨zq8, zq12⟩
/-! ### spec_laGood: function 93 -/
def spec_laGood.f (k : Nat) (a0_0 : Int) (l0_1 : List Int) : Option (Bool) := (spec_l1In.f a0_0 2 8).bind fun t439 => (if t439 = true then (if (l0_1.length : Int) ≤ 60 then ((spec_l1All.f k l0_1 0 (wrap64 (a0_0 - 2))).bind fun t440 => (some t440)) else (some false)) else (some false))
theorem spec_laGood.mono : ∀ a0 a1 k, LeO (spec_laGood.f k a0 a1) (spec_laGood.f (k + 1) a0 a1) := by
 intro a0 a1 k
 unfold spec_laGood.f
 repeat' first | (with_reducible first | exact spec_l1All.mono _ _ _ _ | exact LeO.refl _ | exact LeO.none _ | refine LeO.ite ?_ ?_ | refine LeO.bind ?_ (fun _ => ?_))
set_option maxHeartbeats 8000000 in
set_option maxRecDepth 100000 in
theorem spec_laGood.calls (k : Nat) (a0_0 : Int) (A0_1 : Option Addr) (c0_1 : Nat) (l0_1 : List Int) (r : Bool) (w : World) (hr0_1 : Kd.C (Kd.int .i64) w A0_1 l0_1.length l0_1) (hc0_1 : l0_1.length ≤ c0_1) (h : spec_laGood.f k a0_0 l0_1 = some r) :
  Calls Try.prog 93 #[.agg #[.int .i64 a0_0, .slice A0_1 l0_1.length c0_1]] w fun e w' => e = .returned (.bool r) ∧ Below w.heap.size w w' := by
 have hu40 := Try.underlying40
 have HR0_1 := Aside0.mk hr0_1
 have HC0_1 := Aside0.mk hc0_1
 clear hr0_1 hc0_1
 have HB := Aside0.mk (Below.refl w.heap.size w)
 have H : ((spec_l1In.f a0_0 2 8).bind fun t439 => (if t439 = true then (if (l0_1.length : Int) ≤ 60 then ((spec_l1All.f k l0_1 0 (wrap64 (a0_0 - 2))).bind fun t440 => (some t440)) else (some false)) else (some false))) = some r := h
 clear h
 replace H := Option.bind_eq_some_iff.mp H
 obtain ⟨t439, A20, H⟩ := H
 replace H : (if t439 = true then (if (l0_1.length : Int) ≤ 60 then ((spec_l1All.f k l0_1 0 (wrap64 (a0_0 - 2))).bind fun t440 => (some t440)) else (some false)) else (some false)) = some r := H
 have A2 := Aside0.mk A20
 clear A20
 by_cases c3 : t439 = true
 ·subst c3
  have H1 : (if (l0_1.length : Int) ≤ 60 then ((spec_l1All.f k l0_1 0 (wrap64 (a0_0 - 2))).bind fun t440 => (some t440)) else (some false)) = some r := by rw [if_pos rfl] at H; exact H
  clear H
  have H := H1
  clear H1
  by_cases c4 : (l0_1.length : Int) ≤ 60
  ·rw [if_pos c4] at H
   have c4b0 : decide ((l0_1.length : Int) ≤ 60) = true := decide_eq_true c4
   have c4b1 : decide (l0_1.length ≤ 60) = true := decide_eq_true zq60
   clear c4
   replace H := Option.bind_eq_some_iff.mp H
   obtain ⟨t440, A50, H⟩ := H
   replace H : (some t440) = some r := H
   have A5 := Aside0.mk A50
   clear A50
   obtain rfl := Option.some.inj H
   go_enter Try.func93, Try.ntmps93
   go_wp2_with (first | ((with_reducible refine gate_dst (N := 1) rfl ?_); (try (refine gate_guard (by rfl) ?_; dsimp only)); refine box_event ?hg (N := 1) ?hd (cs := #[.int .i64 a0_0, .slice A0_1 l0_1.length c0_1]) (t := 40) ?hr ?_; (case hd => rfl); (case hg => rfl); (case hr => exact zq16); intro gb438 hg w6 hbox hb; have BK438 := Aside0.mk (hbox); have GW438 := Aside0.mk ((by rw [hg]; exact (below_size (pBq6 HB)) : w.heap.size ≤ gb438)); have GE438 := Aside0.mk ((by rw [hg]; exact (below_size (pBq6 HB)) : w.heap.size ≤ gb438)); replace HB := Aside0.mk (below_step (pBq6 HB) hb); clear hb hbox hg; have hcz7_0 : w6.cell? ⟨gb438, 0, none⟩ = some (.int .i64 a0_0) := (blk_cell BK438.out 0).trans rfl; have hcz7_1 : w6.cell? ⟨gb438, 1, none⟩ = some (.slice A0_1 l0_1.length c0_1) := (blk_cell BK438.out 1).trans rfl; have hfz7_0 := blk_frozen BK438.out 0; have hfz7_1 := blk_frozen BK438.out 1) | ((with_reducible refine gate_callee (f := 100) rfl ?_); refine goesL_ (some 5) rfl rfl Try.func100 zq17 rfl #[.int .i64 a0_0, .int .i64 2, .int .i64 8] rfl zq0 ?_; (with_reducible refine (spec_l1In.calls a0_0 2 8 true _ A2.out).mono ?_); rintro e w' ⟨rfl, ⟨nd, rfl⟩⟩; refine ⟨_, rfl, ?_⟩) | (go_at_call 119; (with_reducible refine (spec_l1All.calls k _ _ l0_1 0 (wrap64 (a0_0 - 2)) t440 _ ?side1 ?side2 A5.out).mono ?_); (case side1 => repeat (first | exact (Kd.C_below HR0_1.out (pBq6 HB)) | (with_reducible refine Kd.C_alloc ?_ _) | (with_reducible refine Kd.C_drewN ?_ _) | (with_reducible refine Kd.C_drew ?_))); (case side2 => exact zq83); rintro e w' ⟨rfl, ⟨nd, rfl⟩⟩))
   go_ret
   exact ⟨zq3, zq56⟩
  ·rw [if_neg c4] at H
   have c4b0 : decide ((l0_1.length : Int) ≤ 60) = false := decide_eq_false c4
   have c4b1 : decide (l0_1.length ≤ 60) = false := decide_eq_false zq60
   clear c4
   obtain rfl := Option.some.inj H
   go_enter Try.func93, Try.ntmps93
   go_wp2_with (first | ((with_reducible refine gate_dst (N := 1) rfl ?_); (try (refine gate_guard (by rfl) ?_; dsimp only)); refine box_event ?hg (N := 1) ?hd (cs := #[.int .i64 a0_0, .slice A0_1 l0_1.length c0_1]) (t := 40) ?hr ?_; (case hd => rfl); (case hg => rfl); (case hr => exact zq16); intro gb438 hg w8 hbox hb; have BK438 := Aside0.mk (hbox); have GW438 := Aside0.mk ((by rw [hg]; exact (below_size (pBq6 HB)) : w.heap.size ≤ gb438)); have GE438 := Aside0.mk ((by rw [hg]; exact (below_size (pBq6 HB)) : w.heap.size ≤ gb438)); replace HB := Aside0.mk (below_step (pBq6 HB) hb); clear hb hbox hg; have hcz9_0 : w8.cell? ⟨gb438, 0, none⟩ = some (.int .i64 a0_0) := (blk_cell BK438.out 0).trans rfl; have hcz9_1 : w8.cell? ⟨gb438, 1, none⟩ = some (.slice A0_1 l0_1.length c0_1) := (blk_cell BK438.out 1).trans rfl; have hfz9_0 := blk_frozen BK438.out 0; have hfz9_1 := blk_frozen BK438.out 1) | ((with_reducible refine gate_callee (f := 100) rfl ?_); refine goesL_ (some 5) rfl rfl Try.func100 zq17 rfl #[.int .i64 a0_0, .int .i64 2, .int .i64 8] rfl zq0 ?_; (with_reducible refine (spec_l1In.calls a0_0 2 8 true _ A2.out).mono ?_); rintro e w' ⟨rfl, ⟨nd, rfl⟩⟩; refine ⟨_, rfl, ?_⟩))
   go_ret
   exact ⟨zq3, zq56⟩
 ·replace c3 := Bool.eq_false_iff.mpr c3
  subst c3
  have H1 : (some false) = some r := by rw [if_neg (show ¬ (false = true) by decide)] at H; exact H
  clear H
  have H := H1
  clear H1
  obtain rfl := Option.some.inj H
  go_enter Try.func93, Try.ntmps93
  go_wp2_with (first | ((with_reducible refine gate_dst (N := 1) rfl ?_); (try (refine gate_guard (by rfl) ?_; dsimp only)); refine box_event ?hg (N := 1) ?hd (cs := #[.int .i64 a0_0, .slice A0_1 l0_1.length c0_1]) (t := 40) ?hr ?_; (case hd => rfl); (case hg => rfl); (case hr => exact zq16); intro gb438 hg w10 hbox hb; have BK438 := Aside0.mk (hbox); have GW438 := Aside0.mk ((by rw [hg]; exact (below_size (pBq6 HB)) : w.heap.size ≤ gb438)); have GE438 := Aside0.mk ((by rw [hg]; exact (below_size (pBq6 HB)) : w.heap.size ≤ gb438)); replace HB := Aside0.mk (below_step (pBq6 HB) hb); clear hb hbox hg; have hcz11_0 : w10.cell? ⟨gb438, 0, none⟩ = some (.int .i64 a0_0) := (blk_cell BK438.out 0).trans rfl; have hcz11_1 : w10.cell? ⟨gb438, 1, none⟩ = some (.slice A0_1 l0_1.length c0_1) := (blk_cell BK438.out 1).trans rfl; have hfz11_0 := blk_frozen BK438.out 0; have hfz11_1 := blk_frozen BK438.out 1) | ((with_reducible refine gate_callee (f := 100) rfl ?_); refine goesL_ (some 5) rfl rfl Try.func100 zq17 rfl #[.int .i64 a0_0, .int .i64 2, .int .i64 8] rfl zq0 ?_; (with_reducible refine (spec_l1In.calls a0_0 2 8 false _ A2.out).mono ?_); rintro e w' ⟨rfl, ⟨nd, rfl⟩⟩; refine ⟨_, rfl, ?_⟩))
  go_ret
  exact ⟨zq3, zq56⟩
/-! ### spec_laOver: function 120 -/
def spec_laOver.f (a0 : Int) (a1 : Int) : Option (Int) := if a0 = a1 then (some (wrap64 (a1 + 1))) else (if a0 = (wrap64 (a1 + 1)) then (some a1) else (some a0))
set_option maxHeartbeats 8000000 in
set_option maxRecDepth 100000 in
theorem spec_laOver.calls (a0 : Int) (a1 : Int) (r : Int) (w : World) (h : spec_laOver.f a0 a1 = some r) :
  Calls Try.prog 120 #[.int .i64 a0, .int .i64 a1] w fun e w' => e = .returned (.int .i64 r) ∧ Drawn0 w w' := by
 have H : (if a0 = a1 then (some (wrap64 (a1 + 1))) else (if a0 = (wrap64 (a1 + 1)) then (some a1) else (some a0))) = some r := h
 clear h
 by_cases c3 : a0 = a1
 ·rw [if_pos c3] at H
  have c3b0 : (a0 == a1) = true := beq_iff_eq.mpr c3
  have c3b1 : (a0 != a1) = false := bne_eq_false_iff_eq.mpr c3
  clear c3
  obtain rfl := Option.some.inj H
  go_enter Try.func120, Try.ntmps120
  go_wp2
  go_ret
  exact ⟨zq8, zq12⟩
 ·rw [if_neg c3] at H
  have c3b0 : (a0 == a1) = false := beq_eq_false_iff_ne.mpr c3
  have c3b1 : (a0 != a1) = true := bne_iff_ne.mpr c3
  by_cases c4 : a0 = (wrap64 (a1 + 1))
  ·rw [if_pos c4] at H
   have c4b0 : (a0 == (wrap64 (a1 + 1))) = true := beq_iff_eq.mpr c4
   have c4b1 : (a0 != (wrap64 (a1 + 1))) = false := bne_eq_false_iff_eq.mpr c4
   clear c4
   obtain rfl := Option.some.inj H
   go_enter Try.func120, Try.ntmps120
   go_wp2
   go_ret
   exact ⟨zq8, zq12⟩
  ·rw [if_neg c4] at H
   have c4b0 : (a0 == (wrap64 (a1 + 1))) = false := beq_eq_false_iff_ne.mpr c4
   have c4b1 : (a0 != (wrap64 (a1 + 1))) = true := bne_iff_ne.mpr c4
   obtain rfl := Option.some.inj H
   go_enter Try.func120, Try.ntmps120
   go_wp2
   go_ret
   exact ⟨zq8, zq12⟩
/-! ### spec_laDown: function 103 -/
def spec_laDown.l0 : Nat → Int → List Int → List Int → Int → Int → Option (List Int)
 | 0, _, _, _, _, _ => none
 | k + 1, x1, x5, x10, x11, x12 => if x12 < x11 then (if 0 ≤ x12 then (if x12 < (x10.length : Int) then ((spec_laOver.f x1 (rd x10 x12)).bind fun t445 => (if x5.length < 17592186044416 then (spec_laDown.l0 k t445 (x5 ++ [t445]) x10 x11 (wrap64 (x12 + 1))) else (none))) else (none)) else (none)) else (some x5)
def spec_laDown.f (k : Nat) (l0 : List Int) (a1 : Int) : Option (List Int) := spec_laDown.l0 k a1 (([a1] : List Int)) l0 (l0.length : Int) 0
theorem spec_laDown.mono_l : ∀ k, (∀ y0 y1 y2 y3 y4, LeO (spec_laDown.l0 k y0 y1 y2 y3 y4) (spec_laDown.l0 (k + 1) y0 y1 y2 y3 y4))
 | 0 => fun _ _ _ _ _ r h => by simp [spec_laDown.l0] at h
 | k + 1 => by
  have ih0 := spec_laDown.mono_l k
  ·intro y0 y1 y2 y3 y4
   unfold spec_laDown.l0
   repeat' first | (with_reducible first | exact ih0 _ _ _ _ _ | exact LeO.refl _ | exact LeO.none _ | refine LeO.ite ?_ ?_ | refine LeO.bind ?_ (fun _ => ?_))
theorem spec_laDown.mono : ∀ a0 a1 k, LeO (spec_laDown.f k a0 a1) (spec_laDown.f (k + 1) a0 a1) := by
 intro a0 a1 k
 have ih0 := spec_laDown.mono_l k
 unfold spec_laDown.f
 repeat' first | (with_reducible first | exact ih0 _ _ _ _ _ | exact LeO.refl _ | exact LeO.none _ | refine LeO.ite ?_ ?_ | refine LeO.bind ?_ (fun _ => ?_))
set_option maxHeartbeats 8000000 in
set_option maxRecDepth 100000 in
theorem spec_laDown.calls (k : Nat) (A0 : Option Addr) (c0 : Nat) (l0 : List Int) (a1 : Int) (r : List Int) (w : World) (hr0 : Kd.C (Kd.int .i64) w A0 l0.length l0) (hc0 : l0.length ≤ c0) (h : spec_laDown.f k l0 a1 = some r) :
  Calls Try.prog 103 #[.slice A0 l0.length c0, .int .i64 a1] w fun e w' => ∃ v0_ : Value, e = .returned (v0_) ∧ Kd.R (Kd.int .i64) 3 w' w.heap.size (fun _ => True) v0_ r ∧ Below w.heap.size w w' := by
 have HR0 := Aside0.mk hr0
 have HC0 := Aside0.mk hc0
 clear hr0 hc0
 have HB := Aside0.mk (Below.refl w.heap.size w)
 have H : (spec_laDown.l0 k a1 (([a1] : List Int)) l0 (l0.length : Int) 0) = some r := h
 clear h
 obtain ⟨y441, hy441⟩ : ∃ y_ : List Int, y_ = (([a1] : List Int)) := ⟨_, rfl⟩
 replace H : (spec_laDown.l0 k a1 y441 l0 (l0.length : Int) 0) = some r := by first | (rw [hy441]; with_reducible exact H) | (have H2_ := (Option.bind_some _ _).symm.trans H; rw [hy441]; with_reducible exact H2_) | (have H2_ := (Option.bind_some _ _).symm.trans H; with_reducible exact H2_) | with_reducible exact H | (rw [hy441]; exact H) | exact H
 have Ny441 := Aside0.mk hy441
 clear hy441
 have H' := Aside0.mk H
 clear H
 go_enter Try.func103, Try.ntmps103
 go_wp2_with (first | ((with_reducible refine gate_dst (N := 9) rfl ?_); refine Kd.R_lit (Kd.int .i64) _ 3 ?hg (N := 9) ?hd (xs := ([a1] : List Int)) (inner := [.int .i64 a1]) (ok := fun _ => True) (okp := fun _ => True) ?hr ?hp (fun _ hk => hk) trivial (Below.refl _ _) (Nat.le_refl _) zq41 ?_; (case hd => rfl); (case hg => rfl); (case hr => exact zq16); (case hp => exact (Reps.one (show Kd.M (Kd.int .i64) _ _ _ a1 [.int .i64 a1] from rfl) (Reps.none _ _))); intro v442 w3 ho4 hb hg_ hnew_; clear hg_ hnew_; (first | rw [← Ny441.out] at ho4 | (simp only [Int.reduceToNat] at ho4; rw [← Ny441.out] at ho4)); have HO443 := Aside0.mk (Kd.R_lower ho4 (below_size (pBq6 HB))); replace HB := Aside0.mk (below_step (pBq6 HB) hb); clear hb ho4))
 go_loopg [1, 5, 12] k (fun kq v1 v5 v12 w' => ∃ (x1_1 : Int) (x5_1 : List Int) (x12_1 : Int), v1 = .int .i64 x1_1 ∧ v12 = .int .i64 x12_1 ∧ Aside0 (spec_laDown.l0 kq x1_1 x5_1 l0 (l0.length : Int) x12_1 = some r) ∧ Aside0 (kq ≤ k) ∧ Aside0 (Kd.R (Kd.int .i64) 3 w' w.heap.size (fun _ => True) v5 x5_1) ∧ Aside0 (Below w.heap.size w w'))
 case atStart => exact ⟨(a1), (y441), (0), zq8, zq8, H', ⟨Nat.le_refl _⟩, ⟨by (with_reducible repeat (first | apply Kd.R_alloc | apply Kd.R_drewN | apply Kd.R_drew)); exact HO443.out⟩, ⟨zq5⟩⟩
 case round =>
  clear H'
  try clear c1
  try clear p2
  obtain ⟨x1_1, x5_1, x12_1, rfl, rfl, HA, HK1, HO_5, HB⟩ := hrel
  cases gk with
  | zero => exact absurd HA.out (by simp [spec_laDown.l0])
  | succ k1 =>
   have H := HA.out
   clear HA
   simp only [spec_laDown.l0] at H
   by_cases c5 : x12_1 < (l0.length : Int)
   ·rw [if_pos c5] at H
    have c5b0 : decide (x12_1 < (l0.length : Int)) = true := decide_eq_true c5
    clear c5
    by_cases c6 : 0 ≤ x12_1
    ·rw [if_pos c6] at H
     have c6b0 : decide (0 ≤ x12_1) = true := decide_eq_true c6
     clear c6
     by_cases c7 : x12_1 < (l0.length : Int)
     ·rw [if_pos c7] at H
      have c7b0 : decide (x12_1 < (l0.length : Int)) = true := decide_eq_true c7
      clear c7
      replace H := Option.bind_eq_some_iff.mp H
      obtain ⟨t445, A80, H⟩ := H
      replace H : (if x5_1.length < 17592186044416 then (spec_laDown.l0 k1 t445 (x5_1 ++ [t445]) l0 (l0.length : Int) (wrap64 (x12_1 + 1))) else (none)) = some r := H
      have A8 := Aside0.mk A80
      clear A80
      by_cases c9 : x5_1.length < 17592186044416
      ·rw [if_pos c9] at H
       have LMc9 := Aside0.mk c9
       clear c9
       obtain ⟨y446, hy446⟩ : ∃ y_ : List Int, y_ = (x5_1 ++ [t445]) := ⟨_, rfl⟩
       replace H : (spec_laDown.l0 k1 t445 y446 l0 (l0.length : Int) (wrap64 (x12_1 + 1))) = some r := by first | (rw [hy446]; with_reducible exact H) | (have H2_ := (Option.bind_some _ _).symm.trans H; rw [hy446]; with_reducible exact H2_) | (have H2_ := (Option.bind_some _ _).symm.trans H; with_reducible exact H2_) | with_reducible exact H | (rw [hy446]; exact H) | exact H
       have Ny446 := Aside0.mk hy446
       clear hy446
       have H' := Aside0.mk H
       clear H
       have p444 : 0 ≤ (x12_1 : Int) := of_decide_eq_true zq2
       have q444 : x12_1 < (l0.length : Int) := of_decide_eq_true zq2
       obtain ⟨ad444, e444, hx444_0⟩ := Kd.at_int HR0.out x12_1 p444 q444
       cases e444
       replace hx444_0 := (HB.out.cell (World.block_lt_of_cell? w _ hx444_0)).trans hx444_0
       replace p444 := eq_true p444
       replace q444 := eq_true q444
       go_wp2_with (first | ((with_reducible refine gate_callee (f := 120) rfl ?_); refine goesL_ (some 18) rfl rfl Try.func120 zq17 rfl #[.int .i64 x1_1, .int .i64 (rd l0 x12_1)] rfl zq0 ?_; (with_reducible refine (spec_laOver.calls x1_1 (rd l0 x12_1) t445 _ A8.out).mono ?_); rintro e w' ⟨rfl, ⟨nd, rfl⟩⟩; refine ⟨_, rfl, ?_⟩) | ((with_reducible refine gate_builtin (b := .append) (xs := #[.tmp 19, .tmp 21]) rfl ?_); at_builtin; refine Kd.R_append (Kd.int .i64) (w0 := w) w.heap.size rfl (.tmp 19) (.tmp 21) 24 3 (.int .i64 0) 8 rfl Try.underlying24 info3 rfl zq35 zq60 u5 x5_1 t445 [.int .i64 t445] (fun _ => True) (fun _ => False) rfl rfl ?aP (fun _ hk => hk.elim) ?aF ?aO ?aB ?aS ?aL ?_; (case aP => exact rfl); (case aB => exact (pBq6 HB)); (case aF => exact zq70); (case aO => exact (pRq6 HO_5)); (case aS => exact (below_size (pBq6 HB))); (case aL => have := LMc9.out; omega); intro v447 w10 ho hb hg hat; rw [← Ny446.out] at ho; have HO448 := Aside0.mk (ho); replace HB := Aside0.mk (hb); clear HO_5; clear ho hb hg hat))
       go_roundg k1
       case measure => have := HK1.out; omega
       case rel => exact ⟨(t445), (y446), (wrap64 (x12_1 + 1)), zq8, zq8, H', ⟨zq44⟩, ⟨by (with_reducible repeat (first | apply Kd.R_alloc | apply Kd.R_drewN | apply Kd.R_drew)); exact HO448.out⟩, ⟨zq5⟩⟩
      ·rw [if_neg c9] at H
       exact absurd H zq41
     ·rw [if_neg c7] at H
      exact absurd H zq41
    ·rw [if_neg c6] at H
     exact absurd H zq41
   ·rw [if_neg c5] at H
    have c5b0 : decide (x12_1 < (l0.length : Int)) = false := decide_eq_false c5
    clear c5
    obtain rfl := Option.some.inj H
    go_wp2
    go_ret
    exact ⟨_, zq3, zq49, zq5⟩
/-! ### spec_laResult: function 96 -/
def spec_laResult.l0 : Nat → Int → List Int → List Int → Int → Option (List Int)
 | 0, _, _, _, _ => none
 | k + 1, x0, x1, x5, x6 => if x6 < x0 then ((spec_laDown.f k x1 x6).bind fun t449 => (if 0 ≤ (x1.length : Int) then (if (x1.length : Int) < (t449.length : Int) then (if x5.length < 17592186044416 then (spec_laResult.l0 k x0 x1 (x5 ++ [rd t449 (x1.length : Int)]) (wrap64 (x6 + 1))) else (none)) else (none)) else (none))) else (some x5)
def spec_laResult.f (k : Nat) (a0 : Int) (l1 : List Int) : Option (List Int) := spec_laResult.l0 k a0 l1 ([] : List Int) 0
theorem spec_laResult.mono_l : ∀ k, (∀ y0 y1 y2 y3, LeO (spec_laResult.l0 k y0 y1 y2 y3) (spec_laResult.l0 (k + 1) y0 y1 y2 y3))
 | 0 => fun _ _ _ _ r h => by simp [spec_laResult.l0] at h
 | k + 1 => by
  have ih0 := spec_laResult.mono_l k
  ·intro y0 y1 y2 y3
   unfold spec_laResult.l0
   repeat' first | (with_reducible first | exact ih0 _ _ _ _ | exact spec_laDown.mono _ _ _ | exact LeO.refl _ | exact LeO.none _ | refine LeO.ite ?_ ?_ | refine LeO.bind ?_ (fun _ => ?_))
theorem spec_laResult.mono : ∀ a0 a1 k, LeO (spec_laResult.f k a0 a1) (spec_laResult.f (k + 1) a0 a1) := by
 intro a0 a1 k
 have ih0 := spec_laResult.mono_l k
 unfold spec_laResult.f
 repeat' first | (with_reducible first | exact ih0 _ _ _ _ | exact spec_laDown.mono _ _ _ | exact LeO.refl _ | exact LeO.none _ | refine LeO.ite ?_ ?_ | refine LeO.bind ?_ (fun _ => ?_))
set_option maxHeartbeats 8000000 in
set_option maxRecDepth 100000 in
theorem spec_laResult.calls (k : Nat) (a0 : Int) (A1 : Option Addr) (c1 : Nat) (l1 : List Int) (r : List Int) (w : World) (hr1 : Kd.C (Kd.int .i64) w A1 l1.length l1) (hc1 : l1.length ≤ c1) (h : spec_laResult.f k a0 l1 = some r) :
  Calls Try.prog 96 #[.int .i64 a0, .slice A1 l1.length c1] w fun e w' => ∃ v0_ : Value, e = .returned (v0_) ∧ Kd.R (Kd.int .i64) 3 w' w.heap.size (fun _ => True) v0_ r ∧ Below w.heap.size w w' := by
 have HR1 := Aside0.mk hr1
 have HC1 := Aside0.mk hc1
 clear hr1 hc1
 have HB := Aside0.mk (Below.refl w.heap.size w)
 have H : (spec_laResult.l0 k a0 l1 ([] : List Int) 0) = some r := h
 clear h
 have H' := Aside0.mk H
 clear H
 go_enter Try.func96, Try.ntmps96
 go_wp2
 go_loopg [5, 6] k (fun kq v5 v6 w' => ∃ (x5_1 : List Int) (x6_1 : Int), v6 = .int .i64 x6_1 ∧ Aside0 (spec_laResult.l0 kq a0 l1 x5_1 x6_1 = some r) ∧ Aside0 (kq ≤ k) ∧ Aside0 (Kd.R (Kd.int .i64) 3 w' w.heap.size (fun _ => True) v5 x5_1) ∧ Aside0 (Below w.heap.size w w'))
 case atStart => exact ⟨(([] : List Int)), (0), zq8, H', ⟨Nat.le_refl _⟩, ⟨zq15⟩, ⟨zq5⟩⟩
 case round =>
  clear H'
  try clear c1
  try clear p2
  obtain ⟨x5_1, x6_1, rfl, HA, HK1, HO_5, HB⟩ := hrel
  cases gk with
  | zero => exact absurd HA.out (by simp [spec_laResult.l0])
  | succ k1 =>
   have H := HA.out
   clear HA
   simp only [spec_laResult.l0] at H
   by_cases c3 : x6_1 < a0
   ·rw [if_pos c3] at H
    have c3b0 : decide (x6_1 < a0) = true := decide_eq_true c3
    clear c3
    replace H := Option.bind_eq_some_iff.mp H
    obtain ⟨t449, A40, H⟩ := H
    replace H : (if 0 ≤ (l1.length : Int) then (if (l1.length : Int) < (t449.length : Int) then (if x5_1.length < 17592186044416 then (spec_laResult.l0 k1 a0 l1 (x5_1 ++ [rd t449 (l1.length : Int)]) (wrap64 (x6_1 + 1))) else (none)) else (none)) else (none)) = some r := H
    have A4 := Aside0.mk A40
    clear A40
    by_cases c5 : 0 ≤ (l1.length : Int)
    ·rw [if_pos c5] at H
     have c5b0 : decide (0 ≤ (l1.length : Int)) = true := decide_eq_true c5
     have c5b1 : decide (0 ≤ l1.length) = true := decide_eq_true zq60
     clear c5
     by_cases c6 : (l1.length : Int) < (t449.length : Int)
     ·rw [if_pos c6] at H
      have c6b0 : decide ((l1.length : Int) < (t449.length : Int)) = true := decide_eq_true c6
      have c6b1 : decide (l1.length < t449.length) = true := decide_eq_true (Int.ofNat_lt.mp c6)
      clear c6
      by_cases c7 : x5_1.length < 17592186044416
      ·rw [if_pos c7] at H
       have LMc7 := Aside0.mk c7
       clear c7
       obtain ⟨y453, hy453⟩ : ∃ y_ : List Int, y_ = (x5_1 ++ [rd t449 (l1.length : Int)]) := ⟨_, rfl⟩
       replace H : (spec_laResult.l0 k1 a0 l1 y453 (wrap64 (x6_1 + 1))) = some r := by first | (rw [hy453]; with_reducible exact H) | (have H2_ := (Option.bind_some _ _).symm.trans H; rw [hy453]; with_reducible exact H2_) | (have H2_ := (Option.bind_some _ _).symm.trans H; with_reducible exact H2_) | with_reducible exact H | (rw [hy453]; exact H) | exact H
       have Ny453 := Aside0.mk hy453
       clear hy453
       have H' := Aside0.mk H
       clear H
       go_wp2_with (first | ((with_reducible refine gate_callee (f := 103) rfl ?_); refine goesL_ (some 15) rfl rfl Try.func103 zq17 rfl #[.slice A1 l1.length c1, .int .i64 x6_1] rfl zq0 ?_; (with_reducible refine (spec_laDown.calls k1 _ _ l1 x6_1 t449 _ ?side1 ?side2 A4.out).mono ?_); (case side1 => exact zq92); (case side2 => exact HC1.out); rintro e w8 ⟨v450, rfl, ho0, hb⟩; refine ⟨_, rfl, ?_⟩; have HO451 := Aside0.mk (Kd.R_lower (Kd.R_new' ho0 (Kd.R_lt (pRq6 HO_5))) (below_size (pBq6 HB))); replace HO_5 := Aside0.mk (Kd.R_elder' (pRq6 HO_5) (Kd.R_base ho0) hb); replace HB := Aside0.mk (below_step (pBq6 HB) hb); (try clear hb); (try clear ho0); obtain ⟨Ao9, co9, eo9⟩ := Kd.R_slice HO451.out; subst eo9; have p452 : 0 ≤ ((l1.length : Int) : Int) := of_decide_eq_true zq2; have q452 : (l1.length : Int) < (t449.length : Int) := of_decide_eq_true zq2; obtain ⟨ad452, e452, hx452_0⟩ := Kd.at_int (Kd.R_reads' HO451.out).2.2 (l1.length : Int) p452 q452; cases e452; (try simp only [Go.IntWalk.toNatUp] at hx452_0); replace p452 := eq_true p452; replace q452 := eq_true q452) | ((with_reducible refine gate_builtin (b := .append) (xs := #[.tmp 12, .tmp 20]) rfl ?_); at_builtin; refine Kd.R_append (Kd.int .i64) (w0 := w) w.heap.size rfl (.tmp 12) (.tmp 20) 24 3 (.int .i64 0) 8 rfl Try.underlying24 info3 rfl zq35 zq60 u5 x5_1 (rd t449 (l1.length : Int)) [.int .i64 (rd t449 (l1.length : Int))] (fun k_ => some k_ ≠ (.slice (some ad452) t449.length co9 : Value).ownBlock) (fun _ => False) rfl rfl ?aP (fun _ hk => hk.elim) ?aF ?aO ?aB ?aS ?aL ?_; (case aP => exact rfl); (case aB => exact (pBq6 HB)); (case aF => exact (fun k_ hk => Kd.fresh' (Kd.R_lt (pRq6 HO451)) k_ hk)); (case aO => exact zq95); (case aS => exact (below_size (pBq6 HB))); (case aL => have := LMc7.out; omega); intro v454 w10 ho hb hg hat; rw [← Ny453.out] at ho; have HO455 := Aside0.mk (ho); replace HO451 := Aside0.mk (Kd.R_after (ok := (fun _ => True)) (pRq6 HO451) hg hat); replace HB := Aside0.mk (hb); clear HO_5; clear ho hb hg hat))
       go_roundg k1
       case measure => have := HK1.out; omega
       case rel => exact ⟨(y453), (wrap64 (x6_1 + 1)), zq8, H', ⟨zq44⟩, ⟨by (with_reducible repeat (first | apply Kd.R_alloc | apply Kd.R_drewN | apply Kd.R_drew)); exact Kd.R_mono HO455.out (fun _ hk => trivial)⟩, ⟨zq5⟩⟩
      ·rw [if_neg c7] at H
       exact absurd H zq41
     ·rw [if_neg c6] at H
      exact absurd H zq41
    ·rw [if_neg c5] at H
     exact absurd H zq41
   ·rw [if_neg c3] at H
    have c3b0 : decide (x6_1 < a0) = false := decide_eq_false c3
    clear c3
    obtain rfl := Option.some.inj H
    go_wp2
    go_ret
    exact ⟨_, zq3, zq49, zq5⟩
/-! ### spec_lsLeast: function 94 -/
def spec_lsLeast.f (k : Nat) (a0_0 : Int) (l0_1 : List Int) : Option (Bool) := (spec_laResult.f k a0_0 l0_1).bind fun t457 => ((spec_lsInversions.f k t457).bind fun t460 => (some ((l0_1.length : Int) == (t460.length : Int))))
theorem spec_lsLeast.mono : ∀ a0 a1 k, LeO (spec_lsLeast.f k a0 a1) (spec_lsLeast.f (k + 1) a0 a1) := by
 intro a0 a1 k
 unfold spec_lsLeast.f
 repeat' first | (with_reducible first | exact spec_laResult.mono _ _ _ | exact spec_lsInversions.mono _ _ | exact LeO.refl _ | exact LeO.none _ | refine LeO.ite ?_ ?_ | refine LeO.bind ?_ (fun _ => ?_))
def spec_lsLeast.T1 : Bool × List (List Nat × List Nat) := (true, [([], []), ([0], [0]), ([1], [1]), ([], []), ([3], [3]), ([], []), ([5], [5]), ([4, 6], [4, 6]), ([7, 7], [7]), ([8], [8]), ([2, 9], [2, 9]), ([10, 8, 0, 1, 2, 3, 4, 5, 6, 7, 8, 9, 10], [10])])
def spec_lsLeast.B1 : List Nat := [0, 1, 3, 0, 8, 0, 32, 120, 248, 504, 1023, 2047]
theorem spec_lsLeast.tab1 : rtab .any (opsOf Try.f94 1) = spec_lsLeast.T1 := by kernel_rfl
theorem spec_lsLeast.bits1 : waitsOk spec_lsLeast.T1.2 spec_lsLeast.B1 = true := by kernel_rfl
set_option maxHeartbeats 8000000 in
set_option maxRecDepth 100000 in
theorem spec_lsLeast.calls (k : Nat) (a0_0 : Int) (A0_1 : Option Addr) (c0_1 : Nat) (l0_1 : List Int) (r : Bool) (w : World) (hr0_1 : Kd.C (Kd.int .i64) w A0_1 l0_1.length l0_1) (hc0_1 : l0_1.length ≤ c0_1) (h : spec_lsLeast.f k a0_0 l0_1 = some r) :
  Calls Try.prog 94 #[.agg #[.int .i64 a0_0, .slice A0_1 l0_1.length c0_1]] w fun e w' => e = .returned (.bool r) ∧ Below w.heap.size w w' := by
 have hu40 := Try.underlying40
 have HR0_1 := Aside0.mk hr0_1
 have HC0_1 := Aside0.mk hc0_1
 clear hr0_1 hc0_1
 have HB := Aside0.mk (Below.refl w.heap.size w)
 have H : ((spec_laResult.f k a0_0 l0_1).bind fun t457 => ((spec_lsInversions.f k t457).bind fun t460 => (some ((l0_1.length : Int) == (t460.length : Int))))) = some r := h
 clear h
 replace H := Option.bind_eq_some_iff.mp H
 obtain ⟨t457, A20, H⟩ := H
 replace H : ((spec_lsInversions.f k t457).bind fun t460 => (some ((l0_1.length : Int) == (t460.length : Int)))) = some r := H
 have A2 := Aside0.mk A20
 clear A20
 replace H := Option.bind_eq_some_iff.mp H
 obtain ⟨t460, A30, H⟩ := H
 replace H : (some ((l0_1.length : Int) == (t460.length : Int))) = some r := H
 have A3 := Aside0.mk A30
 clear A30
 obtain rfl := Option.some.inj H
 go_enter Try.func94, Try.ntmps94
 try go_wp2_with (first | ((with_reducible refine gate_dst (N := 1) rfl ?_); refine box_event ?hg (N := 1) ?hd (cs := #[.int .i64 a0_0, .slice A0_1 l0_1.length c0_1]) (t := 40) ?hr ?_; (case hd => rfl); (case hg => rfl); (case hr => exact zq16); intro gb456 hg w4 hbox hb; have BK456 := Aside0.mk (hbox); have GW456 := Aside0.mk ((by rw [hg]; exact (below_size (pBq6 HB)) : w.heap.size ≤ gb456)); have GE456 := Aside0.mk ((by rw [hg]; exact (below_size (pBq6 HB)) : w.heap.size ≤ gb456)); replace HB := Aside0.mk (below_step (pBq6 HB) hb); clear hb hbox hg))
 replace BK456 := Aside0.mk (blk_drew BK456.out)
 replace HB := Aside0.mk (below_drew1 HB.out)
 refine start_ (n := 12) (S := fun w' => w'.cell? ⟨gb456, 0, none⟩ = some (.int .i64 a0_0) ∧ w'.cell? ⟨gb456, 1, none⟩ = some (.slice A0_1 l0_1.length c0_1)) (ds := []) #[false, false, false, false, false, false, false, false, false, false, false, false] zq17 rfl rfl ⟨(blk_cell BK456.out 0).trans rfl, (blk_cell BK456.out 1).trans rfl⟩ (fun hHeld => ?_); refine with_tabW spec_lsLeast.tab1 spec_lsLeast.bits1 (fun HT_ HW_ => ?_)
 generalize w4.drew = w5 at BK456 HB hHeld ⊢
 refine zU 0 3 HT_ ?_
 refine zU 3 6 HT_ ?_
 refine zU 5 8 HT_ ?_
 refine zT 1 4 HT_ HW_ hHeld ?_
 refine zU 2 5 HT_ ?_
 refine zT 4 7 HT_ HW_ hHeld ?_
 refine zT 6 9 HT_ HW_ hHeld ?_
 refine zO 7 10 HT_ fun K hK => ?_
 refine goes_ Try.func96 zq17 rfl #[.int .i64 a0_0, .slice A0_1 l0_1.length c0_1] (by rfl) rfl rfl zq0 ?_
 with_reducible refine (spec_laResult.calls k a0_0 _ _ l0_1 t457 _ ?side1 ?side2 A2.out).mono ?_
 (case side1 => exact zq7)
 (case side2 => exact zq83)
 rintro e w6 ⟨v458, rfl, ho0, hb⟩
 refine ⟨_, rfl, ?_⟩
 have HO459 := Aside0.mk (Kd.R_lower ho0 (below_size (pBq6 HB)))
 replace BK456 := Aside0.mk (blk_below (pKq6 BK456) hb)
 replace HB := Aside0.mk (below_step (pBq6 HB) hb)
 (try clear hb)
 (try clear hb2)
 (try clear hk)
 (try clear hi)
 (try clear ho0)
 obtain ⟨Ao7, co7, eo7⟩ := Kd.R_slice HO459.out
 (first | subst eo7 | (injection eo7 with f1_ f2_ f3_; have f4_ := f1_.symm; have f5_ := f3_.symm; clear f1_ f2_ f3_; subst f4_; subst f5_))
 refine hK.out _ _ ⟨(blk_cell BK456.out 0).trans rfl, (blk_cell BK456.out 1).trans rfl⟩ (fun hHeld => ?_)
 clear hK K
 refine zN 10 ?_
 refine zO 8 11 HT_ fun K hK => ?_
 refine goes_ Try.func84 zq17 rfl #[.slice Ao7 t457.length co7] (by rfl) rfl rfl zq0 ?_
 with_reducible refine (spec_lsInversions.calls k _ _ t457 t460 _ ?side1 ?side2 A3.out).mono ?_
 (case side1 => repeat (first | exact (Kd.R_reads' HO459.out).2.2 | (with_reducible refine Kd.C_alloc ?_ _) | (with_reducible refine Kd.C_drewN ?_ _) | (with_reducible refine Kd.C_drew ?_)))
 (case side2 => exact (Kd.R_reads' HO459.out).2.1)
 rintro e w8 ⟨v461, rfl, ho0, hb⟩
 refine ⟨_, rfl, ?_⟩
 have HO462 := Aside0.mk (Kd.S_lower (Kd.S_new' ho0 (Kd.R_lt (pRq6 HO459))) (below_size (pBq6 HB)))
 replace HO459 := Aside0.mk (Kd.R_below (pRq6 HO459) hb)
 replace BK456 := Aside0.mk (blk_below (pKq6 BK456) hb)
 replace HB := Aside0.mk (below_step (pBq6 HB) hb)
 (try clear hb)
 (try clear hb2)
 (try clear hk)
 (try clear hi)
 (try clear ho0)
 obtain ⟨Ao9, co9, eo9⟩ := Kd.S_slice HO462.out
 (first | subst eo9 | (injection eo9 with f1_ f2_ f3_; have f4_ := f1_.symm; have f5_ := f3_.symm; clear f1_ f2_ f3_; subst f4_; subst f5_))
 refine hK.out _ _ ⟨(blk_cell BK456.out 0).trans rfl, (blk_cell BK456.out 1).trans rfl⟩ (fun hHeld => ?_)
 clear hK K
 refine zN 11 ?_
 refine zU 9 12 HT_ ?_
 refine zU 10 13 HT_ ?_
 refine zU 11 2 HT_ ?_
 refine done_ (done_of HT_.out zq17) ?_
 try go_wp2
 go_ret
 exact ⟨zq3, by repeat (first | (with_reducible first | exact HB.out | apply below_alloc | apply pw_below_drewN | apply below_drew1 | refine below_set ?_ GE456.out) | exact HB.out)⟩
/-! ### spec_IsLeast: function 39 -/
def spec_IsLeast.f (k : Nat) (a0_0 : Int) (l0_1 : List Int) : Option (Bool × Bool) := (spec_laGood.f k a0_0 l0_1).bind fun t464 => (if t464 = true then ((spec_lsLeast.f k a0_0 l0_1).bind fun t465 => (some (t465, true))) else (some (false, false)))
theorem spec_IsLeast.mono : ∀ a0 a1 k, LeO (spec_IsLeast.f k a0 a1) (spec_IsLeast.f (k + 1) a0 a1) := by
 intro a0 a1 k
 unfold spec_IsLeast.f
 repeat' first | (with_reducible first | exact spec_laGood.mono _ _ _ | exact spec_lsLeast.mono _ _ _ | exact LeO.refl _ | exact LeO.none _ | refine LeO.ite ?_ ?_ | refine LeO.bind ?_ (fun _ => ?_))
set_option maxHeartbeats 8000000 in
set_option maxRecDepth 100000 in
theorem spec_IsLeast.calls (k : Nat) (a0_0 : Int) (A0_1 : Option Addr) (c0_1 : Nat) (l0_1 : List Int) (r1 : Bool) (r2 : Bool) (w : World) (hr0_1 : Kd.C (Kd.int .i64) w A0_1 l0_1.length l0_1) (hc0_1 : l0_1.length ≤ c0_1) (h : spec_IsLeast.f k a0_0 l0_1 = some (r1, r2)) :
  Calls Try.prog 39 #[.agg #[.int .i64 a0_0, .slice A0_1 l0_1.length c0_1]] w fun e w' => e = .returned (.tuple #[.bool r1, .bool r2]) ∧ Below w.heap.size w w' := by
 have hu40 := Try.underlying40
 have HR0_1 := Aside0.mk hr0_1
 have HC0_1 := Aside0.mk hc0_1
 clear hr0_1 hc0_1
 have HB := Aside0.mk (Below.refl w.heap.size w)
 have H : ((spec_laGood.f k a0_0 l0_1).bind fun t464 => (if t464 = true then ((spec_lsLeast.f k a0_0 l0_1).bind fun t465 => (some (t465, true))) else (some (false, false)))) = some (r1, r2) := h
 clear h
 replace H := Option.bind_eq_some_iff.mp H
 obtain ⟨t464, A20, H⟩ := H
 replace H : (if t464 = true then ((spec_lsLeast.f k a0_0 l0_1).bind fun t465 => (some (t465, true))) else (some (false, false))) = some (r1, r2) := H
 have A2 := Aside0.mk A20
 clear A20
 by_cases c3 : t464 = true
 ·subst c3
  have H1 : ((spec_lsLeast.f k a0_0 l0_1).bind fun t465 => (some (t465, true))) = some (r1, r2) := by rw [if_pos rfl] at H; exact H
  clear H
  have H := H1
  clear H1
  replace H := Option.bind_eq_some_iff.mp H
  obtain ⟨t465, A40, H⟩ := H
  replace H : (some (t465, true)) = some (r1, r2) := H
  have A4 := Aside0.mk A40
  clear A40
  simp only [Option.some.injEq, Prod.mk.injEq] at H
  obtain ⟨rfl, rfl⟩ := H
  go_enter Try.func39, Try.ntmps39
  go_wp2_with (first | ((with_reducible refine gate_dst (N := 1) rfl ?_); refine box_event ?hg (N := 1) ?hd (cs := #[.int .i64 a0_0, .slice A0_1 l0_1.length c0_1]) (t := 40) ?hr ?_; (case hd => rfl); (case hg => rfl); (case hr => exact zq16); intro gb463 hg w5 hbox hb; have BK463 := Aside0.mk (hbox); have GW463 := Aside0.mk ((by rw [hg]; exact (below_size (pBq6 HB)) : w.heap.size ≤ gb463)); have GE463 := Aside0.mk ((by rw [hg]; exact (below_size (pBq6 HB)) : w.heap.size ≤ gb463)); replace HB := Aside0.mk (below_step (pBq6 HB) hb); clear hb hbox hg; have hcz6_0 : w5.cell? ⟨gb463, 0, none⟩ = some (.int .i64 a0_0) := (blk_cell BK463.out 0).trans rfl; have hcz6_1 : w5.cell? ⟨gb463, 1, none⟩ = some (.slice A0_1 l0_1.length c0_1) := (blk_cell BK463.out 1).trans rfl; have hfz6_0 := blk_frozen BK463.out 0; have hfz6_1 := blk_frozen BK463.out 1) | ((with_reducible refine gate_callee (f := 93) rfl ?_); refine goesL_ (some 5) rfl rfl Try.func93 zq17 rfl #[.agg #[.int .i64 a0_0, .slice A0_1 l0_1.length c0_1]] rfl zq0 ?_; (with_reducible refine (spec_laGood.calls k a0_0 _ _ l0_1 true _ ?side1 ?side2 A2.out).mono ?_); (case side1 => exact zq7); (case side2 => exact zq83); rintro e w7 ⟨rfl, hb⟩; refine ⟨_, rfl, ?_⟩; replace BK463 := Aside0.mk (blk_below (pKq6 BK463) hb); replace HB := Aside0.mk (below_step (pBq6 HB) hb); (try clear hb); have hcz8_0 : w7.cell? ⟨gb463, 0, none⟩ = some (.int .i64 a0_0) := (blk_cell BK463.out 0).trans rfl; have hcz8_1 : w7.cell? ⟨gb463, 1, none⟩ = some (.slice A0_1 l0_1.length c0_1) := (blk_cell BK463.out 1).trans rfl; have hfz8_0 := blk_frozen BK463.out 0; have hfz8_1 := blk_frozen BK463.out 1) | ((with_reducible refine gate_callee (f := 94) rfl ?_); refine goesL_ (some 8) rfl rfl Try.func94 zq17 rfl #[.agg #[.int .i64 a0_0, .slice A0_1 l0_1.length c0_1]] rfl zq0 ?_; (with_reducible refine (spec_lsLeast.calls k a0_0 _ _ l0_1 t465 _ ?side1 ?side2 A4.out).mono ?_); (case side1 => exact zq7); (case side2 => exact zq83); rintro e w9 ⟨rfl, hb⟩; refine ⟨_, rfl, ?_⟩; replace BK463 := Aside0.mk (blk_below (pKq6 BK463) hb); replace HB := Aside0.mk (below_step (pBq6 HB) hb); (try clear hb)))
  go_ret2
  exact ⟨zq3, zq86⟩
 ·replace c3 := Bool.eq_false_iff.mpr c3
  subst c3
  have H1 : (some (false, false)) = some (r1, r2) := by rw [if_neg (show ¬ (false = true) by decide)] at H; exact H
  clear H
  have H := H1
  clear H1
  simp only [Option.some.injEq, Prod.mk.injEq] at H
  obtain ⟨rfl, rfl⟩ := H
  go_enter Try.func39, Try.ntmps39
  go_wp2_with (first | ((with_reducible refine gate_dst (N := 1) rfl ?_); refine box_event ?hg (N := 1) ?hd (cs := #[.int .i64 a0_0, .slice A0_1 l0_1.length c0_1]) (t := 40) ?hr ?_; (case hd => rfl); (case hg => rfl); (case hr => exact zq16); intro gb463 hg w10 hbox hb; have BK463 := Aside0.mk (hbox); have GW463 := Aside0.mk ((by rw [hg]; exact (below_size (pBq6 HB)) : w.heap.size ≤ gb463)); have GE463 := Aside0.mk ((by rw [hg]; exact (below_size (pBq6 HB)) : w.heap.size ≤ gb463)); replace HB := Aside0.mk (below_step (pBq6 HB) hb); clear hb hbox hg; have hcz11_0 : w10.cell? ⟨gb463, 0, none⟩ = some (.int .i64 a0_0) := (blk_cell BK463.out 0).trans rfl; have hcz11_1 : w10.cell? ⟨gb463, 1, none⟩ = some (.slice A0_1 l0_1.length c0_1) := (blk_cell BK463.out 1).trans rfl; have hfz11_0 := blk_frozen BK463.out 0; have hfz11_1 := blk_frozen BK463.out 1) | ((with_reducible refine gate_callee (f := 93) rfl ?_); refine goesL_ (some 5) rfl rfl Try.func93 zq17 rfl #[.agg #[.int .i64 a0_0, .slice A0_1 l0_1.length c0_1]] rfl zq0 ?_; (with_reducible refine (spec_laGood.calls k a0_0 _ _ l0_1 false _ ?side1 ?side2 A2.out).mono ?_); (case side1 => exact zq7); (case side2 => exact zq83); rintro e w12 ⟨rfl, hb⟩; refine ⟨_, rfl, ?_⟩; replace BK463 := Aside0.mk (blk_below (pKq6 BK463) hb); replace HB := Aside0.mk (below_step (pBq6 HB) hb); (try clear hb)))
  go_ret2
  exact ⟨zq3, zq86⟩
/-! ### impl_MeetTwice: function 40 -/
mutual
def impl_MeetTwice.l0 : Nat → Int → Int → Int → List Int → Option (List Int × Bool)
 | 0, _, _, _, _ => none
 | k + 1, x12, x13, x467000, x467001 => if x13 < x12 then (impl_MeetTwice.l1 k x13 (wrap64 (x13 + 1)) x12 x13 x467000 x467001) else (some (([] : List Int), false))
def impl_MeetTwice.l1 : Nat → Int → Int → Int → Int → Int → List Int → Option (List Int × Bool)
 | 0, _, _, _, _, _, _ => none
 | k + 1, x4, x5, x12, x13, x467000, x467001 => if x5 < x467000 then ((impl_MeetingsOf.f k x467000 x467001 x4 x5).bind fun bt468 => (if bt468.1 > 1 then (some ((([x4, x5] : List Int)), true)) else (impl_MeetTwice.l1 k x4 (wrap64 (x5 + 1)) x12 x13 x467000 x467001))) else (impl_MeetTwice.l0 k x12 (wrap64 (x13 + 1)) x467000 x467001)
end
def impl_MeetTwice.f (k : Nat) (a0_0 : Int) (l0_1 : List Int) : Option (List Int × Bool) := (impl_isLadder.f a0_0 l0_1).bind fun t467 => (if t467 = true then (impl_MeetTwice.l0 k a0_0 0 a0_0 l0_1) else (some (([] : List Int), false)))
theorem impl_MeetTwice.mono_l : ∀ k, (∀ y0 y1 y2 y3, LeO (impl_MeetTwice.l0 k y0 y1 y2 y3) (impl_MeetTwice.l0 (k + 1) y0 y1 y2 y3)) ∧ (∀ y0 y1 y2 y3 y4 y5, LeO (impl_MeetTwice.l1 k y0 y1 y2 y3 y4 y5) (impl_MeetTwice.l1 (k + 1) y0 y1 y2 y3 y4 y5))
 | 0 => ⟨fun _ _ _ _ r h => by simp [impl_MeetTwice.l0] at h, fun _ _ _ _ _ _ r h => by simp [impl_MeetTwice.l1] at h⟩
 | k + 1 => by
  obtain ⟨ih0, ih1⟩ := impl_MeetTwice.mono_l k
  refine ⟨?_, ?_⟩
  ·intro y0 y1 y2 y3
   unfold impl_MeetTwice.l0
   repeat' first | (with_reducible first | exact ih0 _ _ _ _ | exact ih1 _ _ _ _ _ _ | exact impl_MeetingsOf.mono _ _ _ _ _ | exact LeO.refl _ | exact LeO.none _ | refine LeO.ite ?_ ?_ | refine LeO.bind ?_ (fun _ => ?_))
  ·intro y0 y1 y2 y3 y4 y5
   unfold impl_MeetTwice.l1
   repeat' first | (with_reducible first | exact ih0 _ _ _ _ | exact ih1 _ _ _ _ _ _ | exact impl_MeetingsOf.mono _ _ _ _ _ | exact LeO.refl _ | exact LeO.none _ | refine LeO.ite ?_ ?_ | refine LeO.bind ?_ (fun _ => ?_))
theorem impl_MeetTwice.mono : ∀ a0 a1 k, LeO (impl_MeetTwice.f k a0 a1) (impl_MeetTwice.f (k + 1) a0 a1) := by
 intro a0 a1 k
 obtain ⟨ih0, ih1⟩ := impl_MeetTwice.mono_l k
 unfold impl_MeetTwice.f
 repeat' first | (with_reducible first | exact ih0 _ _ _ _ | exact ih1 _ _ _ _ _ _ | exact impl_MeetingsOf.mono _ _ _ _ _ | exact LeO.refl _ | exact LeO.none _ | refine LeO.ite ?_ ?_ | refine LeO.bind ?_ (fun _ => ?_))
set_option maxHeartbeats 8000000 in
set_option maxRecDepth 100000 in
theorem impl_MeetTwice.calls (k : Nat) (a0_0 : Int) (A0_1 : Option Addr) (c0_1 : Nat) (l0_1 : List Int) (r1 : List Int) (r2 : Bool) (w : World) (hr0_1 : Kd.C (Kd.int .i64) w A0_1 l0_1.length l0_1) (hc0_1 : l0_1.length ≤ c0_1) (h : impl_MeetTwice.f k a0_0 l0_1 = some (r1, r2)) :
  Calls Try.prog 40 #[.agg #[.int .i64 a0_0, .slice A0_1 l0_1.length c0_1]] w fun e w' => ∃ v0_ : Value, e = .returned (.tuple #[v0_, .bool r2]) ∧ Kd.R (Kd.int .i64) 3 w' w.heap.size (fun _ => True) v0_ r1 ∧ Below w.heap.size w w' := by
 have hu40 := Try.underlying40
 have HR0_1 := Aside0.mk hr0_1
 have HC0_1 := Aside0.mk hc0_1
 clear hr0_1 hc0_1
 have HB := Aside0.mk (Below.refl w.heap.size w)
 have H : ((impl_isLadder.f a0_0 l0_1).bind fun t467 => (if t467 = true then (impl_MeetTwice.l0 k a0_0 0 a0_0 l0_1) else (some (([] : List Int), false)))) = some (r1, r2) := h
 clear h
 replace H := Option.bind_eq_some_iff.mp H
 obtain ⟨t467, A20, H⟩ := H
 replace H : (if t467 = true then (impl_MeetTwice.l0 k a0_0 0 a0_0 l0_1) else (some (([] : List Int), false))) = some (r1, r2) := H
 have A2 := Aside0.mk A20
 clear A20
 by_cases c3 : t467 = true
 ·subst c3
  have H1 : (impl_MeetTwice.l0 k a0_0 0 a0_0 l0_1) = some (r1, r2) := by rw [if_pos rfl] at H; exact H
  clear H
  have H := H1
  clear H1
  have H' := Aside0.mk H
  clear H
  go_enter Try.func40, Try.ntmps40
  go_wp2_with (first | ((with_reducible refine gate_dst (N := 1) rfl ?_); refine box_event ?hg (N := 1) ?hd (cs := #[.int .i64 a0_0, .slice A0_1 l0_1.length c0_1]) (t := 40) ?hr ?_; (case hd => rfl); (case hg => rfl); (case hr => exact zq16); intro gb466 hg w4 hbox hb; have BK466 := Aside0.mk (hbox); have GW466 := Aside0.mk ((by rw [hg]; exact (below_size (pBq6 HB)) : w.heap.size ≤ gb466)); have GE466 := Aside0.mk ((by rw [hg]; exact (below_size (pBq6 HB)) : w.heap.size ≤ gb466)); replace HB := Aside0.mk (below_step (pBq6 HB) hb); clear hb hbox hg; have hcz5_0 : w4.cell? ⟨gb466, 0, none⟩ = some (.int .i64 a0_0) := (blk_cell BK466.out 0).trans rfl; have hcz5_1 : w4.cell? ⟨gb466, 1, none⟩ = some (.slice A0_1 l0_1.length c0_1) := (blk_cell BK466.out 1).trans rfl; have hfz5_0 := blk_frozen BK466.out 0; have hfz5_1 := blk_frozen BK466.out 1) | ((with_reducible refine gate_callee (f := 87) rfl ?_); refine goesL_ (some 9) rfl rfl Try.func87 zq17 rfl #[.agg #[.int .i64 a0_0, .slice A0_1 l0_1.length c0_1]] rfl zq0 ?_; (with_reducible refine (impl_isLadder.calls a0_0 _ _ l0_1 true _ ?side1 ?side2 A2.out).mono ?_); (case side1 => exact zq7); (case side2 => exact zq83); rintro e w6 ⟨rfl, hb⟩; refine ⟨_, rfl, ?_⟩; replace BK466 := Aside0.mk (blk_below (pKq6 BK466) hb); replace HB := Aside0.mk (below_step (pBq6 HB) hb); (try clear hb); have hcz7_0 : w6.cell? ⟨gb466, 0, none⟩ = some (.int .i64 a0_0) := (blk_cell BK466.out 0).trans rfl; have hcz7_1 : w6.cell? ⟨gb466, 1, none⟩ = some (.slice A0_1 l0_1.length c0_1) := (blk_cell BK466.out 1).trans rfl; have hfz7_0 := blk_frozen BK466.out 0; have hfz7_1 := blk_frozen BK466.out 1))
  go_loopg [13] k (fun kq v13 w' => ∃ (x13_1 : Int), v13 = .int .i64 x13_1 ∧ Aside0 (impl_MeetTwice.l0 kq a0_0 x13_1 a0_0 l0_1 = some (r1, r2)) ∧ Aside0 (kq ≤ k) ∧ Aside0 (w'.heap[gb466]? = some (.cells #[.int .i64 a0_0, (.slice A0_1 l0_1.length c0_1)] 40 (0, 0))) ∧ Aside0 (Below w.heap.size w w'))
  case atStart => exact ⟨(0), zq8, H', ⟨Nat.le_refl _⟩, ⟨zq54⟩, ⟨zq31⟩⟩
  case round =>
   clear H'
   try clear p2
   try clear c3
   try clear c4
   try clear hcz5_0
   try clear hcz5_1
   try clear hcz7_0
   try clear hcz7_1
   try clear hfz5_0
   try clear hfz5_1
   try clear hfz7_0
   try clear hfz7_1
   obtain ⟨x13_1, rfl, HA, HK1, BK466, HB⟩ := hrel
   cases gk with
   | zero => exact absurd HA.out (by simp [impl_MeetTwice.l0])
   | succ k1 =>
    have H := HA.out
    clear HA
    simp only [impl_MeetTwice.l0] at H
    by_cases c8 : x13_1 < a0_0
    ·rw [if_pos c8] at H
     have c8b0 : decide (x13_1 < a0_0) = true := decide_eq_true c8
     clear c8
     have H' := Aside0.mk H
     clear H
     go_wp2
     go_loopg [5] k1 (fun kq v5 w' => ∃ (x5_2 : Int), v5 = .int .i64 x5_2 ∧ Aside0 (impl_MeetTwice.l1 kq x13_1 x5_2 a0_0 x13_1 a0_0 l0_1 = some (r1, r2)) ∧ Aside0 (kq ≤ k1) ∧ Aside0 (w'.heap[gb466]? = some (.cells #[.int .i64 a0_0, (.slice A0_1 l0_1.length c0_1)] 40 (0, 0))) ∧ Aside0 (Below w.heap.size w w'))
     case atStart => exact ⟨(wrap64 (x13_1 + 1)), zq8, H', ⟨Nat.le_refl _⟩, ⟨zq54⟩, ⟨zq31⟩⟩
     case round =>
      clear H'
      try clear p2
      try clear c3
      try clear c4
      try clear p6
      try clear c8
      try clear c8b0
      try clear hcz5_0
      try clear hcz5_1
      try clear hcz7_0
      try clear hcz7_1
      try clear hfz5_0
      try clear hfz5_1
      try clear hfz7_0
      try clear hfz7_1
      try clear p2
      obtain ⟨x5_2, rfl, HA, HK2, BK466, HB⟩ := hrel
      cases gk with
      | zero => exact absurd HA.out (by simp [impl_MeetTwice.l1])
      | succ k2 =>
       have H := HA.out
       clear HA
       simp only [impl_MeetTwice.l1] at H
       by_cases c9 : x5_2 < a0_0
       ·rw [if_pos c9] at H
        have c9b0 : decide (x5_2 < a0_0) = true := decide_eq_true c9
        clear c9
        replace H := Option.bind_eq_some_iff.mp H
        obtain ⟨⟨t468, t469⟩, A100, H⟩ := H
        replace H : (if t468 > 1 then (some ((([x13_1, x5_2] : List Int)), true)) else (impl_MeetTwice.l1 k2 x13_1 (wrap64 (x5_2 + 1)) a0_0 x13_1 a0_0 l0_1)) = some (r1, r2) := H
        have A10 := Aside0.mk A100
        clear A100
        by_cases c11 : t468 > 1
        ·rw [if_pos c11] at H
         have c11b0 : decide (1 < t468) = true := decide_eq_true c11
         clear c11
         obtain ⟨y470, hy470⟩ : ∃ y_ : List Int, y_ = (([x13_1, x5_2] : List Int)) := ⟨_, rfl⟩
         replace H : (some (y470, true)) = some (r1, r2) := by first | (rw [hy470]; with_reducible exact H) | (have H2_ := (Option.bind_some _ _).symm.trans H; rw [hy470]; with_reducible exact H2_) | (have H2_ := (Option.bind_some _ _).symm.trans H; with_reducible exact H2_) | with_reducible exact H | (rw [hy470]; exact H) | exact H
         have Ny470 := Aside0.mk hy470
         clear hy470
         simp only [Option.some.injEq, Prod.mk.injEq] at H
         obtain ⟨rfl, rfl⟩ := H
         have hcz12_0 : wr.cell? ⟨gb466, 0, none⟩ = some (.int .i64 a0_0) := (blk_cell BK466.out 0).trans rfl
         have hcz12_1 : wr.cell? ⟨gb466, 1, none⟩ = some (.slice A0_1 l0_1.length c0_1) := (blk_cell BK466.out 1).trans rfl
         have hfz12_0 := blk_frozen BK466.out 0
         have hfz12_1 := blk_frozen BK466.out 1
         go_wp2_with (first | ((with_reducible refine gate_callee (f := 37) rfl ?_); refine goesL_ (some 28) rfl rfl Try.func37 zq17 rfl #[.agg #[.int .i64 a0_0, .slice A0_1 l0_1.length c0_1], .int .i64 x13_1, .int .i64 x5_2] rfl zq0 ?_; (with_reducible refine (impl_MeetingsOf.calls k2 a0_0 _ _ l0_1 x13_1 x5_2 t468 t469 _ ?side1 ?side2 A10.out).mono ?_); (case side1 => exact zq7); (case side2 => exact zq83); rintro e w13 ⟨rfl, hb⟩; refine ⟨_, rfl, ?_⟩; replace BK466 := Aside0.mk (blk_below (pKq6 BK466) hb); replace HB := Aside0.mk (below_step (pBq6 HB) hb); (try clear hb)) | ((with_reducible refine gate_dst (N := 35) rfl ?_); refine Kd.R_lit (Kd.int .i64) _ 3 ?hg (N := 35) ?hd (xs := ([x13_1, x5_2] : List Int)) (inner := [.int .i64 x13_1, .int .i64 x5_2]) (ok := fun _ => True) (okp := fun _ => True) ?hr ?hp (fun _ hk => hk) trivial (Below.refl _ _) (Nat.le_refl _) zq41 ?_; (case hd => rfl); (case hg => rfl); (case hr => exact zq16); (case hp => exact (Reps.one (show Kd.M (Kd.int .i64) _ _ _ x13_1 [.int .i64 x13_1] from rfl) (Reps.one (show Kd.M (Kd.int .i64) _ _ _ x5_2 [.int .i64 x5_2] from rfl) (Reps.none _ _)))); intro v471 w14 ho15 hb hg_ hnew_; clear hg_ hnew_; (first | rw [← Ny470.out] at ho15 | (simp only [Int.reduceToNat] at ho15; rw [← Ny470.out] at ho15)); have HO472 := Aside0.mk (Kd.R_lower ho15 (below_size (pBq6 HB))); replace BK466 := Aside0.mk (blk_below (pKq6 BK466) hb); replace HB := Aside0.mk (below_step (pBq6 HB) hb); clear hb ho15))
         go_ret2
         exact ⟨_, zq3, by (with_reducible repeat (first | apply Kd.R_alloc | apply Kd.R_drewN | apply Kd.R_drew)); exact HO472.out, zq31⟩
        ·rw [if_neg c11] at H
         have c11b0 : decide (1 < t468) = false := decide_eq_false c11
         clear c11
         have H' := Aside0.mk H
         clear H
         have hcz16_0 : wr.cell? ⟨gb466, 0, none⟩ = some (.int .i64 a0_0) := (blk_cell BK466.out 0).trans rfl
         have hcz16_1 : wr.cell? ⟨gb466, 1, none⟩ = some (.slice A0_1 l0_1.length c0_1) := (blk_cell BK466.out 1).trans rfl
         have hfz16_0 := blk_frozen BK466.out 0
         have hfz16_1 := blk_frozen BK466.out 1
         go_wp2_with (first | ((with_reducible refine gate_callee (f := 37) rfl ?_); refine goesL_ (some 28) rfl rfl Try.func37 zq17 rfl #[.agg #[.int .i64 a0_0, .slice A0_1 l0_1.length c0_1], .int .i64 x13_1, .int .i64 x5_2] rfl zq0 ?_; (with_reducible refine (impl_MeetingsOf.calls k2 a0_0 _ _ l0_1 x13_1 x5_2 t468 t469 _ ?side1 ?side2 A10.out).mono ?_); (case side1 => exact zq7); (case side2 => exact zq83); rintro e w17 ⟨rfl, hb⟩; refine ⟨_, rfl, ?_⟩; replace BK466 := Aside0.mk (blk_below (pKq6 BK466) hb); replace HB := Aside0.mk (below_step (pBq6 HB) hb); (try clear hb)))
         go_roundg k2
         case measure => have := HK1.out; have := HK2.out; omega
         case rel => exact ⟨(wrap64 (x5_2 + 1)), zq8, H', ⟨zq55⟩, ⟨zq54⟩, ⟨zq31⟩⟩
       ·rw [if_neg c9] at H
        have c9b0 : decide (x5_2 < a0_0) = false := decide_eq_false c9
        clear c9
        have H' := Aside0.mk H
        clear H
        have hcz18_0 : wr.cell? ⟨gb466, 0, none⟩ = some (.int .i64 a0_0) := (blk_cell BK466.out 0).trans rfl
        have hcz18_1 : wr.cell? ⟨gb466, 1, none⟩ = some (.slice A0_1 l0_1.length c0_1) := (blk_cell BK466.out 1).trans rfl
        have hfz18_0 := blk_frozen BK466.out 0
        have hfz18_1 := blk_frozen BK466.out 1
        go_wp2
        go_roundg k2
        case measure => have := HK1.out; have := HK2.out; omega
        case rel => exact ⟨(wrap64 (x13_1 + 1)), zq8, H', ⟨zq55⟩, ⟨zq54⟩, ⟨zq31⟩⟩
    ·rw [if_neg c8] at H
     have c8b0 : decide (x13_1 < a0_0) = false := decide_eq_false c8
     clear c8
     simp only [Option.some.injEq, Prod.mk.injEq] at H
     obtain ⟨rfl, rfl⟩ := H
     go_wp2
     go_ret2
     exact ⟨_, zq3, zq15, zq31⟩
 ·replace c3 := Bool.eq_false_iff.mpr c3
  subst c3
  have H1 : (some (([] : List Int), false)) = some (r1, r2) := by rw [if_neg (show ¬ (false = true) by decide)] at H; exact H
  clear H
  have H := H1
  clear H1
  simp only [Option.some.injEq, Prod.mk.injEq] at H
  obtain ⟨rfl, rfl⟩ := H
  go_enter Try.func40, Try.ntmps40
  go_wp2_with (first | ((with_reducible refine gate_dst (N := 1) rfl ?_); refine box_event ?hg (N := 1) ?hd (cs := #[.int .i64 a0_0, .slice A0_1 l0_1.length c0_1]) (t := 40) ?hr ?_; (case hd => rfl); (case hg => rfl); (case hr => exact zq16); intro gb466 hg w19 hbox hb; have BK466 := Aside0.mk (hbox); have GW466 := Aside0.mk ((by rw [hg]; exact (below_size (pBq6 HB)) : w.heap.size ≤ gb466)); have GE466 := Aside0.mk ((by rw [hg]; exact (below_size (pBq6 HB)) : w.heap.size ≤ gb466)); replace HB := Aside0.mk (below_step (pBq6 HB) hb); clear hb hbox hg; have hcz20_0 : w19.cell? ⟨gb466, 0, none⟩ = some (.int .i64 a0_0) := (blk_cell BK466.out 0).trans rfl; have hcz20_1 : w19.cell? ⟨gb466, 1, none⟩ = some (.slice A0_1 l0_1.length c0_1) := (blk_cell BK466.out 1).trans rfl; have hfz20_0 := blk_frozen BK466.out 0; have hfz20_1 := blk_frozen BK466.out 1) | ((with_reducible refine gate_callee (f := 87) rfl ?_); refine goesL_ (some 9) rfl rfl Try.func87 zq17 rfl #[.agg #[.int .i64 a0_0, .slice A0_1 l0_1.length c0_1]] rfl zq0 ?_; (with_reducible refine (impl_isLadder.calls a0_0 _ _ l0_1 false _ ?side1 ?side2 A2.out).mono ?_); (case side1 => exact zq7); (case side2 => exact zq83); rintro e w21 ⟨rfl, hb⟩; refine ⟨_, rfl, ?_⟩; replace BK466 := Aside0.mk (blk_below (pKq6 BK466) hb); replace HB := Aside0.mk (below_step (pBq6 HB) hb); (try clear hb)))
  go_ret2
  exact ⟨_, zq3, zq15, zq31⟩
/-! ### spec_laMeet: function 95 -/
def spec_laMeet.l0 : Nat → Int → Int → Int → List Int → Int → Int → Option (Int)
 | 0, _, _, _, _, _, _ => none
 | k + 1, x1, x2, x7, x12, x13, x14 => if x14 < x13 then (if 0 ≤ x14 then (if x14 < (x12.length : Int) then ((spec_laOver.f x1 (rd x12 x14)).bind fun t474 => ((spec_laOver.f x2 (rd x12 x14)).bind fun t475 => (if t474 = x2 then (if t475 = x1 then (spec_laMeet.l0 k t474 t475 (wrap64 (x7 + 1)) x12 x13 (wrap64 (x14 + 1))) else (spec_laMeet.l0 k t474 t475 x7 x12 x13 (wrap64 (x14 + 1)))) else (spec_laMeet.l0 k t474 t475 x7 x12 x13 (wrap64 (x14 + 1)))))) else (none)) else (none)) else (some x7)
def spec_laMeet.f (k : Nat) (l0 : List Int) (a1 : Int) (a2 : Int) : Option (Int) := spec_laMeet.l0 k a1 a2 0 l0 (l0.length : Int) 0
theorem spec_laMeet.mono_l : ∀ k, (∀ y0 y1 y2 y3 y4 y5, LeO (spec_laMeet.l0 k y0 y1 y2 y3 y4 y5) (spec_laMeet.l0 (k + 1) y0 y1 y2 y3 y4 y5))
 | 0 => fun _ _ _ _ _ _ r h => by simp [spec_laMeet.l0] at h
 | k + 1 => by
  have ih0 := spec_laMeet.mono_l k
  ·intro y0 y1 y2 y3 y4 y5
   unfold spec_laMeet.l0
   repeat' first | (with_reducible first | exact ih0 _ _ _ _ _ _ | exact LeO.refl _ | exact LeO.none _ | refine LeO.ite ?_ ?_ | refine LeO.bind ?_ (fun _ => ?_))
theorem spec_laMeet.mono : ∀ a0 a1 a2 k, LeO (spec_laMeet.f k a0 a1 a2) (spec_laMeet.f (k + 1) a0 a1 a2) := by
 intro a0 a1 a2 k
 have ih0 := spec_laMeet.mono_l k
 unfold spec_laMeet.f
 repeat' first | (with_reducible first | exact ih0 _ _ _ _ _ _ | exact LeO.refl _ | exact LeO.none _ | refine LeO.ite ?_ ?_ | refine LeO.bind ?_ (fun _ => ?_))
set_option maxHeartbeats 8000000 in
set_option maxRecDepth 100000 in
theorem spec_laMeet.calls (k : Nat) (A0 : Option Addr) (c0 : Nat) (l0 : List Int) (a1 : Int) (a2 : Int) (r : Int) (w : World) (hr0 : Kd.C (Kd.int .i64) w A0 l0.length l0) (hc0 : l0.length ≤ c0) (h : spec_laMeet.f k l0 a1 a2 = some r) :
  Calls Try.prog 95 #[.slice A0 l0.length c0, .int .i64 a1, .int .i64 a2] w fun e w' => e = .returned (.int .i64 r) ∧ Drawn0 w w' := by
 have HR0 := Aside0.mk hr0
 have HC0 := Aside0.mk hc0
 clear hr0 hc0
 have H : (spec_laMeet.l0 k a1 a2 0 l0 (l0.length : Int) 0) = some r := h
 clear h
 have H' := Aside0.mk H
 clear H
 go_enter Try.func95, Try.ntmps95
 go_wp2
 go_loopg [1, 2, 7, 14] k (fun kq v1 v2 v7 v14 w' => ∃ (x1_1 : Int) (x2_1 : Int) (x7_1 : Int) (x14_1 : Int), v1 = .int .i64 x1_1 ∧ v2 = .int .i64 x2_1 ∧ v7 = .int .i64 x7_1 ∧ v14 = .int .i64 x14_1 ∧ Aside0 (spec_laMeet.l0 kq x1_1 x2_1 x7_1 l0 (l0.length : Int) x14_1 = some r) ∧ Aside0 (kq ≤ k) ∧ Drawn0 w w')
 case atStart => exact ⟨(a1), (a2), (0), (0), zq8, zq8, zq8, zq8, H', ⟨Nat.le_refl _⟩, zq12⟩
 case round =>
  clear H'
  try clear p2
  obtain ⟨x1_1, x2_1, x7_1, x14_1, rfl, rfl, rfl, rfl, HA, HK1, ⟨m1, rfl⟩⟩ := hrel
  cases gk with
  | zero => exact absurd HA.out (by simp [spec_laMeet.l0])
  | succ k1 =>
   have H := HA.out
   clear HA
   simp only [spec_laMeet.l0] at H
   by_cases c4 : x14_1 < (l0.length : Int)
   ·rw [if_pos c4] at H
    have c4b0 : decide (x14_1 < (l0.length : Int)) = true := decide_eq_true c4
    clear c4
    by_cases c5 : 0 ≤ x14_1
    ·rw [if_pos c5] at H
     have c5b0 : decide (0 ≤ x14_1) = true := decide_eq_true c5
     clear c5
     by_cases c6 : x14_1 < (l0.length : Int)
     ·rw [if_pos c6] at H
      have c6b0 : decide (x14_1 < (l0.length : Int)) = true := decide_eq_true c6
      clear c6
      replace H := Option.bind_eq_some_iff.mp H
      obtain ⟨t474, A70, H⟩ := H
      replace H : ((spec_laOver.f x2_1 (rd l0 x14_1)).bind fun t475 => (if t474 = x2_1 then (if t475 = x1_1 then (spec_laMeet.l0 k1 t474 t475 (wrap64 (x7_1 + 1)) l0 (l0.length : Int) (wrap64 (x14_1 + 1))) else (spec_laMeet.l0 k1 t474 t475 x7_1 l0 (l0.length : Int) (wrap64 (x14_1 + 1)))) else (spec_laMeet.l0 k1 t474 t475 x7_1 l0 (l0.length : Int) (wrap64 (x14_1 + 1))))) = some r := H
      have A7 := Aside0.mk A70
      clear A70
      replace H := Option.bind_eq_some_iff.mp H
      obtain ⟨t475, A80, H⟩ := H
      replace H : (if t474 = x2_1 then (if t475 = x1_1 then (spec_laMeet.l0 k1 t474 t475 (wrap64 (x7_1 + 1)) l0 (l0.length : Int) (wrap64 (x14_1 + 1))) else (spec_laMeet.l0 k1 t474 t475 x7_1 l0 (l0.length : Int) (wrap64 (x14_1 + 1)))) else (spec_laMeet.l0 k1 t474 t475 x7_1 l0 (l0.length : Int) (wrap64 (x14_1 + 1)))) = some r := H
      have A8 := Aside0.mk A80
      clear A80
      by_cases c9 : t474 = x2_1
      ·rw [if_pos c9] at H
       have c9b0 : (t474 == x2_1) = true := beq_iff_eq.mpr c9
       have c9b1 : (t474 != x2_1) = false := bne_eq_false_iff_eq.mpr c9
       clear c9
       by_cases c10 : t475 = x1_1
       ·rw [if_pos c10] at H
        have c10b0 : (t475 == x1_1) = true := beq_iff_eq.mpr c10
        have c10b1 : (t475 != x1_1) = false := bne_eq_false_iff_eq.mpr c10
        clear c10
        have H' := Aside0.mk H
        clear H
        have p473 : 0 ≤ (x14_1 : Int) := of_decide_eq_true zq2
        have q473 : x14_1 < (l0.length : Int) := of_decide_eq_true zq2
        obtain ⟨ad473, e473, hx473_0⟩ := Kd.at_int HR0.out x14_1 p473 q473
        cases e473
        replace p473 := eq_true p473
        replace q473 := eq_true q473
        go_wp2_with (first | ((with_reducible refine gate_callee (f := 120) rfl ?_); refine goesL_ (some 20) rfl rfl Try.func120 zq17 rfl #[.int .i64 x1_1, .int .i64 (rd l0 x14_1)] rfl zq0 ?_; (with_reducible refine (spec_laOver.calls x1_1 (rd l0 x14_1) t474 _ A7.out).mono ?_); rintro e w' ⟨rfl, ⟨nd, rfl⟩⟩; refine ⟨_, rfl, ?_⟩) | ((with_reducible refine gate_callee (f := 120) rfl ?_); refine goesL_ (some 23) rfl rfl Try.func120 zq17 rfl #[.int .i64 x2_1, .int .i64 (rd l0 x14_1)] rfl zq0 ?_; (with_reducible refine (spec_laOver.calls x2_1 (rd l0 x14_1) t475 _ A8.out).mono ?_); rintro e w' ⟨rfl, ⟨nd, rfl⟩⟩; refine ⟨_, rfl, ?_⟩))
        go_roundg k1
        case measure => have := HK1.out; omega
        case rel => exact ⟨(t474), (t475), (wrap64 (x7_1 + 1)), (wrap64 (x14_1 + 1)), zq8, zq8, zq8, zq8, H', ⟨zq44⟩, zq12⟩
       ·rw [if_neg c10] at H
        have c10b0 : (t475 == x1_1) = false := beq_eq_false_iff_ne.mpr c10
        have c10b1 : (t475 != x1_1) = true := bne_iff_ne.mpr c10
        have H' := Aside0.mk H
        clear H
        have p473 : 0 ≤ (x14_1 : Int) := of_decide_eq_true zq2
        have q473 : x14_1 < (l0.length : Int) := of_decide_eq_true zq2
        obtain ⟨ad473, e473, hx473_0⟩ := Kd.at_int HR0.out x14_1 p473 q473
        cases e473
        replace p473 := eq_true p473
        replace q473 := eq_true q473
        go_wp2_with (first | ((with_reducible refine gate_callee (f := 120) rfl ?_); refine goesL_ (some 20) rfl rfl Try.func120 zq17 rfl #[.int .i64 x1_1, .int .i64 (rd l0 x14_1)] rfl zq0 ?_; (with_reducible refine (spec_laOver.calls x1_1 (rd l0 x14_1) t474 _ A7.out).mono ?_); rintro e w' ⟨rfl, ⟨nd, rfl⟩⟩; refine ⟨_, rfl, ?_⟩) | ((with_reducible refine gate_callee (f := 120) rfl ?_); refine goesL_ (some 23) rfl rfl Try.func120 zq17 rfl #[.int .i64 x2_1, .int .i64 (rd l0 x14_1)] rfl zq0 ?_; (with_reducible refine (spec_laOver.calls x2_1 (rd l0 x14_1) t475 _ A8.out).mono ?_); rintro e w' ⟨rfl, ⟨nd, rfl⟩⟩; refine ⟨_, rfl, ?_⟩))
        go_roundg k1
        case measure => have := HK1.out; omega
        case rel => exact ⟨(t474), (t475), (x7_1), (wrap64 (x14_1 + 1)), zq8, zq8, zq8, zq8, H', ⟨zq44⟩, zq12⟩
      ·rw [if_neg c9] at H
       have c9b0 : (t474 == x2_1) = false := beq_eq_false_iff_ne.mpr c9
       have c9b1 : (t474 != x2_1) = true := bne_iff_ne.mpr c9
       have H' := Aside0.mk H
       clear H
       have p473 : 0 ≤ (x14_1 : Int) := of_decide_eq_true zq2
       have q473 : x14_1 < (l0.length : Int) := of_decide_eq_true zq2
       obtain ⟨ad473, e473, hx473_0⟩ := Kd.at_int HR0.out x14_1 p473 q473
       cases e473
       replace p473 := eq_true p473
       replace q473 := eq_true q473
       go_wp2_with (first | ((with_reducible refine gate_callee (f := 120) rfl ?_); refine goesL_ (some 20) rfl rfl Try.func120 zq17 rfl #[.int .i64 x1_1, .int .i64 (rd l0 x14_1)] rfl zq0 ?_; (with_reducible refine (spec_laOver.calls x1_1 (rd l0 x14_1) t474 _ A7.out).mono ?_); rintro e w' ⟨rfl, ⟨nd, rfl⟩⟩; refine ⟨_, rfl, ?_⟩) | ((with_reducible refine gate_callee (f := 120) rfl ?_); refine goesL_ (some 23) rfl rfl Try.func120 zq17 rfl #[.int .i64 x2_1, .int .i64 (rd l0 x14_1)] rfl zq0 ?_; (with_reducible refine (spec_laOver.calls x2_1 (rd l0 x14_1) t475 _ A8.out).mono ?_); rintro e w' ⟨rfl, ⟨nd, rfl⟩⟩; refine ⟨_, rfl, ?_⟩))
       go_roundg k1
       case measure => have := HK1.out; omega
       case rel => exact ⟨(t474), (t475), (x7_1), (wrap64 (x14_1 + 1)), zq8, zq8, zq8, zq8, H', ⟨zq44⟩, zq12⟩
     ·rw [if_neg c6] at H
      exact absurd H zq41
    ·rw [if_neg c5] at H
     exact absurd H zq41
   ·rw [if_neg c4] at H
    have c4b0 : decide (x14_1 < (l0.length : Int)) = false := decide_eq_false c4
    clear c4
    obtain rfl := Option.some.inj H
    go_wp2
    go_ret
    exact ⟨zq8, zq12⟩
end
end Go.Proofs.Ytaheijeojbimeaa.PLl
