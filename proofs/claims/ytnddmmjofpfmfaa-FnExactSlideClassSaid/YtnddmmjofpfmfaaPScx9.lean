-- Written for this claim by a program of this session (myprint.py) over the kit's printer.
import Derived.Test.YtnddmmjofpfmfaaPScx0
import Derived.Test.YtnddmmjofpfmfaaPScx1
import Derived.Test.YtnddmmjofpfmfaaPScx2
import Derived.Test.YtnddmmjofpfmfaaPScx3
import Derived.Test.YtnddmmjofpfmfaaPScx5
import Derived.Test.YtnddmmjofpfmfaaPScx6
import Derived.Test.YtnddmmjofpfmfaaPScx8
namespace Go.Proofs.Ytnddmmjofpfmfaa.PSc
noncomputable section
open Go.RowKit Go.Proofs.YtnddmmjofpfmfaaW.PrintWords Go.Proofs.YtnddmmjofpfmfaaW.PrintLast Go.Proofs.YtnddmmjofpfmfaaW.PrintMore
attribute [local go_sem] max2_int min2_int max_two min_two max_three min_three max_four min_four   -- for this text's walks alone
set_option linter.unusedVariables false
set_option linter.unusedSimpArgs false

/-! ### laws_FnExactSlideClass: function 7 -/
mutual
def laws_FnExactSlideClass.j0 : Nat → List (S31) → Bool → List (S31) → Bool → Bool → Int → List Int → Int → List Int → Option (Bool)
  | 0, _, _, _, _, _, _, _, _, _ => none
  | k + 1, x4, x5, x7, x8, x40, x210000, x210001, x224000, x224001 => if x40 = true then (some false) else ((laws_toLadder.f k x210000 x210001).bind fun bt229 => ((laws_eqLadder.f k x224000 x224001 bt229.1 bt229.2).bind fun t233 => (if t233 = true then ((laws_markLadder.f k x224000 x224001 1).bind fun bt234 => (if bt234.1 < 0 then (laws_FnExactSlideClass.j1 k x4 x5 x7 true x210000 x210001) else ((laws_eqLadderS.f k x7 x4).bind fun t236 => (if t236 = true then (laws_FnExactSlideClass.j1 k x4 x5 x7 (x8 != x5) x210000 x210001) else (laws_FnExactSlideClass.j1 k x4 x5 x7 true x210000 x210001))))) else (some false))))
def laws_FnExactSlideClass.j1 : Nat → List (S31) → Bool → List (S31) → Bool → Int → List Int → Option (Bool)
  | 0, _, _, _, _, _, _ => none
  | k + 1, x4, x5, x7, x61, x210000, x210001 => if x61 = true then (some false) else ((laws_markLadderS.f k x7 1).bind fun bt237 => ((laws_heldLadderS.f k bt237.2 1).bind fun t239 => (if t239 < 0 then (some false) else (if t239 = bt237.1 then ((laws_toLadder.f k x210000 x210001).bind fun bt240 => ((impl_SlideClass.f bt240.1 bt240.2).bind fun bt244 => ((laws_eqLadderS.f k bt244.1 x4).bind fun t248 => (if t248 = true then (laws_FnExactSlideClass.j2 k bt237.2 bt237.1 (bt244.2 != x5)) else (laws_FnExactSlideClass.j2 k bt237.2 bt237.1 true))))) else (some false)))))
def laws_FnExactSlideClass.j2 : Nat → List (S31) → Int → Bool → Option (Bool)
  | 0, _, _, _ => none
  | k + 1, x7, x10, x87 => if x87 = true then (some false) else ((laws_heldLadderS.f k x7 1).bind fun t249 => (if t249 < 0 then (some false) else (if t249 = x10 then (some true) else (some false))))
end
def laws_FnExactSlideClass.f (k : Nat) (a0_0 : Int) (l0_1 : List Int) : Option (Bool) := (laws_szLadder.f a0_0 l0_1 1048576).bind fun t210 => (if t210 < 0 then (some true) else ((laws_toLadder.f k a0_0 l0_1).bind fun bt211 => ((spec_SlideClass.f k bt211.1 bt211.2).bind fun bt215 => ((laws_toLadder.f k a0_0 l0_1).bind fun bt219 => ((impl_SlideClass.f bt219.1 bt219.2).bind fun bt224 => ((laws_eqLadderS.f k bt224.1 bt215.1).bind fun t228 => (if t228 = true then (laws_FnExactSlideClass.j0 k bt215.1 bt215.2 bt224.1 bt224.2 (bt224.2 != bt215.2) a0_0 l0_1 bt219.1 bt219.2) else (laws_FnExactSlideClass.j0 k bt215.1 bt215.2 bt224.1 bt224.2 true a0_0 l0_1 bt219.1 bt219.2))))))))
theorem laws_FnExactSlideClass.mono_l : ∀ k, (∀ y0 y1 y2 y3 y4 y5 y6 y7 y8, LeO (laws_FnExactSlideClass.j0 k y0 y1 y2 y3 y4 y5 y6 y7 y8) (laws_FnExactSlideClass.j0 (k + 1) y0 y1 y2 y3 y4 y5 y6 y7 y8)) ∧ (∀ y0 y1 y2 y3 y4 y5, LeO (laws_FnExactSlideClass.j1 k y0 y1 y2 y3 y4 y5) (laws_FnExactSlideClass.j1 (k + 1) y0 y1 y2 y3 y4 y5)) ∧ (∀ y0 y1 y2, LeO (laws_FnExactSlideClass.j2 k y0 y1 y2) (laws_FnExactSlideClass.j2 (k + 1) y0 y1 y2))
  | 0 => ⟨fun _ _ _ _ _ _ _ _ _ r h => by simp [laws_FnExactSlideClass.j0] at h, fun _ _ _ _ _ _ r h => by simp [laws_FnExactSlideClass.j1] at h, fun _ _ _ r h => by simp [laws_FnExactSlideClass.j2] at h⟩
  | k + 1 => by
    obtain ⟨ih0, ih1, ih2⟩ := laws_FnExactSlideClass.mono_l k
    refine ⟨?_, ?_, ?_⟩
    · intro y0 y1 y2 y3 y4 y5 y6 y7 y8
      unfold laws_FnExactSlideClass.j0
      repeat' first
      | (with_reducible exact ih0 _ _ _ _ _ _ _ _ _)
      | (with_reducible exact ih1 _ _ _ _ _ _)
      | (with_reducible exact ih2 _ _ _)
      | (with_reducible exact laws_eqLadder.mono _ _ _ _ _)
      | (with_reducible exact laws_eqLadderS.mono _ _ _)
      | (with_reducible exact laws_heldLadderS.mono _ _ _)
      | (with_reducible exact laws_markLadder.mono _ _ _ _)
      | (with_reducible exact laws_markLadderS.mono _ _ _)
      | (with_reducible exact laws_toLadder.mono _ _ _)
      | (with_reducible exact spec_SlideClass.mono _ _ _)
      | (with_reducible exact LeO.refl _)
      | (with_reducible exact LeO.none _)
      | (with_reducible refine LeO.ite ?_ ?_)
      | (with_reducible refine LeO.bind ?_ (fun _ => ?_))
      | exact ih0 _ _ _ _ _ _ _ _ _
      | exact ih1 _ _ _ _ _ _
      | exact ih2 _ _ _
      | exact laws_eqLadder.mono _ _ _ _ _
      | exact laws_eqLadderS.mono _ _ _
      | exact laws_heldLadderS.mono _ _ _
      | exact laws_markLadder.mono _ _ _ _
      | exact laws_markLadderS.mono _ _ _
      | exact laws_toLadder.mono _ _ _
      | exact spec_SlideClass.mono _ _ _
      | exact LeO.none _
      | refine LeO.ite ?_ ?_
      | refine LeO.bind ?_ (fun _ => ?_)
    · intro y0 y1 y2 y3 y4 y5
      unfold laws_FnExactSlideClass.j1
      repeat' first
      | (with_reducible exact ih0 _ _ _ _ _ _ _ _ _)
      | (with_reducible exact ih1 _ _ _ _ _ _)
      | (with_reducible exact ih2 _ _ _)
      | (with_reducible exact laws_eqLadder.mono _ _ _ _ _)
      | (with_reducible exact laws_eqLadderS.mono _ _ _)
      | (with_reducible exact laws_heldLadderS.mono _ _ _)
      | (with_reducible exact laws_markLadder.mono _ _ _ _)
      | (with_reducible exact laws_markLadderS.mono _ _ _)
      | (with_reducible exact laws_toLadder.mono _ _ _)
      | (with_reducible exact spec_SlideClass.mono _ _ _)
      | (with_reducible exact LeO.refl _)
      | (with_reducible exact LeO.none _)
      | (with_reducible refine LeO.ite ?_ ?_)
      | (with_reducible refine LeO.bind ?_ (fun _ => ?_))
      | exact ih0 _ _ _ _ _ _ _ _ _
      | exact ih1 _ _ _ _ _ _
      | exact ih2 _ _ _
      | exact laws_eqLadder.mono _ _ _ _ _
      | exact laws_eqLadderS.mono _ _ _
      | exact laws_heldLadderS.mono _ _ _
      | exact laws_markLadder.mono _ _ _ _
      | exact laws_markLadderS.mono _ _ _
      | exact laws_toLadder.mono _ _ _
      | exact spec_SlideClass.mono _ _ _
      | exact LeO.none _
      | refine LeO.ite ?_ ?_
      | refine LeO.bind ?_ (fun _ => ?_)
    · intro y0 y1 y2
      unfold laws_FnExactSlideClass.j2
      repeat' first
      | (with_reducible exact ih0 _ _ _ _ _ _ _ _ _)
      | (with_reducible exact ih1 _ _ _ _ _ _)
      | (with_reducible exact ih2 _ _ _)
      | (with_reducible exact laws_eqLadder.mono _ _ _ _ _)
      | (with_reducible exact laws_eqLadderS.mono _ _ _)
      | (with_reducible exact laws_heldLadderS.mono _ _ _)
      | (with_reducible exact laws_markLadder.mono _ _ _ _)
      | (with_reducible exact laws_markLadderS.mono _ _ _)
      | (with_reducible exact laws_toLadder.mono _ _ _)
      | (with_reducible exact spec_SlideClass.mono _ _ _)
      | (with_reducible exact LeO.refl _)
      | (with_reducible exact LeO.none _)
      | (with_reducible refine LeO.ite ?_ ?_)
      | (with_reducible refine LeO.bind ?_ (fun _ => ?_))
      | exact ih0 _ _ _ _ _ _ _ _ _
      | exact ih1 _ _ _ _ _ _
      | exact ih2 _ _ _
      | exact laws_eqLadder.mono _ _ _ _ _
      | exact laws_eqLadderS.mono _ _ _
      | exact laws_heldLadderS.mono _ _ _
      | exact laws_markLadder.mono _ _ _ _
      | exact laws_markLadderS.mono _ _ _
      | exact laws_toLadder.mono _ _ _
      | exact spec_SlideClass.mono _ _ _
      | exact LeO.none _
      | refine LeO.ite ?_ ?_
      | refine LeO.bind ?_ (fun _ => ?_)
theorem laws_FnExactSlideClass.mono : ∀ a0 a1 k, LeO (laws_FnExactSlideClass.f k a0 a1) (laws_FnExactSlideClass.f (k + 1) a0 a1) := by
  intro a0 a1 k
  obtain ⟨ih0, ih1, ih2⟩ := laws_FnExactSlideClass.mono_l k
  unfold laws_FnExactSlideClass.f
  repeat' first
      | (with_reducible exact ih0 _ _ _ _ _ _ _ _ _)
      | (with_reducible exact ih1 _ _ _ _ _ _)
      | (with_reducible exact ih2 _ _ _)
      | (with_reducible exact laws_eqLadder.mono _ _ _ _ _)
      | (with_reducible exact laws_eqLadderS.mono _ _ _)
      | (with_reducible exact laws_heldLadderS.mono _ _ _)
      | (with_reducible exact laws_markLadder.mono _ _ _ _)
      | (with_reducible exact laws_markLadderS.mono _ _ _)
      | (with_reducible exact laws_toLadder.mono _ _ _)
      | (with_reducible exact spec_SlideClass.mono _ _ _)
      | (with_reducible exact LeO.refl _)
      | (with_reducible exact LeO.none _)
      | (with_reducible refine LeO.ite ?_ ?_)
      | (with_reducible refine LeO.bind ?_ (fun _ => ?_))
      | exact ih0 _ _ _ _ _ _ _ _ _
      | exact ih1 _ _ _ _ _ _
      | exact ih2 _ _ _
      | exact laws_eqLadder.mono _ _ _ _ _
      | exact laws_eqLadderS.mono _ _ _
      | exact laws_heldLadderS.mono _ _ _
      | exact laws_markLadder.mono _ _ _ _
      | exact laws_markLadderS.mono _ _ _
      | exact laws_toLadder.mono _ _ _
      | exact spec_SlideClass.mono _ _ _
      | exact LeO.none _
      | refine LeO.ite ?_ ?_
      | refine LeO.bind ?_ (fun _ => ?_)
set_option maxHeartbeats 8000000 in
set_option maxRecDepth 100000 in
theorem laws_FnExactSlideClass.calls (k : Nat) (a0_0 : Int) (A0_1 : Option Addr) (c0_1 : Nat) (l0_1 : List Int) (w : World) (hr0_1 : Kd.C (Kd.int .i64) w A0_1 l0_1.length l0_1) (hc0_1 : l0_1.length ≤ c0_1) (h : laws_FnExactSlideClass.f k a0_0 l0_1 = some true) :
    Calls Try.prog 7 #[.agg #[.int .i64 a0_0, .slice A0_1 l0_1.length c0_1]] w fun e w' => e = .returned (.bool true) ∧ Below w.heap.size w w' := by
  have HR0 := Aside0.mk hr0_1
  have HC0 := Aside0.mk hc0_1
  clear hr0_1 hc0_1
  have hu44 := Try.underlying44
  have hu31 := Try.underlying31
  have HB := Aside0.mk (Below.refl w.heap.size w)
  have tok0 := Aside0.mk True.intro
  unfold laws_FnExactSlideClass.f at h
  replace h := Option.bind_eq_some_iff.1 h
  obtain ⟨z0, a0, h⟩ := h
  have A0 := Aside0.mk a0
  clear a0
  by_cases c2 : z0 < 0
  · have c2b0 : decide (z0 < 0) = true := decide_eq_true c2
    clear c2 h
    go_enter Try.func7, Try.ntmps7
    go_wp2_with (first | (go_at_call 28; have tk_ := tok0; clear tk_ tok0; (with_reducible refine (laws_szLadder.calls a0_0 _ _ l0_1 _ z0 _ ?side1 ?side2 A0.out).mono ?_); (case side1 => (repeat (first | exact (Kd.C_below HR0.out HB.out) | (with_reducible refine Kd.C_alloc ?_ _) | (with_reducible refine Kd.C_drewN ?_ _) | (with_reducible refine Kd.C_drew ?_)))); (case side2 => exact HC0.out); rintro e w1 ⟨rfl, hb⟩; have BA := Aside0.mk (blk_below (blk_new w (.cells #[.int .i64 a0_0, .slice A0_1 l0_1.length c0_1] 44 (0, 0))) hb); have n0_ := Aside0.mk (below_step (by repeat (first | (with_reducible first | exact HB.out | apply below_alloc | apply pw_below_drewN | apply below_drew1) | exact HB.out)) hb); clear HB; have HB := n0_; clear n0_; (try clear hcA0 hcA1); have hcA0 : w1.cell? ⟨w.heap.size, 0, none⟩ = some (.int .i64 a0_0) := (blk_cell BA.out 0).trans rfl; have hcA1 : w1.cell? ⟨w.heap.size, 1, none⟩ = some (.slice A0_1 l0_1.length c0_1) := (blk_cell BA.out 1).trans rfl; clear hb; have tok1 := Aside0.mk True.intro))
    go_ret
    exact ⟨by first | rfl | (simp; done) | (simp [*]; done), HB.out⟩
  · have c2b0 : decide (z0 < 0) = false := decide_eq_false c2
    rw [if_neg c2] at h
    clear c2
    replace h := Option.bind_eq_some_iff.1 h
    obtain ⟨⟨n1, t0⟩, a1, h⟩ := h
    replace h := Option.bind_eq_some_iff.1 h
    obtain ⟨⟨s, sb⟩, a2, h⟩ := h
    replace h := Option.bind_eq_some_iff.1 h
    obtain ⟨⟨n2, t1⟩, a3, h⟩ := h
    obtain ⟨rfl, rfl⟩ : n1 = n2 ∧ t0 = t1 := Prod.mk.inj (Option.some.inj (a1.symm.trans a3))
    replace h := Option.bind_eq_some_iff.1 h
    obtain ⟨⟨g, gb⟩, a4, h⟩ := h
    replace h := Option.bind_eq_some_iff.1 h
    obtain ⟨e1, a5, h⟩ := h
    replace h : (if e1 = true then laws_FnExactSlideClass.j0 k s sb g gb (gb != sb) a0_0 l0_1 n1 t0 else laws_FnExactSlideClass.j0 k s sb g gb true a0_0 l0_1 n1 t0) = some true := h
    cases k with
    | zero => exfalso; cases e1 <;> simp [laws_FnExactSlideClass.j0] at h
    | succ k1 =>
    cases e1 with
    | false => exfalso; simp [laws_FnExactSlideClass.j0] at h
    | true =>
    rw [if_pos rfl] at h
    simp only [laws_FnExactSlideClass.j0] at h
    by_cases b1 : (gb != sb) = true
    · rw [if_pos b1] at h; cases h
    rw [if_neg b1] at h
    obtain rfl : gb = sb := by simpa using b1
    clear b1
    replace h := Option.bind_eq_some_iff.1 h
    obtain ⟨⟨n3, t2⟩, a6, h⟩ := h
    replace h := Option.bind_eq_some_iff.1 h
    obtain ⟨e2, a7, h⟩ := h
    cases e2 with
    | false => exfalso; simp at h
    | true =>
    rw [if_pos rfl] at h
    replace h := Option.bind_eq_some_iff.1 h
    obtain ⟨⟨kx, x'⟩, a8, h⟩ := h
    dsimp only at h
    by_cases b2 : kx < 0
    · exfalso; rw [if_pos b2] at h; cases k1 <;> simp [laws_FnExactSlideClass.j1] at h
    rw [if_neg b2] at h
    replace h := Option.bind_eq_some_iff.1 h
    obtain ⟨e3, a9, h⟩ := h
    cases k1 with
    | zero => exfalso; cases e3 <;> simp [laws_FnExactSlideClass.j1] at h
    | succ k2 =>
    cases e3 with
    | false => exfalso; simp [laws_FnExactSlideClass.j1] at h
    | true =>
    rw [if_pos rfl] at h
    simp only [laws_FnExactSlideClass.j1] at h
    rw [if_neg (by simp)] at h
    replace h := Option.bind_eq_some_iff.1 h
    obtain ⟨⟨m, g'⟩, a10, h⟩ := h
    replace h := Option.bind_eq_some_iff.1 h
    obtain ⟨q, a11, h⟩ := h
    by_cases b3 : q < 0
    · exfalso; rw [if_pos b3] at h; cases h
    rw [if_neg b3] at h
    by_cases b4 : q = m
    · rw [if_pos b4] at h
      subst b4
      replace h := Option.bind_eq_some_iff.1 h
      obtain ⟨⟨n4, t3⟩, a12, h⟩ := h
      replace h := Option.bind_eq_some_iff.1 h
      obtain ⟨⟨hh, hb⟩, a13, h⟩ := h
      replace h := Option.bind_eq_some_iff.1 h
      obtain ⟨e4, a14, h⟩ := h
      replace h : (if e4 = true then laws_FnExactSlideClass.j2 k2 g' q (hb != gb) else laws_FnExactSlideClass.j2 k2 g' q true) = some true := h
      cases k2 with
      | zero => exfalso; cases e4 <;> simp [laws_FnExactSlideClass.j2] at h
      | succ k3 =>
      cases e4 with
      | false => exfalso; simp [laws_FnExactSlideClass.j2] at h
      | true =>
      rw [if_pos rfl] at h
      simp only [laws_FnExactSlideClass.j2] at h
      by_cases b5 : (hb != gb) = true
      · rw [if_pos b5] at h; cases h
      rw [if_neg b5] at h
      obtain rfl : hb = gb := by simpa using b5
      clear b5
      replace h := Option.bind_eq_some_iff.1 h
      obtain ⟨q2, a15, h⟩ := h
      by_cases b6 : q2 < 0
      · exfalso; rw [if_pos b6] at h; cases h
      rw [if_neg b6] at h
      have b7 : q2 = q := by
        by_cases b7 : q2 = q
        · exact b7
        · exfalso; rw [if_neg b7] at h; cases h
      subst b7
      clear h
      have c3b0 : decide (kx < 0) = false := decide_eq_false b2
      have c4b0 : decide (q2 < 0) = false := decide_eq_false b3
      clear b2 b3 b6
      have A1 := Aside0.mk a1
      have A2 := Aside0.mk a2
      have A3 := Aside0.mk a3
      have A4 := Aside0.mk a4
      have A5 := Aside0.mk a5
      have A6 := Aside0.mk a6
      have A7 := Aside0.mk a7
      have A8 := Aside0.mk a8
      have A9 := Aside0.mk a9
      have A10 := Aside0.mk a10
      have A11 := Aside0.mk a11
      have A12 := Aside0.mk a12
      have A13 := Aside0.mk a13
      have A14 := Aside0.mk a14
      have A15 := Aside0.mk a15
      clear a1 a2 a3 a4 a5 a6 a7 a8 a9 a10 a11 a12 a13 a14 a15
      go_enter Try.func7, Try.ntmps7
      go_upto_region 8 with (first | (go_at_call 28; have tk_ := tok0; clear tk_ tok0; (with_reducible refine (laws_szLadder.calls a0_0 _ _ l0_1 _ z0 _ ?side1 ?side2 A0.out).mono ?_); (case side1 => (repeat (first | exact (Kd.C_below HR0.out HB.out) | (with_reducible refine Kd.C_alloc ?_ _) | (with_reducible refine Kd.C_drewN ?_ _) | (with_reducible refine Kd.C_drew ?_)))); (case side2 => exact HC0.out); rintro e w1 ⟨rfl, hb⟩; have BA := Aside0.mk (blk_below (blk_new w (.cells #[.int .i64 a0_0, .slice A0_1 l0_1.length c0_1] 44 (0, 0))) hb); have n0_ := Aside0.mk (below_step (by repeat (first | (with_reducible first | exact HB.out | apply below_alloc | apply pw_below_drewN | apply below_drew1) | exact HB.out)) hb); clear HB; have HB := n0_; clear n0_; (try clear hcA0 hcA1); have hcA0 : w1.cell? ⟨w.heap.size, 0, none⟩ = some (.int .i64 a0_0) := (blk_cell BA.out 0).trans rfl; have hcA1 : w1.cell? ⟨w.heap.size, 1, none⟩ = some (.slice A0_1 l0_1.length c0_1) := (blk_cell BA.out 1).trans rfl; clear hb; have tok1 := Aside0.mk True.intro) | (go_at_call 30; have tk_ := tok1; clear tk_ tok1; (with_reducible refine (laws_toLadder.calls _ a0_0 _ _ l0_1 n1 t0 _ ?side1 ?side2 A1.out).mono ?_); (case side1 => (repeat (first | exact (Kd.C_below HR0.out HB.out) | (with_reducible refine Kd.C_alloc ?_ _) | (with_reducible refine Kd.C_drewN ?_ _) | (with_reducible refine Kd.C_drew ?_)))); (case side2 => exact HC0.out); rintro e w1 ⟨v_, rfl, ho, hb⟩; have n0_ := Aside0.mk ho; have n1_ := Aside0.mk (blk_below (by (with_reducible repeat (first | refine blk_drewN ?_ _ | refine blk_drew ?_ | refine blk_alloc ?_ _)); exact BA.out) hb); have n2_ := Aside0.mk (below_step (by repeat (first | (with_reducible first | exact HB.out | apply below_alloc | apply pw_below_drewN | apply below_drew1) | exact HB.out)) hb); clear BA HB; have HT := n0_; clear n0_; have BA := n1_; clear n1_; have HB := n2_; clear n2_; obtain ⟨A_HT, c_HT, e_HT⟩ := Kd.R_slice HT.out; subst e_HT; (try clear hcA0 hcA1); have hcA0 : w1.cell? ⟨w.heap.size, 0, none⟩ = some (.int .i64 a0_0) := (blk_cell BA.out 0).trans rfl; have hcA1 : w1.cell? ⟨w.heap.size, 1, none⟩ = some (.slice A0_1 l0_1.length c0_1) := (blk_cell BA.out 1).trans rfl; clear ho hb; have tok2 := Aside0.mk True.intro) | (go_at_call 29; have tk_ := tok2; clear tk_ tok2; (with_reducible refine (spec_SlideClass.calls _ n1 _ _ t0 s _ _ ?side1 ?side2 A2.out).mono ?_); (case side1 => (repeat (first | exact (Kd.R_reads' HT.out).2.2 | (with_reducible refine Kd.C_alloc ?_ _) | (with_reducible refine Kd.C_drewN ?_ _) | (with_reducible refine Kd.C_drew ?_)))); (case side2 => exact (Kd.R_reads' HT.out).2.1); rintro e w2 ⟨v_, rfl, ho, hb⟩; have n0_ := Aside0.mk (blk_below (by (with_reducible repeat (first | refine blk_drewN ?_ _ | refine blk_drew ?_ | refine blk_alloc ?_ _)); exact BA.out) hb); have n1_ := Aside0.mk (below_step (by repeat (first | (with_reducible first | exact HB.out | apply below_alloc | apply pw_below_drewN | apply below_drew1) | exact HB.out)) hb); clear BA HB; have BA := n0_; clear n0_; have HB := n1_; clear n1_; obtain ⟨A_HW, c_HW, e_HW⟩ := Kd.N_slice ho; subst e_HW; have HW := Aside0.mk (Kd.N_reads' ho).2.2; have HWc := Aside0.mk (Kd.N_reads' ho).2.1; have HU := Aside0.mk (Below.refl w2.heap.size w2); (try clear hcA0 hcA1); have hcA0 : w2.cell? ⟨w.heap.size, 0, none⟩ = some (.int .i64 a0_0) := (blk_cell BA.out 0).trans rfl; have hcA1 : w2.cell? ⟨w.heap.size, 1, none⟩ = some (.slice A0_1 l0_1.length c0_1) := (blk_cell BA.out 1).trans rfl; clear ho hb HT; have tok3 := Aside0.mk True.intro) | (go_at_call 30; have tk_ := tok3; clear tk_ tok3; (with_reducible refine (laws_toLadder.calls _ a0_0 _ _ l0_1 n1 t0 _ ?side1 ?side2 A3.out).mono ?_); (case side1 => (repeat (first | exact (Kd.C_below HR0.out (below_step HB.out HU.out)) | (with_reducible refine Kd.C_alloc ?_ _) | (with_reducible refine Kd.C_drewN ?_ _) | (with_reducible refine Kd.C_drew ?_)))); (case side2 => exact HC0.out); rintro e w3 ⟨v_, rfl, ho, hb⟩; have n0_ := Aside0.mk (Kd.R_lower ho (below_size (by repeat (first | (with_reducible first | exact HU.out | apply below_alloc | apply pw_below_drewN | apply below_drew1) | exact HU.out)))); have n1_ := Aside0.mk (below_step (by repeat (first | (with_reducible first | exact HU.out | apply below_alloc | apply pw_below_drewN | apply below_drew1) | exact HU.out)) hb); clear HU; have HX := n0_; clear n0_; have HU := n1_; clear n1_; obtain ⟨A_HX, c_HX, e_HX⟩ := Kd.R_slice HX.out; subst e_HX; (try clear hcA0 hcA1); have hcA0 : w3.cell? ⟨w.heap.size, 0, none⟩ = some (.int .i64 a0_0) := (blk_cell (blk_below BA.out HU.out) 0).trans rfl; have hcA1 : w3.cell? ⟨w.heap.size, 1, none⟩ = some (.slice A0_1 l0_1.length c0_1) := (blk_cell (blk_below BA.out HU.out) 1).trans rfl; clear ho hb; have tok4 := Aside0.mk True.intro) | (go_at_call 31; have tk_ := tok4; clear tk_ tok4; (with_reducible refine (impl_SlideClass.calls n1 _ _ t0 g _ _ ?side1 ?side2 A4.out).mono ?_); (case side1 => (repeat (first | exact (Kd.R_reads' HX.out).2.2 | (with_reducible refine Kd.C_alloc ?_ _) | (with_reducible refine Kd.C_drewN ?_ _) | (with_reducible refine Kd.C_drew ?_)))); (case side2 => exact (Kd.R_reads' HX.out).2.1); rintro e w4 ⟨v_, rfl, ho, hb⟩; have HXl := Aside0.mk (Kd.R_lt HX.out); have HG := Aside0.mk ho; have HWl := Aside0.mk (below_size (by repeat (first | (with_reducible first | exact HU.out | apply below_alloc | apply pw_below_drewN | apply below_drew1) | exact HU.out))); have BX := Aside0.mk (blk_below (blk_new w3 (.cells #[.int .i64 n1, .slice A_HX t0.length c_HX] 31 (0, 0))) hb); have n0_ := Aside0.mk (Kd.R_below (Kd.R_alloc HX.out _) hb); have n1_ := Aside0.mk (below_step (by repeat (first | (with_reducible first | exact HU.out | apply below_alloc | apply pw_below_drewN | apply below_drew1) | exact HU.out)) hb); clear HX HU; have HX := n0_; clear n0_; have HU := n1_; clear n1_; obtain ⟨A_HG, c_HG, e_HG⟩ := Kd.S_slice HG.out; subst e_HG; obtain ⟨gx, hgx⟩ : ∃ g_, g_ = w3.heap.size := ⟨_, rfl⟩; rw [← hgx] at BX ⊢; have NX := Aside0.mk hgx; clear hgx; (try clear hcA0 hcA1); have hcA0 : w4.cell? ⟨w.heap.size, 0, none⟩ = some (.int .i64 a0_0) := (blk_cell (blk_below BA.out HU.out) 0).trans rfl; have hcA1 : w4.cell? ⟨w.heap.size, 1, none⟩ = some (.slice A0_1 l0_1.length c0_1) := (blk_cell (blk_below BA.out HU.out) 1).trans rfl; (try clear hcX0 hcX1); have hcX0 : w4.cell? ⟨gx, 0, none⟩ = some (.int .i64 n1) := (blk_cell BX.out 0).trans rfl; have hcX1 : w4.cell? ⟨gx, 1, none⟩ = some (.slice A_HX t0.length c_HX) := (blk_cell BX.out 1).trans rfl; clear ho hb; have tok5 := Aside0.mk True.intro))
      (try simp only [Act.put, List.setIfInBounds_toArray, List.set_cons_zero, List.set_cons_succ])
      go_cut [40] (fun v wc => v = .bool false ∧ Aside0 (Kd.R (Kd.int .i64) 3 wc w2.heap.size (fun _ => True) (.slice A_HX t0.length c_HX) t0) ∧ Aside0 (Kd.S k31 31 wc (w3.alloc (.cells #[.int .i64 n1, .slice A_HX t0.length c_HX] 31 (0, 0))).heap.size (fun _ => True) (.slice A_HG g.length c_HG) g) ∧ Aside0 (wc.heap[gx]? = some (.cells #[.int .i64 n1, .slice A_HX t0.length c_HX] 31 (0, 0))) ∧ Aside0 (Below w2.heap.size w2 wc))
      case first =>
        go_wp2_with (first | (go_at_call 25; have tk_ := tok5; clear tk_ tok5; (with_reducible refine (laws_eqLadderS.calls _ _ _ g _ _ s true _ ?side1 ?side2 ?side3 ?side4 A5.out).mono ?_); (case side1 => (repeat (first | exact (Kd.S_reads' HG.out).2.2 | (with_reducible refine Kd.C_alloc ?_ _) | (with_reducible refine Kd.C_drewN ?_ _) | (with_reducible refine Kd.C_drew ?_)))); (case side2 => exact (Kd.S_reads' HG.out).2.1); (case side3 => (repeat (first | exact (Kd.C_below HW.out HU.out) | (with_reducible refine Kd.C_alloc ?_ _) | (with_reducible refine Kd.C_drewN ?_ _) | (with_reducible refine Kd.C_drew ?_)))); (case side4 => exact HWc.out); rintro e w5 ⟨rfl, hb⟩; have n0_ := Aside0.mk (Kd.R_below (by (with_reducible repeat (first | apply Kd.R_alloc | apply Kd.R_drewN | apply Kd.R_drew)); exact HX.out) hb); have n1_ := Aside0.mk (Kd.S_below (by (with_reducible repeat (first | apply Kd.S_alloc | apply Kd.S_drewN | apply Kd.S_drew)); exact HG.out) hb); have n2_ := Aside0.mk (blk_below (by (with_reducible repeat (first | refine blk_drewN ?_ _ | refine blk_drew ?_ | refine blk_alloc ?_ _)); exact BX.out) hb); have n3_ := Aside0.mk (below_step (by repeat (first | (with_reducible first | exact HU.out | apply below_alloc | apply pw_below_drewN | apply below_drew1) | exact HU.out)) hb); clear HX HG BX HU; have HX := n0_; clear n0_; have HG := n1_; clear n1_; have BX := n2_; clear n2_; have HU := n3_; clear n3_; (try clear hcA0 hcA1); have hcA0 : w5.cell? ⟨w.heap.size, 0, none⟩ = some (.int .i64 a0_0) := (blk_cell (blk_below BA.out HU.out) 0).trans rfl; have hcA1 : w5.cell? ⟨w.heap.size, 1, none⟩ = some (.slice A0_1 l0_1.length c0_1) := (blk_cell (blk_below BA.out HU.out) 1).trans rfl; (try clear hcX0 hcX1); have hcX0 : w5.cell? ⟨gx, 0, none⟩ = some (.int .i64 n1) := (blk_cell BX.out 0).trans rfl; have hcX1 : w5.cell? ⟨gx, 1, none⟩ = some (.slice A_HX t0.length c_HX) := (blk_cell BX.out 1).trans rfl; clear hb; have tok6 := Aside0.mk True.intro))
        go_meet
        case rel => exact ⟨by first | rfl | (simp; done) | (simp [*]; done), ⟨Kd.R_mono (by (with_reducible repeat (first | apply Kd.R_alloc | apply Kd.R_drewN | apply Kd.R_drew)); exact HX.out) (fun _ _ => trivial)⟩, ⟨Kd.S_mono (by (with_reducible repeat (first | apply Kd.S_alloc | apply Kd.S_drewN | apply Kd.S_drew)); exact HG.out) (fun _ _ => trivial)⟩, ⟨(by (with_reducible repeat (first | refine blk_drewN ?_ _ | refine blk_drew ?_ | refine blk_alloc ?_ _)); exact BX.out)⟩, ⟨(by repeat (first | (with_reducible first | exact HU.out | apply below_alloc | apply pw_below_drewN | apply below_drew1) | exact HU.out))⟩⟩
      case rest =>
        clear HX HG BX HU
        (try clear hcA0 hcA1 hcX0 hcX1)
        obtain ⟨rfl, HX, HG, BX, HU⟩ := hcut
        have tok6 := Aside0.mk True.intro
        (try clear hcA0 hcA1)
        have hcA0 : wc.cell? ⟨w.heap.size, 0, none⟩ = some (.int .i64 a0_0) := (blk_cell (blk_below BA.out HU.out) 0).trans rfl
        have hcA1 : wc.cell? ⟨w.heap.size, 1, none⟩ = some (.slice A0_1 l0_1.length c0_1) := (blk_cell (blk_below BA.out HU.out) 1).trans rfl
        (try clear hcX0 hcX1)
        have hcX0 : wc.cell? ⟨gx, 0, none⟩ = some (.int .i64 n1) := (blk_cell BX.out 0).trans rfl
        have hcX1 : wc.cell? ⟨gx, 1, none⟩ = some (.slice A_HX t0.length c_HX) := (blk_cell BX.out 1).trans rfl
        go_upto_region 10 with (fail)
        (try simp only [Act.put, List.setIfInBounds_toArray, List.set_cons_zero, List.set_cons_succ])
        go_region_held3 (fun w' => (w'.cell? ⟨gx, 0, none⟩ = some (.int .i64 n1) ∧ w'.cell? ⟨gx, 1, none⟩ = some (.slice A_HX t0.length c_HX)) ∧ w'.cell? ⟨w.heap.size, 0, none⟩ = some (.int .i64 a0_0) ∧ w'.cell? ⟨w.heap.size, 1, none⟩ = some (.slice A0_1 l0_1.length c0_1)) (exact ⟨⟨hcX0, hcX1⟩, hcA0, hcA1⟩) (first | (go_at_call 30; have tk_ := tok6; clear tk_ tok6; (with_reducible refine (laws_toLadder.calls _ a0_0 _ _ l0_1 n3 t2 _ ?side1 ?side2 A6.out).mono ?_); (case side1 => (repeat (first | exact (Kd.C_below HR0.out (below_step HB.out HU.out)) | (with_reducible refine Kd.C_alloc ?_ _) | (with_reducible refine Kd.C_drewN ?_ _) | (with_reducible refine Kd.C_drew ?_)))); (case side2 => exact HC0.out); rintro e w6 ⟨v_, rfl, ho, hb⟩; have HT := Aside0.mk ho; have n0_ := Aside0.mk (Kd.R_below (by (with_reducible repeat (first | apply Kd.R_alloc | apply Kd.R_drewN | apply Kd.R_drew)); exact HX.out) hb); have n1_ := Aside0.mk (Kd.S_below (by (with_reducible repeat (first | apply Kd.S_alloc | apply Kd.S_drewN | apply Kd.S_drew)); exact HG.out) hb); have n2_ := Aside0.mk (blk_below (by (with_reducible repeat (first | refine blk_drewN ?_ _ | refine blk_drew ?_ | refine blk_alloc ?_ _)); exact BX.out) hb); have n3_ := Aside0.mk (below_step (by repeat (first | (with_reducible first | exact HU.out | apply below_alloc | apply pw_below_drewN | apply below_drew1) | exact HU.out)) hb); clear HX HG BX HU; have HX := n0_; clear n0_; have HG := n1_; clear n1_; have BX := n2_; clear n2_; have HU := n3_; clear n3_; obtain ⟨A_HT, c_HT, e_HT⟩ := Kd.R_slice HT.out; subst e_HT; (try clear hcA0 hcA1); have hcA0 : w6.cell? ⟨w.heap.size, 0, none⟩ = some (.int .i64 a0_0) := (blk_cell (blk_below BA.out HU.out) 0).trans rfl; have hcA1 : w6.cell? ⟨w.heap.size, 1, none⟩ = some (.slice A0_1 l0_1.length c0_1) := (blk_cell (blk_below BA.out HU.out) 1).trans rfl; (try clear hcX0 hcX1); have hcX0 : w6.cell? ⟨gx, 0, none⟩ = some (.int .i64 n1) := (blk_cell BX.out 0).trans rfl; have hcX1 : w6.cell? ⟨gx, 1, none⟩ = some (.slice A_HX t0.length c_HX) := (blk_cell BX.out 1).trans rfl; clear ho hb; have tok7 := Aside0.mk True.intro) | (go_at_call 20; have tk_ := tok7; clear tk_ tok7; (with_reducible refine (laws_eqLadder.calls _ n1 _ _ t0 n3 _ _ t2 true _ ?side1 ?side2 ?side3 ?side4 A7.out).mono ?_); (case side1 => (repeat (first | exact (Kd.R_reads' HX.out).2.2 | (with_reducible refine Kd.C_alloc ?_ _) | (with_reducible refine Kd.C_drewN ?_ _) | (with_reducible refine Kd.C_drew ?_)))); (case side2 => exact (Kd.R_reads' HX.out).2.1); (case side3 => (repeat (first | exact (Kd.R_reads' HT.out).2.2 | (with_reducible refine Kd.C_alloc ?_ _) | (with_reducible refine Kd.C_drewN ?_ _) | (with_reducible refine Kd.C_drew ?_)))); (case side4 => exact (Kd.R_reads' HT.out).2.1); rintro e w7 ⟨rfl, hb⟩; have n0_ := Aside0.mk (Kd.R_below (by (with_reducible repeat (first | apply Kd.R_alloc | apply Kd.R_drewN | apply Kd.R_drew)); exact HX.out) hb); have n1_ := Aside0.mk (Kd.S_below (by (with_reducible repeat (first | apply Kd.S_alloc | apply Kd.S_drewN | apply Kd.S_drew)); exact HG.out) hb); have n2_ := Aside0.mk (blk_below (by (with_reducible repeat (first | refine blk_drewN ?_ _ | refine blk_drew ?_ | refine blk_alloc ?_ _)); exact BX.out) hb); have n3_ := Aside0.mk (below_step (by repeat (first | (with_reducible first | exact HU.out | apply below_alloc | apply pw_below_drewN | apply below_drew1) | exact HU.out)) hb); clear HX HG BX HU; have HX := n0_; clear n0_; have HG := n1_; clear n1_; have BX := n2_; clear n2_; have HU := n3_; clear n3_; (try clear hcA0 hcA1); have hcA0 : w7.cell? ⟨w.heap.size, 0, none⟩ = some (.int .i64 a0_0) := (blk_cell (blk_below BA.out HU.out) 0).trans rfl; have hcA1 : w7.cell? ⟨w.heap.size, 1, none⟩ = some (.slice A0_1 l0_1.length c0_1) := (blk_cell (blk_below BA.out HU.out) 1).trans rfl; (try clear hcX0 hcX1); have hcX0 : w7.cell? ⟨gx, 0, none⟩ = some (.int .i64 n1) := (blk_cell BX.out 0).trans rfl; have hcX1 : w7.cell? ⟨gx, 1, none⟩ = some (.slice A_HX t0.length c_HX) := (blk_cell BX.out 1).trans rfl; clear hb; clear HT; have tok8 := Aside0.mk True.intro))
        go_upto_region 14 with (first | (go_at_call 21; have tk_ := tok8; clear tk_ tok8; (with_reducible refine (laws_markLadder.calls _ n1 (fun k_ => some k_ = (Value.slice A_HX t0.length c_HX).ownBlock) _ t0 _ kx x' w2 _ ?side1 ?side2 A8.out).mono ?_); (case side1 => exact (by repeat (first | (with_reducible first | exact HU.out | apply below_alloc | apply pw_below_drewN | apply below_drew1) | exact HU.out))); (case side2 => exact Kd.R_tight rfl (by (with_reducible repeat (first | apply Kd.R_alloc | apply Kd.R_drewN | apply Kd.R_drew)); exact HX.out)); rintro e w8 ⟨rfl, ho, hb, hk⟩; have n0_ := Aside0.mk (Kd.S_step (Kd.S_bound (by (with_reducible repeat (first | apply Kd.S_alloc | apply Kd.S_drewN | apply Kd.S_drew)); exact HG.out)) (fun k_ h1_ h2_ => hk.2 k_ h2_ (fun h3_ => by have h4_ := HXl.out k_ h3_.symm; have h5_ := h1_.2.1; have h6_ : w3.heap.size ≤ (w3.alloc (.cells #[.int .i64 n1, .slice A_HX t0.length c_HX] 31 (0, 0))).heap.size := (by simp); omega))); have n1_ := Aside0.mk hb; clear HG HU; have HG := n0_; clear n0_; have HU := n1_; clear n1_; clear HX HXl BX hcX0 hcX1 ho hb hk; (try clear hcA0 hcA1); have hcA0 : w8.cell? ⟨w.heap.size, 0, none⟩ = some (.int .i64 a0_0) := (blk_cell (blk_below BA.out HU.out) 0).trans rfl; have hcA1 : w8.cell? ⟨w.heap.size, 1, none⟩ = some (.slice A0_1 l0_1.length c0_1) := (blk_cell (blk_below BA.out HU.out) 1).trans rfl; have tok9 := Aside0.mk True.intro))
        (try simp only [Act.put, List.setIfInBounds_toArray, List.set_cons_zero, List.set_cons_succ])
        go_cut [61] (fun v wc => v = .bool false ∧ Aside0 (Kd.S k31 31 wc (w3.alloc (.cells #[.int .i64 n1, .slice A_HX t0.length c_HX] 31 (0, 0))).heap.size (fun _ => True) (.slice A_HG g.length c_HG) g) ∧ Aside0 (Below w2.heap.size w2 wc))
        case first =>
          go_wp2_with (first | (go_at_call 25; have tk_ := tok9; clear tk_ tok9; (with_reducible refine (laws_eqLadderS.calls _ _ _ g _ _ s true _ ?side1 ?side2 ?side3 ?side4 A9.out).mono ?_); (case side1 => (repeat (first | exact (Kd.S_reads' HG.out).2.2 | (with_reducible refine Kd.C_alloc ?_ _) | (with_reducible refine Kd.C_drewN ?_ _) | (with_reducible refine Kd.C_drew ?_)))); (case side2 => exact (Kd.S_reads' HG.out).2.1); (case side3 => (repeat (first | exact (Kd.C_below HW.out HU.out) | (with_reducible refine Kd.C_alloc ?_ _) | (with_reducible refine Kd.C_drewN ?_ _) | (with_reducible refine Kd.C_drew ?_)))); (case side4 => exact HWc.out); rintro e w9 ⟨rfl, hb⟩; have n0_ := Aside0.mk (Kd.S_below (by (with_reducible repeat (first | apply Kd.S_alloc | apply Kd.S_drewN | apply Kd.S_drew)); exact HG.out) hb); have n1_ := Aside0.mk (below_step (by repeat (first | (with_reducible first | exact HU.out | apply below_alloc | apply pw_below_drewN | apply below_drew1) | exact HU.out)) hb); clear HG HU; have HG := n0_; clear n0_; have HU := n1_; clear n1_; (try clear hcA0 hcA1); have hcA0 : w9.cell? ⟨w.heap.size, 0, none⟩ = some (.int .i64 a0_0) := (blk_cell (blk_below BA.out HU.out) 0).trans rfl; have hcA1 : w9.cell? ⟨w.heap.size, 1, none⟩ = some (.slice A0_1 l0_1.length c0_1) := (blk_cell (blk_below BA.out HU.out) 1).trans rfl; clear hb; have tok10 := Aside0.mk True.intro))
          go_meet
          case rel => exact ⟨by first | rfl | (simp; done) | (simp [*]; done), ⟨Kd.S_mono (by (with_reducible repeat (first | apply Kd.S_alloc | apply Kd.S_drewN | apply Kd.S_drew)); exact HG.out) (fun _ _ => trivial)⟩, ⟨(by repeat (first | (with_reducible first | exact HU.out | apply below_alloc | apply pw_below_drewN | apply below_drew1) | exact HU.out))⟩⟩
        case rest =>
          clear HG HU
          (try clear hcA0 hcA1)
          obtain ⟨rfl, HG, HU⟩ := hcut
          have tok10 := Aside0.mk True.intro
          (try clear hcA0 hcA1)
          have hcA0 : wc.cell? ⟨w.heap.size, 0, none⟩ = some (.int .i64 a0_0) := (blk_cell (blk_below BA.out HU.out) 0).trans rfl
          have hcA1 : wc.cell? ⟨w.heap.size, 1, none⟩ = some (.slice A0_1 l0_1.length c0_1) := (blk_cell (blk_below BA.out HU.out) 1).trans rfl
          go_upto_region 25 with (first | (go_at_call 26; have tk_ := tok10; clear tk_ tok10; (with_reducible refine (laws_markLadderS.calls _ (fun _ => True) _ g _ q2 g' w2 _ ?side1 ?side2 A10.out).mono ?_); (case side1 => exact (by repeat (first | (with_reducible first | exact HU.out | apply below_alloc | apply pw_below_drewN | apply below_drew1) | exact HU.out))); (case side2 => exact Kd.S_mono (Kd.S_lower (by (with_reducible repeat (first | apply Kd.S_alloc | apply Kd.S_drewN | apply Kd.S_drew)); exact HG.out) (by have h4_ := HWl.out; have h6_ : w3.heap.size ≤ (w3.alloc (.cells #[.int .i64 n1, .slice A_HX t0.length c_HX] 31 (0, 0))).heap.size := (by simp); omega)) (fun _ _ => trivial)); rintro e w10 ⟨rfl, ho, hb, hk⟩; have n0_ := Aside0.mk ho; have n1_ := Aside0.mk hb; clear HG HU; have HG := n0_; clear n0_; have HU := n1_; clear n1_; (try clear hcA0 hcA1); have hcA0 : w10.cell? ⟨w.heap.size, 0, none⟩ = some (.int .i64 a0_0) := (blk_cell (blk_below BA.out HU.out) 0).trans rfl; have hcA1 : w10.cell? ⟨w.heap.size, 1, none⟩ = some (.slice A0_1 l0_1.length c0_1) := (blk_cell (blk_below BA.out HU.out) 1).trans rfl; clear ho hb hk; have tok11 := Aside0.mk True.intro) | (go_at_call 27; have tk_ := tok11; clear tk_ tok11; refine calls_of_args (args' := #[.slice A_HG g'.length c_HG, .int .i64 1]) (by rw [(Kd.S_reads' HG.out).1]) ?_; (with_reducible refine (laws_heldLadderS.calls _ _ _ g' _ q2 _ ?side1 ?side2 A11.out).mono ?_); (case side1 => (repeat (first | exact (Kd.S_reads' HG.out).2.2 | (with_reducible refine Kd.C_alloc ?_ _) | (with_reducible refine Kd.C_drewN ?_ _) | (with_reducible refine Kd.C_drew ?_)))); (case side2 => have h_ := Kd.S_reads' HG.out; have h1_ := h_.1; have h2_ := h_.2.1; omega); rintro e w' ⟨rfl, ⟨nd, rfl⟩⟩; have tok12 := Aside0.mk True.intro) | (go_at_call 30; have tk_ := tok12; clear tk_ tok12; (with_reducible refine (laws_toLadder.calls _ a0_0 _ _ l0_1 n4 t3 _ ?side1 ?side2 A12.out).mono ?_); (case side1 => (repeat (first | exact (Kd.C_below HR0.out (below_step HB.out HU.out)) | (with_reducible refine Kd.C_alloc ?_ _) | (with_reducible refine Kd.C_drewN ?_ _) | (with_reducible refine Kd.C_drew ?_)))); (case side2 => exact HC0.out); rintro e w11 ⟨v_, rfl, ho, hb⟩; have HT := Aside0.mk ho; have n0_ := Aside0.mk (Kd.S_below (by (with_reducible repeat (first | apply Kd.S_alloc | apply Kd.S_drewN | apply Kd.S_drew)); exact HG.out) hb); have n1_ := Aside0.mk (below_step (by repeat (first | (with_reducible first | exact HU.out | apply below_alloc | apply pw_below_drewN | apply below_drew1) | exact HU.out)) hb); clear HG HU; have HG := n0_; clear n0_; have HU := n1_; clear n1_; obtain ⟨A_HT, c_HT, e_HT⟩ := Kd.R_slice HT.out; subst e_HT; (try clear hcA0 hcA1); have hcA0 : w11.cell? ⟨w.heap.size, 0, none⟩ = some (.int .i64 a0_0) := (blk_cell (blk_below BA.out HU.out) 0).trans rfl; have hcA1 : w11.cell? ⟨w.heap.size, 1, none⟩ = some (.slice A0_1 l0_1.length c0_1) := (blk_cell (blk_below BA.out HU.out) 1).trans rfl; clear ho hb; have tok13 := Aside0.mk True.intro) | (go_at_call 31; have tk_ := tok13; clear tk_ tok13; (with_reducible refine (impl_SlideClass.calls n4 _ _ t3 hh _ _ ?side1 ?side2 A13.out).mono ?_); (case side1 => (repeat (first | exact (Kd.R_reads' HT.out).2.2 | (with_reducible refine Kd.C_alloc ?_ _) | (with_reducible refine Kd.C_drewN ?_ _) | (with_reducible refine Kd.C_drew ?_)))); (case side2 => exact (Kd.R_reads' HT.out).2.1); rintro e w12 ⟨v_, rfl, ho, hb⟩; have HH := Aside0.mk ho; have n0_ := Aside0.mk (Kd.S_below (by (with_reducible repeat (first | apply Kd.S_alloc | apply Kd.S_drewN | apply Kd.S_drew)); exact HG.out) hb); have n1_ := Aside0.mk (below_step (by repeat (first | (with_reducible first | exact HU.out | apply below_alloc | apply pw_below_drewN | apply below_drew1) | exact HU.out)) hb); clear HG HU; have HG := n0_; clear n0_; have HU := n1_; clear n1_; obtain ⟨A_HH, c_HH, e_HH⟩ := Kd.S_slice HH.out; subst e_HH; clear ho hb HT; have tok14 := Aside0.mk True.intro))
          (try simp only [Act.put, List.setIfInBounds_toArray, List.set_cons_zero, List.set_cons_succ])
          go_cut [87] (fun v wc => v = .bool false ∧ Aside0 (Kd.S k31 31 wc w2.heap.size (fun _ => True) (.slice A_HG g.length c_HG) g') ∧ Aside0 (Below w2.heap.size w2 wc))
          case first =>
            go_wp2_with (first | (go_at_call 25; have tk_ := tok14; clear tk_ tok14; (with_reducible refine (laws_eqLadderS.calls _ _ _ hh _ _ s true _ ?side1 ?side2 ?side3 ?side4 A14.out).mono ?_); (case side1 => (repeat (first | exact (Kd.S_reads' HH.out).2.2 | (with_reducible refine Kd.C_alloc ?_ _) | (with_reducible refine Kd.C_drewN ?_ _) | (with_reducible refine Kd.C_drew ?_)))); (case side2 => exact (Kd.S_reads' HH.out).2.1); (case side3 => (repeat (first | exact (Kd.C_below HW.out HU.out) | (with_reducible refine Kd.C_alloc ?_ _) | (with_reducible refine Kd.C_drewN ?_ _) | (with_reducible refine Kd.C_drew ?_)))); (case side4 => exact HWc.out); rintro e w13 ⟨rfl, hb⟩; have n0_ := Aside0.mk (Kd.S_below (by (with_reducible repeat (first | apply Kd.S_alloc | apply Kd.S_drewN | apply Kd.S_drew)); exact HG.out) hb); have n1_ := Aside0.mk (below_step (by repeat (first | (with_reducible first | exact HU.out | apply below_alloc | apply pw_below_drewN | apply below_drew1) | exact HU.out)) hb); clear HG HU; have HG := n0_; clear n0_; have HU := n1_; clear n1_; clear hb HH; have tok15 := Aside0.mk True.intro))
            go_meet
            case rel => exact ⟨by first | rfl | (simp; done) | (simp [*]; done), ⟨Kd.S_mono (by (with_reducible repeat (first | apply Kd.S_alloc | apply Kd.S_drewN | apply Kd.S_drew)); exact HG.out) (fun _ _ => trivial)⟩, ⟨(by repeat (first | (with_reducible first | exact HU.out | apply below_alloc | apply pw_below_drewN | apply below_drew1) | exact HU.out))⟩⟩
          case rest =>
            clear HG HU
            (try clear hcA0 hcA1)
            obtain ⟨rfl, HG, HU⟩ := hcut
            have tok15 := Aside0.mk True.intro
            go_wp2_with (first | (go_at_call 27; have tk_ := tok15; clear tk_ tok15; refine calls_of_args (args' := #[.slice A_HG g'.length c_HG, .int .i64 1]) (by rw [(Kd.S_reads' HG.out).1]) ?_; (with_reducible refine (laws_heldLadderS.calls _ _ _ g' _ q2 _ ?side1 ?side2 A15.out).mono ?_); (case side1 => (repeat (first | exact (Kd.S_reads' HG.out).2.2 | (with_reducible refine Kd.C_alloc ?_ _) | (with_reducible refine Kd.C_drewN ?_ _) | (with_reducible refine Kd.C_drew ?_)))); (case side2 => have h_ := Kd.S_reads' HG.out; have h1_ := h_.1; have h2_ := h_.2.1; omega); rintro e w' ⟨rfl, ⟨nd, rfl⟩⟩; have tok16 := Aside0.mk True.intro))
            go_ret
            exact ⟨by first | rfl | (simp; done) | (simp [*]; done), below_step HB.out (by repeat (first | (with_reducible first | exact HU.out | apply below_alloc | apply pw_below_drewN | apply below_drew1) | exact HU.out))⟩
    · exfalso; rw [if_neg b4] at h; cases h

/-- THE ONE PURE STATEMENT of laws_FnExactSlideClass. -/
def laws_FnExactSlideClass.Pure : Prop := ∀ (a0_0 : Int) (l0_1 : List Int), (Lit.int .i64 a0_0).wf = true → l0_1.length ≤ maxLen → l0_1.length * 8 ≤ 140737488351232 → (∀ x ∈ l0_1, (Lit.int .i64 x).wf = true) → ∃ k, laws_FnExactSlideClass.f k a0_0 l0_1 = some true
theorem laws_FnExactSlideClass.walk (P : laws_FnExactSlideClass.Pure) (a0_0 : Int) (a0_1 : Option Addr) (len0_1 cap0_1 : Nat) (z0_1 : List Int) (w : World) (w0_0 : (Lit.int .i64 a0_0).wf = true) (w0_1 : (a0_1 = none ∧ len0_1 = 0 ∧ cap0_1 = 0 ∧ z0_1 = []) ∨ ∃ x, a0_1 = some x ∧ len0_1 ≤ cap0_1 ∧ cap0_1 ≤ maxLen ∧ z0_1.length = cap0_1 ∧ (∀ i, i < z0_1.length → w.cell? (x.add i) = some (.int .i64 (z0_1.getD i 0))) ∧ ∀ n ∈ z0_1, (Lit.int .i64 n).wf = true) (y0_1 : len0_1 * 8 ≤ 140737488351232) :
    Calls Try.prog 7 #[.agg #[.int .i64 a0_0, .slice a0_1 len0_1 cap0_1]] w fun e w' => e = .returned (.bool true) ∧ Below w.heap.size w w' := by
  obtain ⟨l0_1, rfl, hr0_1, hm0_1, hw0_1, hc0_1⟩ := ReadsInt.ofRowC w0_1
  obtain ⟨k, h⟩ := P a0_0 l0_1 w0_0 hm0_1 y0_1 hw0_1
  refine (laws_FnExactSlideClass.calls k a0_0 _ _ l0_1 w (Kd.C_of_reads (d := (0 : Int)) (h1 := fun _ => rfl) hr0_1) hc0_1 h).mono ?_
  rintro e w' ⟨rfl, hd⟩
  exact ⟨rfl, hd⟩

end
end Go.Proofs.Ytnddmmjofpfmfaa.PSc
