-- Written for this claim by a program of this session (myprint.py) over the kit's printer.
import Derived.Test.YtnddmmjofpfmfaaPAlx0
import Derived.Test.YtnddmmjofpfmfaaPAlx1
import Derived.Test.YtnddmmjofpfmfaaPAlx4
import Derived.Test.YtnddmmjofpfmfaaPAlx7
import Derived.Test.YtnddmmjofpfmfaaPAlx8
namespace Go.Proofs.Ytnddmmjofpfmfaa.PAl
noncomputable section
open Go.RowKit Go.Proofs.YtnddmmjofpfmfaaW.PrintWords Go.Proofs.YtnddmmjofpfmfaaW.PrintLast Go.Proofs.YtnddmmjofpfmfaaW.PrintMore
attribute [local go_sem] max2_int min2_int max_two min_two max_three min_three max_four min_four   -- for this text's walks alone
set_option linter.unusedVariables false
set_option linter.unusedSimpArgs false

/-! ### laws_heldIntS: function 16 -/
def laws_heldIntS.l0 : Nat → List Int → Int → Int → Option (Int)
  | 0, _, _, _ => none
  | k + 1, x0, x1, x5 => if x5 < (x0.length : Int) then (if 0 ≤ x5 then (if (rd x0 x5) = x1 then (laws_heldIntS.l0 k x0 (wrap64 (x1 + 1)) (wrap64 (x5 + 1))) else (some (-1))) else (none)) else (some x1)
def laws_heldIntS.f (k : Nat) (l0 : List Int) (a1 : Int) : Option (Int) := laws_heldIntS.l0 k l0 a1 0
theorem laws_heldIntS.mono_l : ∀ k, (∀ y0 y1 y2, LeO (laws_heldIntS.l0 k y0 y1 y2) (laws_heldIntS.l0 (k + 1) y0 y1 y2))
  | 0 => fun _ _ _ r h => by simp [laws_heldIntS.l0] at h
  | k + 1 => by
    have ih0 := laws_heldIntS.mono_l k
    · intro y0 y1 y2
      unfold laws_heldIntS.l0
      repeat' first
      | (with_reducible exact ih0 _ _ _)
      | (with_reducible exact LeO.refl _)
      | (with_reducible exact LeO.none _)
      | (with_reducible refine LeO.ite ?_ ?_)
      | (with_reducible refine LeO.bind ?_ (fun _ => ?_))
      | exact ih0 _ _ _
      | exact LeO.none _
      | refine LeO.ite ?_ ?_
      | refine LeO.bind ?_ (fun _ => ?_)
theorem laws_heldIntS.mono : ∀ a0 a1 k, LeO (laws_heldIntS.f k a0 a1) (laws_heldIntS.f (k + 1) a0 a1) := by
  intro a0 a1 k
  have ih0 := laws_heldIntS.mono_l k
  unfold laws_heldIntS.f
  repeat' first
      | (with_reducible exact ih0 _ _ _)
      | (with_reducible exact LeO.refl _)
      | (with_reducible exact LeO.none _)
      | (with_reducible refine LeO.ite ?_ ?_)
      | (with_reducible refine LeO.bind ?_ (fun _ => ?_))
      | exact ih0 _ _ _
      | exact LeO.none _
      | refine LeO.ite ?_ ?_
      | refine LeO.bind ?_ (fun _ => ?_)
set_option maxHeartbeats 8000000 in
set_option maxRecDepth 100000 in
theorem laws_heldIntS.calls (k : Nat) (A0 : Option Addr) (c0 : Nat) (l0 : List Int) (a1 : Int) (r : Int) (w : World) (hr0 : Kd.C (Kd.int .i64) w A0 l0.length l0) (hc0 : l0.length ≤ c0) (h : laws_heldIntS.f k l0 a1 = some r) :
    Calls Try.prog 16 #[.slice A0 l0.length c0, .int .i64 a1] w fun e w' => e = .returned (.int .i64 r) ∧ Drawn0 w w' := by
  have HR0 := Aside0.mk hr0
  have HC0 := Aside0.mk hc0
  clear hr0 hc0
  have H : (laws_heldIntS.l0 k l0 a1 0) = some r := h
  clear h
  have H' := Aside0.mk H
  clear H
  go_enter Try.func16, Try.ntmps16
  go_wp2
  go_loopg [1, 5] k (fun kq v1 v5 w' => ∃ (x1_1 : Int) (x5_1 : Int), v1 = .int .i64 x1_1 ∧ v5 = .int .i64 x5_1 ∧ Aside0 (laws_heldIntS.l0 kq l0 x1_1 x5_1 = some r) ∧ Aside0 (kq ≤ k) ∧ Drawn0 w w')
  case atStart => exact ⟨(a1), (0), (by first | rfl | (simp; done) | (simp [*]; done)), (by first | rfl | (simp; done) | (simp [*]; done)), H', ⟨Nat.le_refl _⟩, by repeat (first | exact Drawn0.refl _ | apply Drawn0.step)⟩
  case round =>
    clear H'
    try clear c1
    try clear p2
    obtain ⟨x1_1, x5_1, rfl, rfl, HA, HK1, ⟨m1, rfl⟩⟩ := hrel
    cases gk with
    | zero => exact absurd HA.out (by simp [laws_heldIntS.l0])
    | succ k1 =>
      have H := HA.out
      clear HA
      simp only [laws_heldIntS.l0] at H
      by_cases c3 : x5_1 < (l0.length : Int)
      · rw [if_pos c3] at H
        have c3b0 : decide (x5_1 < (l0.length : Int)) = true := decide_eq_true c3
        clear c3
        by_cases c4 : 0 ≤ x5_1
        · rw [if_pos c4] at H
          have c4b0 : decide (0 ≤ x5_1) = true := decide_eq_true c4
          clear c4
          by_cases c5 : (rd l0 x5_1) = x1_1
          · rw [if_pos c5] at H
            have c5b0 : ((rd l0 x5_1) == x1_1) = true := beq_iff_eq.mpr c5
            have c5b1 : ((rd l0 x5_1) != x1_1) = false := bne_eq_false_iff_eq.mpr c5
            clear c5
            have H' := Aside0.mk H
            clear H
            have p219 : 0 ≤ (x5_1 : Int) := of_decide_eq_true (by first | (with_reducible assumption) | assumption)
            have q219 : x5_1 < (l0.length : Int) := of_decide_eq_true (by first | (with_reducible assumption) | assumption)
            obtain ⟨ad219, e219, hx219_0⟩ := Kd.at_int HR0.out x5_1 p219 q219
            cases e219
            replace p219 := eq_true p219
            replace q219 := eq_true q219
            go_wp2
            go_roundg k1
            case measure => have := HK1.out; omega
            case rel => exact ⟨(wrap64 (x1_1 + 1)), (wrap64 (x5_1 + 1)), (by first | rfl | (simp; done) | (simp [*]; done)), (by first | rfl | (simp; done) | (simp [*]; done)), H', ⟨by have := HK1.out; omega⟩, by repeat (first | exact Drawn0.refl _ | apply Drawn0.step)⟩
          · rw [if_neg c5] at H
            have c5b0 : ((rd l0 x5_1) == x1_1) = false := beq_eq_false_iff_ne.mpr c5
            have c5b1 : ((rd l0 x5_1) != x1_1) = true := bne_iff_ne.mpr c5
            obtain rfl := Option.some.inj H
            have p219 : 0 ≤ (x5_1 : Int) := of_decide_eq_true (by first | (with_reducible assumption) | assumption)
            have q219 : x5_1 < (l0.length : Int) := of_decide_eq_true (by first | (with_reducible assumption) | assumption)
            obtain ⟨ad219, e219, hx219_0⟩ := Kd.at_int HR0.out x5_1 p219 q219
            cases e219
            replace p219 := eq_true p219
            replace q219 := eq_true q219
            go_wp2
            go_ret
            exact ⟨by first | rfl | (simp; done) | (simp [*]; done), by repeat (first | exact Drawn0.refl _ | apply Drawn0.step)⟩
        · rw [if_neg c4] at H
          exact absurd H (by simp)
      · rw [if_neg c3] at H
        have c3b0 : decide (x5_1 < (l0.length : Int)) = false := decide_eq_false c3
        clear c3
        obtain rfl := Option.some.inj H
        go_wp2
        go_ret
        exact ⟨by first | rfl | (simp; done) | (simp [*]; done), by repeat (first | exact Drawn0.refl _ | apply Drawn0.step)⟩

/-! ### laws_heldLadderS: function 27 -/
def laws_heldLadderS.l0 : Nat → List (S31) → Int → Int → Option (Int)
  | 0, _, _, _ => none
  | k + 1, x0, x1, x5 => if x5 < (x0.length : Int) then (if 0 ≤ x5 then (if ((rd_T31 x0 x5).f0) = x1 then ((laws_heldIntS.f k ((rd_T31 x0 x5).f1) (wrap64 (x1 + 1))).bind fun t222 => (if t222 < 0 then (some (-1)) else (laws_heldLadderS.l0 k x0 t222 (wrap64 (x5 + 1))))) else (some (-1))) else (none)) else (some x1)
def laws_heldLadderS.f (k : Nat) (l0 : List (S31)) (a1 : Int) : Option (Int) := laws_heldLadderS.l0 k l0 a1 0
theorem laws_heldLadderS.mono_l : ∀ k, (∀ y0 y1 y2, LeO (laws_heldLadderS.l0 k y0 y1 y2) (laws_heldLadderS.l0 (k + 1) y0 y1 y2))
  | 0 => fun _ _ _ r h => by simp [laws_heldLadderS.l0] at h
  | k + 1 => by
    have ih0 := laws_heldLadderS.mono_l k
    · intro y0 y1 y2
      unfold laws_heldLadderS.l0
      repeat' first
      | (with_reducible exact ih0 _ _ _)
      | (with_reducible exact laws_heldIntS.mono _ _ _)
      | (with_reducible exact LeO.refl _)
      | (with_reducible exact LeO.none _)
      | (with_reducible refine LeO.ite ?_ ?_)
      | (with_reducible refine LeO.bind ?_ (fun _ => ?_))
      | exact ih0 _ _ _
      | exact laws_heldIntS.mono _ _ _
      | exact LeO.none _
      | refine LeO.ite ?_ ?_
      | refine LeO.bind ?_ (fun _ => ?_)
theorem laws_heldLadderS.mono : ∀ a0 a1 k, LeO (laws_heldLadderS.f k a0 a1) (laws_heldLadderS.f (k + 1) a0 a1) := by
  intro a0 a1 k
  have ih0 := laws_heldLadderS.mono_l k
  unfold laws_heldLadderS.f
  repeat' first
      | (with_reducible exact ih0 _ _ _)
      | (with_reducible exact laws_heldIntS.mono _ _ _)
      | (with_reducible exact LeO.refl _)
      | (with_reducible exact LeO.none _)
      | (with_reducible refine LeO.ite ?_ ?_)
      | (with_reducible refine LeO.bind ?_ (fun _ => ?_))
      | exact ih0 _ _ _
      | exact laws_heldIntS.mono _ _ _
      | exact LeO.none _
      | refine LeO.ite ?_ ?_
      | refine LeO.bind ?_ (fun _ => ?_)
set_option maxHeartbeats 8000000 in
set_option maxRecDepth 100000 in
theorem laws_heldLadderS.calls (k : Nat) (A0 : Option Addr) (c0 : Nat) (l0 : List (S31)) (a1 : Int) (r : Int) (w : World) (hr0 : Kd.C k31 w A0 l0.length l0) (hc0 : l0.length ≤ c0) (h : laws_heldLadderS.f k l0 a1 = some r) :
    Calls Try.prog 27 #[.slice A0 l0.length c0, .int .i64 a1] w fun e w' => e = .returned (.int .i64 r) ∧ Drawn0 w w' := by
  have HR0 := Aside0.mk hr0
  have HC0 := Aside0.mk hc0
  clear hr0 hc0
  have H : (laws_heldLadderS.l0 k l0 a1 0) = some r := h
  clear h
  have H' := Aside0.mk H
  clear H
  go_enter Try.func27, Try.ntmps27
  go_wp2
  go_loopg [1, 5] k (fun kq v1 v5 w' => ∃ (x1_1 : Int) (x5_1 : Int), v1 = .int .i64 x1_1 ∧ v5 = .int .i64 x5_1 ∧ Aside0 (laws_heldLadderS.l0 kq l0 x1_1 x5_1 = some r) ∧ Aside0 (kq ≤ k) ∧ Drawn0 w w')
  case atStart => exact ⟨(a1), (0), (by first | rfl | (simp; done) | (simp [*]; done)), (by first | rfl | (simp; done) | (simp [*]; done)), H', ⟨Nat.le_refl _⟩, by repeat (first | exact Drawn0.refl _ | apply Drawn0.step)⟩
  case round =>
    clear H'
    try clear c2
    try clear p2
    obtain ⟨x1_1, x5_1, rfl, rfl, HA, HK1, ⟨m1, rfl⟩⟩ := hrel
    cases gk with
    | zero => exact absurd HA.out (by simp [laws_heldLadderS.l0])
    | succ k1 =>
      have H := HA.out
      clear HA
      simp only [laws_heldLadderS.l0] at H
      by_cases c3 : x5_1 < (l0.length : Int)
      · rw [if_pos c3] at H
        have c3b0 : decide (x5_1 < (l0.length : Int)) = true := decide_eq_true c3
        clear c3
        by_cases c4 : 0 ≤ x5_1
        · rw [if_pos c4] at H
          have c4b0 : decide (0 ≤ x5_1) = true := decide_eq_true c4
          clear c4
          by_cases c5 : ((rd_T31 l0 x5_1).f0) = x1_1
          · rw [if_pos c5] at H
            have c5b0 : (((rd_T31 l0 x5_1).f0) == x1_1) = true := beq_iff_eq.mpr c5
            have c5b1 : (((rd_T31 l0 x5_1).f0) != x1_1) = false := bne_eq_false_iff_eq.mpr c5
            clear c5
            replace H := Option.bind_eq_some_iff.mp H
            obtain ⟨t222, A60, H⟩ := H
            replace H : (if t222 < 0 then (some (-1)) else (laws_heldLadderS.l0 k1 l0 t222 (wrap64 (x5_1 + 1)))) = some r := H
            have A6 := Aside0.mk A60
            clear A60
            by_cases c7 : t222 < 0
            · rw [if_pos c7] at H
              have c7b0 : decide (t222 < 0) = true := decide_eq_true c7
              clear c7
              obtain rfl := Option.some.inj H
              have p220 : 0 ≤ (x5_1 : Int) := of_decide_eq_true (by first | (with_reducible assumption) | assumption)
              have q220 : x5_1 < (l0.length : Int) := of_decide_eq_true (by first | (with_reducible assumption) | assumption)
              obtain ⟨ad220, A220_1, c220_1, e220, hx220_0, hx220_1, hl220_1, hi220_1⟩ := at_T31 HR0.out x5_1 p220 q220
              cases e220
              have HR220_1 := Aside0.mk hi220_1
              have HC220_1 := Aside0.mk hl220_1
              clear hi220_1 hl220_1
              replace p220 := eq_true p220
              replace q220 := eq_true q220
              have p221 : 0 ≤ (x5_1 : Int) := of_decide_eq_true (by first | (with_reducible assumption) | assumption)
              have q221 : x5_1 < (l0.length : Int) := of_decide_eq_true (by first | (with_reducible assumption) | assumption)
              obtain ⟨ad221, A221_1, c221_1, e221, hx221_0, hx221_1, hl221_1, hi221_1⟩ := at_T31 HR0.out x5_1 p221 q221
              obtain rfl : ad220 = ad221 := (by injection e221)
              have HR221_1 := Aside0.mk hi221_1
              have HC221_1 := Aside0.mk hl221_1
              clear hi221_1 hl221_1
              replace p221 := eq_true p221
              replace q221 := eq_true q221
              have ea_ := Option.some.inj (hx220_1.symm.trans hx221_1)
              injection ea_ with ea_ en_ ec_
              subst ea_
              subst ec_
              clear en_
              go_wp2_with (first | ((with_reducible refine gate_callee (f := 16) rfl ?_); refine goesL_ (some 27) rfl rfl Try.func16 (by kernel_rfl) rfl #[.slice A220_1 ((rd_T31 l0 x5_1).f1).length c220_1, .int .i64 (wrap64 (x1_1 + 1))] rfl (by (try simp only [List.map_toArray, List.map_cons, List.map_nil]); first | done | rfl | (simp only [List.length_drop, List.length_take]; rfl)) ?_; (with_reducible refine (laws_heldIntS.calls k1 _ _ ((rd_T31 l0 x5_1).f1) (wrap64 (x1_1 + 1)) t222 _ ?side1 ?side2 A6.out).mono ?_); (case side1 => repeat (first | exact HR221_1.out | (with_reducible refine Kd.C_alloc ?_ _) | (with_reducible refine Kd.C_drewN ?_ _) | (with_reducible refine Kd.C_drew ?_))); (case side2 => exact HC221_1.out); rintro e w' ⟨rfl, ⟨nd, rfl⟩⟩; refine ⟨_, rfl, ?_⟩))
              go_ret
              exact ⟨by first | rfl | (simp; done) | (simp [*]; done), by repeat (first | exact Drawn0.refl _ | apply Drawn0.step)⟩
            · rw [if_neg c7] at H
              have c7b0 : decide (t222 < 0) = false := decide_eq_false c7
              clear c7
              have H' := Aside0.mk H
              clear H
              have p220 : 0 ≤ (x5_1 : Int) := of_decide_eq_true (by first | (with_reducible assumption) | assumption)
              have q220 : x5_1 < (l0.length : Int) := of_decide_eq_true (by first | (with_reducible assumption) | assumption)
              obtain ⟨ad220, A220_1, c220_1, e220, hx220_0, hx220_1, hl220_1, hi220_1⟩ := at_T31 HR0.out x5_1 p220 q220
              cases e220
              have HR220_1 := Aside0.mk hi220_1
              have HC220_1 := Aside0.mk hl220_1
              clear hi220_1 hl220_1
              replace p220 := eq_true p220
              replace q220 := eq_true q220
              have p221 : 0 ≤ (x5_1 : Int) := of_decide_eq_true (by first | (with_reducible assumption) | assumption)
              have q221 : x5_1 < (l0.length : Int) := of_decide_eq_true (by first | (with_reducible assumption) | assumption)
              obtain ⟨ad221, A221_1, c221_1, e221, hx221_0, hx221_1, hl221_1, hi221_1⟩ := at_T31 HR0.out x5_1 p221 q221
              obtain rfl : ad220 = ad221 := (by injection e221)
              have HR221_1 := Aside0.mk hi221_1
              have HC221_1 := Aside0.mk hl221_1
              clear hi221_1 hl221_1
              replace p221 := eq_true p221
              replace q221 := eq_true q221
              have ea_ := Option.some.inj (hx220_1.symm.trans hx221_1)
              injection ea_ with ea_ en_ ec_
              subst ea_
              subst ec_
              clear en_
              go_wp2_with (first | ((with_reducible refine gate_callee (f := 16) rfl ?_); refine goesL_ (some 27) rfl rfl Try.func16 (by kernel_rfl) rfl #[.slice A220_1 ((rd_T31 l0 x5_1).f1).length c220_1, .int .i64 (wrap64 (x1_1 + 1))] rfl (by (try simp only [List.map_toArray, List.map_cons, List.map_nil]); first | done | rfl | (simp only [List.length_drop, List.length_take]; rfl)) ?_; (with_reducible refine (laws_heldIntS.calls k1 _ _ ((rd_T31 l0 x5_1).f1) (wrap64 (x1_1 + 1)) t222 _ ?side1 ?side2 A6.out).mono ?_); (case side1 => repeat (first | exact HR221_1.out | (with_reducible refine Kd.C_alloc ?_ _) | (with_reducible refine Kd.C_drewN ?_ _) | (with_reducible refine Kd.C_drew ?_))); (case side2 => exact HC221_1.out); rintro e w' ⟨rfl, ⟨nd, rfl⟩⟩; refine ⟨_, rfl, ?_⟩))
              go_roundg k1
              case measure => have := HK1.out; omega
              case rel => exact ⟨(t222), (wrap64 (x5_1 + 1)), (by first | rfl | (simp; done) | (simp [*]; done)), (by first | rfl | (simp; done) | (simp [*]; done)), H', ⟨by have := HK1.out; omega⟩, by repeat (first | exact Drawn0.refl _ | apply Drawn0.step)⟩
          · rw [if_neg c5] at H
            have c5b0 : (((rd_T31 l0 x5_1).f0) == x1_1) = false := beq_eq_false_iff_ne.mpr c5
            have c5b1 : (((rd_T31 l0 x5_1).f0) != x1_1) = true := bne_iff_ne.mpr c5
            obtain rfl := Option.some.inj H
            have p220 : 0 ≤ (x5_1 : Int) := of_decide_eq_true (by first | (with_reducible assumption) | assumption)
            have q220 : x5_1 < (l0.length : Int) := of_decide_eq_true (by first | (with_reducible assumption) | assumption)
            obtain ⟨ad220, A220_1, c220_1, e220, hx220_0, hx220_1, hl220_1, hi220_1⟩ := at_T31 HR0.out x5_1 p220 q220
            cases e220
            have HR220_1 := Aside0.mk hi220_1
            have HC220_1 := Aside0.mk hl220_1
            clear hi220_1 hl220_1
            replace p220 := eq_true p220
            replace q220 := eq_true q220
            go_wp2
            go_ret
            exact ⟨by first | rfl | (simp; done) | (simp [*]; done), by repeat (first | exact Drawn0.refl _ | apply Drawn0.step)⟩
        · rw [if_neg c4] at H
          exact absurd H (by simp)
      · rw [if_neg c3] at H
        have c3b0 : decide (x5_1 < (l0.length : Int)) = false := decide_eq_false c3
        clear c3
        obtain rfl := Option.some.inj H
        go_wp2
        go_ret
        exact ⟨by first | rfl | (simp; done) | (simp [*]; done), by repeat (first | exact Drawn0.refl _ | apply Drawn0.step)⟩

/-! ### laws_FnExactAllLeast: function 6 -/
mutual
def laws_FnExactAllLeast.j0 : Nat → List Int → List (S31) → Bool → List Int → List (S31) → Bool → Bool → Option (Bool)
  | 0, _, _, _, _, _, _, _ => none
  | k + 1, x0, x3, x4, x5, x6, x7, x37 => if x37 = true then (some false) else ((laws_toIntS.f k x0).bind fun t238 => ((laws_eqIntS.f k x5 t238).bind fun t241 => (if t241 = true then ((laws_markIntS.f k x5 1).bind fun bt242 => (if bt242.1 < 0 then (laws_FnExactAllLeast.j1 k x0 x3 x4 x6 true) else ((laws_eqLadderS.f k x6 x3).bind fun t244 => (if t244 = true then (laws_FnExactAllLeast.j1 k x0 x3 x4 x6 (x7 != x4)) else (laws_FnExactAllLeast.j1 k x0 x3 x4 x6 true))))) else (some false))))
def laws_FnExactAllLeast.j1 : Nat → List Int → List (S31) → Bool → List (S31) → Bool → Option (Bool)
  | 0, _, _, _, _, _ => none
  | k + 1, x0, x3, x4, x6, x58 => if x58 = true then (some false) else ((laws_markLadderS.f k x6 1).bind fun bt245 => ((laws_heldLadderS.f k bt245.2 1).bind fun t247 => (if t247 < 0 then (some false) else (if t247 = bt245.1 then ((laws_toIntS.f k x0).bind fun t248 => ((impl_AllLeast.f t248).bind fun bt251 => ((laws_eqLadderS.f k bt251.1 x3).bind fun t255 => (if t255 = true then (laws_FnExactAllLeast.j2 k bt245.2 bt245.1 (bt251.2 != x4)) else (laws_FnExactAllLeast.j2 k bt245.2 bt245.1 true))))) else (some false)))))
def laws_FnExactAllLeast.j2 : Nat → List (S31) → Int → Bool → Option (Bool)
  | 0, _, _, _ => none
  | k + 1, x6, x9, x84 => if x84 = true then (some false) else ((laws_heldLadderS.f k x6 1).bind fun t256 => (if t256 < 0 then (some false) else (if t256 = x9 then (some true) else (some false))))
end
def laws_FnExactAllLeast.f (k : Nat) (l0 : List Int) : Option (Bool) := if (l0.length : Int) > 1048576 then (some true) else ((laws_toIntS.f k l0).bind fun t223 => ((spec_AllLeast.f k t223).bind fun bt226 => ((laws_toIntS.f k l0).bind fun t230 => ((impl_AllLeast.f t230).bind fun bt233 => ((laws_eqLadderS.f k bt233.1 bt226.1).bind fun t237 => (if t237 = true then (laws_FnExactAllLeast.j0 k l0 bt226.1 bt226.2 t230 bt233.1 bt233.2 (bt233.2 != bt226.2)) else (laws_FnExactAllLeast.j0 k l0 bt226.1 bt226.2 t230 bt233.1 bt233.2 true)))))))
theorem laws_FnExactAllLeast.mono_l : ∀ k, (∀ y0 y1 y2 y3 y4 y5 y6, LeO (laws_FnExactAllLeast.j0 k y0 y1 y2 y3 y4 y5 y6) (laws_FnExactAllLeast.j0 (k + 1) y0 y1 y2 y3 y4 y5 y6)) ∧ (∀ y0 y1 y2 y3 y4, LeO (laws_FnExactAllLeast.j1 k y0 y1 y2 y3 y4) (laws_FnExactAllLeast.j1 (k + 1) y0 y1 y2 y3 y4)) ∧ (∀ y0 y1 y2, LeO (laws_FnExactAllLeast.j2 k y0 y1 y2) (laws_FnExactAllLeast.j2 (k + 1) y0 y1 y2))
  | 0 => ⟨fun _ _ _ _ _ _ _ r h => by simp [laws_FnExactAllLeast.j0] at h, fun _ _ _ _ _ r h => by simp [laws_FnExactAllLeast.j1] at h, fun _ _ _ r h => by simp [laws_FnExactAllLeast.j2] at h⟩
  | k + 1 => by
    obtain ⟨ih0, ih1, ih2⟩ := laws_FnExactAllLeast.mono_l k
    refine ⟨?_, ?_, ?_⟩
    · intro y0 y1 y2 y3 y4 y5 y6
      unfold laws_FnExactAllLeast.j0
      repeat' first
      | (with_reducible exact ih0 _ _ _ _ _ _ _)
      | (with_reducible exact ih1 _ _ _ _ _)
      | (with_reducible exact ih2 _ _ _)
      | (with_reducible exact laws_eqIntS.mono _ _ _)
      | (with_reducible exact laws_eqLadderS.mono _ _ _)
      | (with_reducible exact laws_heldLadderS.mono _ _ _)
      | (with_reducible exact laws_markIntS.mono _ _ _)
      | (with_reducible exact laws_markLadderS.mono _ _ _)
      | (with_reducible exact laws_toIntS.mono _ _)
      | (with_reducible exact spec_AllLeast.mono _ _)
      | (with_reducible exact LeO.refl _)
      | (with_reducible exact LeO.none _)
      | (with_reducible refine LeO.ite ?_ ?_)
      | (with_reducible refine LeO.bind ?_ (fun _ => ?_))
      | exact ih0 _ _ _ _ _ _ _
      | exact ih1 _ _ _ _ _
      | exact ih2 _ _ _
      | exact laws_eqIntS.mono _ _ _
      | exact laws_eqLadderS.mono _ _ _
      | exact laws_heldLadderS.mono _ _ _
      | exact laws_markIntS.mono _ _ _
      | exact laws_markLadderS.mono _ _ _
      | exact laws_toIntS.mono _ _
      | exact spec_AllLeast.mono _ _
      | exact LeO.none _
      | refine LeO.ite ?_ ?_
      | refine LeO.bind ?_ (fun _ => ?_)
    · intro y0 y1 y2 y3 y4
      unfold laws_FnExactAllLeast.j1
      repeat' first
      | (with_reducible exact ih0 _ _ _ _ _ _ _)
      | (with_reducible exact ih1 _ _ _ _ _)
      | (with_reducible exact ih2 _ _ _)
      | (with_reducible exact laws_eqIntS.mono _ _ _)
      | (with_reducible exact laws_eqLadderS.mono _ _ _)
      | (with_reducible exact laws_heldLadderS.mono _ _ _)
      | (with_reducible exact laws_markIntS.mono _ _ _)
      | (with_reducible exact laws_markLadderS.mono _ _ _)
      | (with_reducible exact laws_toIntS.mono _ _)
      | (with_reducible exact spec_AllLeast.mono _ _)
      | (with_reducible exact LeO.refl _)
      | (with_reducible exact LeO.none _)
      | (with_reducible refine LeO.ite ?_ ?_)
      | (with_reducible refine LeO.bind ?_ (fun _ => ?_))
      | exact ih0 _ _ _ _ _ _ _
      | exact ih1 _ _ _ _ _
      | exact ih2 _ _ _
      | exact laws_eqIntS.mono _ _ _
      | exact laws_eqLadderS.mono _ _ _
      | exact laws_heldLadderS.mono _ _ _
      | exact laws_markIntS.mono _ _ _
      | exact laws_markLadderS.mono _ _ _
      | exact laws_toIntS.mono _ _
      | exact spec_AllLeast.mono _ _
      | exact LeO.none _
      | refine LeO.ite ?_ ?_
      | refine LeO.bind ?_ (fun _ => ?_)
    · intro y0 y1 y2
      unfold laws_FnExactAllLeast.j2
      repeat' first
      | (with_reducible exact ih0 _ _ _ _ _ _ _)
      | (with_reducible exact ih1 _ _ _ _ _)
      | (with_reducible exact ih2 _ _ _)
      | (with_reducible exact laws_eqIntS.mono _ _ _)
      | (with_reducible exact laws_eqLadderS.mono _ _ _)
      | (with_reducible exact laws_heldLadderS.mono _ _ _)
      | (with_reducible exact laws_markIntS.mono _ _ _)
      | (with_reducible exact laws_markLadderS.mono _ _ _)
      | (with_reducible exact laws_toIntS.mono _ _)
      | (with_reducible exact spec_AllLeast.mono _ _)
      | (with_reducible exact LeO.refl _)
      | (with_reducible exact LeO.none _)
      | (with_reducible refine LeO.ite ?_ ?_)
      | (with_reducible refine LeO.bind ?_ (fun _ => ?_))
      | exact ih0 _ _ _ _ _ _ _
      | exact ih1 _ _ _ _ _
      | exact ih2 _ _ _
      | exact laws_eqIntS.mono _ _ _
      | exact laws_eqLadderS.mono _ _ _
      | exact laws_heldLadderS.mono _ _ _
      | exact laws_markIntS.mono _ _ _
      | exact laws_markLadderS.mono _ _ _
      | exact laws_toIntS.mono _ _
      | exact spec_AllLeast.mono _ _
      | exact LeO.none _
      | refine LeO.ite ?_ ?_
      | refine LeO.bind ?_ (fun _ => ?_)
theorem laws_FnExactAllLeast.mono : ∀ a0 k, LeO (laws_FnExactAllLeast.f k a0) (laws_FnExactAllLeast.f (k + 1) a0) := by
  intro a0 k
  obtain ⟨ih0, ih1, ih2⟩ := laws_FnExactAllLeast.mono_l k
  unfold laws_FnExactAllLeast.f
  repeat' first
      | (with_reducible exact ih0 _ _ _ _ _ _ _)
      | (with_reducible exact ih1 _ _ _ _ _)
      | (with_reducible exact ih2 _ _ _)
      | (with_reducible exact laws_eqIntS.mono _ _ _)
      | (with_reducible exact laws_eqLadderS.mono _ _ _)
      | (with_reducible exact laws_heldLadderS.mono _ _ _)
      | (with_reducible exact laws_markIntS.mono _ _ _)
      | (with_reducible exact laws_markLadderS.mono _ _ _)
      | (with_reducible exact laws_toIntS.mono _ _)
      | (with_reducible exact spec_AllLeast.mono _ _)
      | (with_reducible exact LeO.refl _)
      | (with_reducible exact LeO.none _)
      | (with_reducible refine LeO.ite ?_ ?_)
      | (with_reducible refine LeO.bind ?_ (fun _ => ?_))
      | exact ih0 _ _ _ _ _ _ _
      | exact ih1 _ _ _ _ _
      | exact ih2 _ _ _
      | exact laws_eqIntS.mono _ _ _
      | exact laws_eqLadderS.mono _ _ _
      | exact laws_heldLadderS.mono _ _ _
      | exact laws_markIntS.mono _ _ _
      | exact laws_markLadderS.mono _ _ _
      | exact laws_toIntS.mono _ _
      | exact spec_AllLeast.mono _ _
      | exact LeO.none _
      | refine LeO.ite ?_ ?_
      | refine LeO.bind ?_ (fun _ => ?_)
set_option maxHeartbeats 8000000 in
set_option maxRecDepth 100000 in
theorem laws_FnExactAllLeast.calls (k : Nat) (A0 : Option Addr) (c0 : Nat) (l0 : List Int) (w : World) (hr0 : Kd.C (Kd.int .i64) w A0 l0.length l0) (hc0 : l0.length ≤ c0) (h : laws_FnExactAllLeast.f k l0 = some true) :
    Calls Try.prog 6 #[.slice A0 l0.length c0] w fun e w' => e = .returned (.bool true) ∧ Below w.heap.size w w' := by
  have HR0 := Aside0.mk hr0
  have HC0 := Aside0.mk hc0
  clear hr0 hc0
  unfold laws_FnExactAllLeast.f at h
  by_cases c2 : (l0.length : Int) > 1048576
  · have c2b0 : decide (1048576 < (l0.length : Int)) = true := decide_eq_true c2
    have c2b1 : decide (1048576 < l0.length) = true := decide_eq_true (by omega)
    clear c2 h
    go_enter Try.func6, Try.ntmps6
    go_wp2
    go_ret
    exact ⟨by first | rfl | (simp; done) | (simp [*]; done), by repeat (first | exact Below.refl _ _ | apply below_alloc | apply pw_below_drewN | apply below_drew1)⟩
  · have c2b0 : decide (1048576 < (l0.length : Int)) = false := decide_eq_false c2
    have c2b1 : decide (1048576 < l0.length) = false := decide_eq_false (by omega)
    rw [if_neg c2] at h
    clear c2
    replace h := Option.bind_eq_some_iff.1 h
    obtain ⟨t0, a1, h⟩ := h
    replace h := Option.bind_eq_some_iff.1 h
    obtain ⟨⟨s, sb⟩, a2, h⟩ := h
    replace h := Option.bind_eq_some_iff.1 h
    obtain ⟨t1, a3, h⟩ := h
    obtain rfl : t0 = t1 := Option.some.inj (a1.symm.trans a3)
    replace h := Option.bind_eq_some_iff.1 h
    obtain ⟨⟨g, gb⟩, a4, h⟩ := h
    replace h := Option.bind_eq_some_iff.1 h
    obtain ⟨e1, a5, h⟩ := h
    replace h : (if e1 = true then laws_FnExactAllLeast.j0 k l0 s sb t0 g gb (gb != sb) else laws_FnExactAllLeast.j0 k l0 s sb t0 g gb true) = some true := h
    cases k with
    | zero => exfalso; cases e1 <;> simp [laws_FnExactAllLeast.j0] at h
    | succ k1 =>
    cases e1 with
    | false => exfalso; simp [laws_FnExactAllLeast.j0] at h
    | true =>
    rw [if_pos rfl] at h
    simp only [laws_FnExactAllLeast.j0] at h
    by_cases b1 : (gb != sb) = true
    · rw [if_pos b1] at h; cases h
    rw [if_neg b1] at h
    obtain rfl : gb = sb := by simpa using b1
    clear b1
    replace h := Option.bind_eq_some_iff.1 h
    obtain ⟨t2, a6, h⟩ := h
    replace h := Option.bind_eq_some_iff.1 h
    obtain ⟨e2, a7, h⟩ := h
    cases e2 with
    | false => exfalso; simp at h
    | true =>
    rw [if_pos rfl] at h
    replace h := Option.bind_eq_some_iff.1 h
    obtain ⟨⟨kx, x'⟩, a8, h⟩ := h
    dsimp only at h
    by_cases b2 : kx < 0
    · exfalso; rw [if_pos b2] at h; cases k1 <;> simp [laws_FnExactAllLeast.j1] at h
    rw [if_neg b2] at h
    replace h := Option.bind_eq_some_iff.1 h
    obtain ⟨e3, a9, h⟩ := h
    cases k1 with
    | zero => exfalso; cases e3 <;> simp [laws_FnExactAllLeast.j1] at h
    | succ k2 =>
    cases e3 with
    | false => exfalso; simp [laws_FnExactAllLeast.j1] at h
    | true =>
    rw [if_pos rfl] at h
    simp only [laws_FnExactAllLeast.j1] at h
    rw [if_neg (by simp)] at h
    replace h := Option.bind_eq_some_iff.1 h
    obtain ⟨⟨m, g'⟩, a10, h⟩ := h
    replace h := Option.bind_eq_some_iff.1 h
    obtain ⟨q, a11, h⟩ := h
    by_cases b3 : q < 0
    · exfalso; rw [if_pos b3] at h; cases h
    rw [if_neg b3] at h
    by_cases b4 : q = m
    · rw [if_pos b4] at h
      subst b4
      replace h := Option.bind_eq_some_iff.1 h
      obtain ⟨t3, a12, h⟩ := h
      replace h := Option.bind_eq_some_iff.1 h
      obtain ⟨⟨hh, hb⟩, a13, h⟩ := h
      replace h := Option.bind_eq_some_iff.1 h
      obtain ⟨e4, a14, h⟩ := h
      replace h : (if e4 = true then laws_FnExactAllLeast.j2 k2 g' q (hb != gb) else laws_FnExactAllLeast.j2 k2 g' q true) = some true := h
      cases k2 with
      | zero => exfalso; cases e4 <;> simp [laws_FnExactAllLeast.j2] at h
      | succ k3 =>
      cases e4 with
      | false => exfalso; simp [laws_FnExactAllLeast.j2] at h
      | true =>
      rw [if_pos rfl] at h
      simp only [laws_FnExactAllLeast.j2] at h
      by_cases b5 : (hb != gb) = true
      · rw [if_pos b5] at h; cases h
      rw [if_neg b5] at h
      obtain rfl : hb = gb := by simpa using b5
      clear b5
      replace h := Option.bind_eq_some_iff.1 h
      obtain ⟨q2, a15, h⟩ := h
      by_cases b6 : q2 < 0
      · exfalso; rw [if_pos b6] at h; cases h
      rw [if_neg b6] at h
      have b7 : q2 = q := by
        by_cases b7 : q2 = q
        · exact b7
        · exfalso; rw [if_neg b7] at h; cases h
      subst b7
      clear h
      have c3b0 : decide (kx < 0) = false := decide_eq_false b2
      have c4b0 : decide (q2 < 0) = false := decide_eq_false b3
      clear b2 b3 b6
      have A1 := Aside0.mk a1
      have A2 := Aside0.mk a2
      have A3 := Aside0.mk a3
      have A4 := Aside0.mk a4
      have A5 := Aside0.mk a5
      have A6 := Aside0.mk a6
      have A7 := Aside0.mk a7
      have A8 := Aside0.mk a8
      have A9 := Aside0.mk a9
      have A10 := Aside0.mk a10
      have A11 := Aside0.mk a11
      have A12 := Aside0.mk a12
      have A13 := Aside0.mk a13
      have A14 := Aside0.mk a14
      have A15 := Aside0.mk a15
      clear a1 a2 a3 a4 a5 a6 a7 a8 a9 a10 a11 a12 a13 a14 a15
      have HB := Aside0.mk (Below.refl w.heap.size w)
      have tok0 := Aside0.mk True.intro
      go_enter Try.func6, Try.ntmps6
      have c2b2 := c2b0
      go_upto_region 6 with (first | (go_at_call 18; have tk_ := tok0; clear tk_ tok0; (with_reducible refine (laws_toIntS.calls _ _ _ l0 t0 _ ?side1 ?side2 A1.out).mono ?_); (case side1 => (repeat (first | exact HR0.out | (with_reducible refine Kd.C_alloc ?_ _) | (with_reducible refine Kd.C_drewN ?_ _) | (with_reducible refine Kd.C_drew ?_)))); (case side2 => exact HC0.out); rintro e w1 ⟨v_, rfl, ho, hb⟩; have n0_ := Aside0.mk ho; have n1_ := Aside0.mk (below_step (by repeat (first | (with_reducible first | exact HB.out | apply below_alloc | apply pw_below_drewN | apply below_drew1) | exact HB.out)) hb); clear HB; have HT := n0_; clear n0_; have HB := n1_; clear n1_; obtain ⟨A_HT, c_HT, e_HT⟩ := Kd.R_slice HT.out; subst e_HT; clear ho hb; have tok1 := Aside0.mk True.intro) | (go_at_call 23; have tk_ := tok1; clear tk_ tok1; (with_reducible refine (spec_AllLeast.calls _ _ _ t0 s _ _ ?side1 ?side2 A2.out).mono ?_); (case side1 => (repeat (first | exact (Kd.R_reads' HT.out).2.2 | (with_reducible refine Kd.C_alloc ?_ _) | (with_reducible refine Kd.C_drewN ?_ _) | (with_reducible refine Kd.C_drew ?_)))); (case side2 => exact (Kd.R_reads' HT.out).2.1); rintro e w2 ⟨v_, rfl, ho, hb⟩; have n0_ := Aside0.mk (below_step (by repeat (first | (with_reducible first | exact HB.out | apply below_alloc | apply pw_below_drewN | apply below_drew1) | exact HB.out)) hb); clear HB; have HB := n0_; clear n0_; obtain ⟨A_HW, c_HW, e_HW⟩ := Kd.N_slice ho; subst e_HW; have HW := Aside0.mk (Kd.N_reads' ho).2.2; have HWc := Aside0.mk (Kd.N_reads' ho).2.1; have HU := Aside0.mk (Below.refl w2.heap.size w2); clear ho hb HT; have tok2 := Aside0.mk True.intro) | (go_at_call 18; have tk_ := tok2; clear tk_ tok2; (with_reducible refine (laws_toIntS.calls _ _ _ l0 t0 _ ?side1 ?side2 A3.out).mono ?_); (case side1 => (repeat (first | exact (Kd.C_below HR0.out (below_step HB.out HU.out)) | (with_reducible refine Kd.C_alloc ?_ _) | (with_reducible refine Kd.C_drewN ?_ _) | (with_reducible refine Kd.C_drew ?_)))); (case side2 => exact HC0.out); rintro e w3 ⟨v_, rfl, ho, hb⟩; have n0_ := Aside0.mk (Kd.R_lower ho (below_size (by repeat (first | (with_reducible first | exact HU.out | apply below_alloc | apply pw_below_drewN | apply below_drew1) | exact HU.out)))); have n1_ := Aside0.mk (below_step (by repeat (first | (with_reducible first | exact HU.out | apply below_alloc | apply pw_below_drewN | apply below_drew1) | exact HU.out)) hb); clear HU; have HX := n0_; clear n0_; have HU := n1_; clear n1_; obtain ⟨A_HX, c_HX, e_HX⟩ := Kd.R_slice HX.out; subst e_HX; clear ho hb; have tok3 := Aside0.mk True.intro) | (go_at_call 24; have tk_ := tok3; clear tk_ tok3; (with_reducible refine (impl_AllLeast.calls _ _ t0 g _ _ ?side1 ?side2 A4.out).mono ?_); (case side1 => (repeat (first | exact (Kd.R_reads' HX.out).2.2 | (with_reducible refine Kd.C_alloc ?_ _) | (with_reducible refine Kd.C_drewN ?_ _) | (with_reducible refine Kd.C_drew ?_)))); (case side2 => exact (Kd.R_reads' HX.out).2.1); rintro e w4 ⟨v_, rfl, ho, hb⟩; have HXl := Aside0.mk (Kd.R_lt HX.out); have HG := Aside0.mk ho; have HWl := Aside0.mk (below_size (by repeat (first | (with_reducible first | exact HU.out | apply below_alloc | apply pw_below_drewN | apply below_drew1) | exact HU.out))); have n0_ := Aside0.mk (Kd.R_below (by (with_reducible repeat (first | apply Kd.R_alloc | apply Kd.R_drewN | apply Kd.R_drew)); exact HX.out) hb); have n1_ := Aside0.mk (below_step (by repeat (first | (with_reducible first | exact HU.out | apply below_alloc | apply pw_below_drewN | apply below_drew1) | exact HU.out)) hb); clear HX HU; have HX := n0_; clear n0_; have HU := n1_; clear n1_; obtain ⟨A_HG, c_HG, e_HG⟩ := Kd.S_slice HG.out; subst e_HG; clear ho hb; have tok4 := Aside0.mk True.intro))
      (try simp only [Act.put, List.setIfInBounds_toArray, List.set_cons_zero, List.set_cons_succ])
      go_cut [37] (fun v wc => v = .bool false ∧ Aside0 (Kd.R (Kd.int .i64) 3 wc w2.heap.size (fun _ => True) (.slice A_HX t0.length c_HX) t0) ∧ Aside0 (Kd.S k31 31 wc w3.heap.size (fun _ => True) (.slice A_HG g.length c_HG) g) ∧ Aside0 (Below w2.heap.size w2 wc))
      case first =>
        go_wp2_with (first | (go_at_call 25; have tk_ := tok4; clear tk_ tok4; (with_reducible refine (laws_eqLadderS.calls _ _ _ g _ _ s true _ ?side1 ?side2 ?side3 ?side4 A5.out).mono ?_); (case side1 => (repeat (first | exact (Kd.S_reads' HG.out).2.2 | (with_reducible refine Kd.C_alloc ?_ _) | (with_reducible refine Kd.C_drewN ?_ _) | (with_reducible refine Kd.C_drew ?_)))); (case side2 => exact (Kd.S_reads' HG.out).2.1); (case side3 => (repeat (first | exact (Kd.C_below HW.out HU.out) | (with_reducible refine Kd.C_alloc ?_ _) | (with_reducible refine Kd.C_drewN ?_ _) | (with_reducible refine Kd.C_drew ?_)))); (case side4 => exact HWc.out); rintro e w' ⟨rfl, hb⟩; have n0_ := Aside0.mk (Kd.R_below (by (with_reducible repeat (first | apply Kd.R_alloc | apply Kd.R_drewN | apply Kd.R_drew)); exact HX.out) hb); have n1_ := Aside0.mk (Kd.S_below (by (with_reducible repeat (first | apply Kd.S_alloc | apply Kd.S_drewN | apply Kd.S_drew)); exact HG.out) hb); have n2_ := Aside0.mk (below_step (by repeat (first | (with_reducible first | exact HU.out | apply below_alloc | apply pw_below_drewN | apply below_drew1) | exact HU.out)) hb); clear HX HG HU; have HX := n0_; clear n0_; have HG := n1_; clear n1_; have HU := n2_; clear n2_; clear hb; have tok5 := Aside0.mk True.intro))
        go_meet
        case rel => exact ⟨by first | rfl | (simp; done) | (simp [*]; done), ⟨(by (with_reducible repeat (first | apply Kd.R_alloc | apply Kd.R_drewN | apply Kd.R_drew)); exact HX.out)⟩, ⟨(by (with_reducible repeat (first | apply Kd.S_alloc | apply Kd.S_drewN | apply Kd.S_drew)); exact HG.out)⟩, ⟨(by repeat (first | (with_reducible first | exact HU.out | apply below_alloc | apply pw_below_drewN | apply below_drew1) | exact HU.out))⟩⟩
      case rest =>
        clear HX HG HU
        obtain ⟨rfl, HX, HG, HU⟩ := hcut
        have tok5 := Aside0.mk True.intro
        go_upto_region 12 with (first | (go_at_call 18; have tk_ := tok5; clear tk_ tok5; (with_reducible refine (laws_toIntS.calls _ _ _ l0 t2 _ ?side1 ?side2 A6.out).mono ?_); (case side1 => (repeat (first | exact (Kd.C_below HR0.out (below_step HB.out HU.out)) | (with_reducible refine Kd.C_alloc ?_ _) | (with_reducible refine Kd.C_drewN ?_ _) | (with_reducible refine Kd.C_drew ?_)))); (case side2 => exact HC0.out); rintro e w5 ⟨v_, rfl, ho, hb⟩; have HT := Aside0.mk ho; have n0_ := Aside0.mk (Kd.R_below (by (with_reducible repeat (first | apply Kd.R_alloc | apply Kd.R_drewN | apply Kd.R_drew)); exact HX.out) hb); have n1_ := Aside0.mk (Kd.S_below (by (with_reducible repeat (first | apply Kd.S_alloc | apply Kd.S_drewN | apply Kd.S_drew)); exact HG.out) hb); have n2_ := Aside0.mk (below_step (by repeat (first | (with_reducible first | exact HU.out | apply below_alloc | apply pw_below_drewN | apply below_drew1) | exact HU.out)) hb); clear HX HG HU; have HX := n0_; clear n0_; have HG := n1_; clear n1_; have HU := n2_; clear n2_; obtain ⟨A_HT, c_HT, e_HT⟩ := Kd.R_slice HT.out; subst e_HT; clear ho hb; have tok6 := Aside0.mk True.intro) | (go_at_call 14; have tk_ := tok6; clear tk_ tok6; (with_reducible refine (laws_eqIntS.calls _ _ _ t0 _ _ t2 true _ ?side1 ?side2 ?side3 ?side4 A7.out).mono ?_); (case side1 => (repeat (first | exact (Kd.R_reads' HX.out).2.2 | (with_reducible refine Kd.C_alloc ?_ _) | (with_reducible refine Kd.C_drewN ?_ _) | (with_reducible refine Kd.C_drew ?_)))); (case side2 => exact (Kd.R_reads' HX.out).2.1); (case side3 => (repeat (first | exact (Kd.R_reads' HT.out).2.2 | (with_reducible refine Kd.C_alloc ?_ _) | (with_reducible refine Kd.C_drewN ?_ _) | (with_reducible refine Kd.C_drew ?_)))); (case side4 => exact (Kd.R_reads' HT.out).2.1); rintro e w' ⟨rfl, ⟨nd, rfl⟩⟩; clear HT; have tok7 := Aside0.mk True.intro) | (go_at_call 15; have tk_ := tok7; clear tk_ tok7; (with_reducible refine (laws_markIntS.calls _ (fun k_ => some k_ = (Value.slice A_HX t0.length c_HX).ownBlock) _ t0 _ kx x' w2 _ ?side1 ?side2 A8.out).mono ?_); (case side1 => exact (by repeat (first | (with_reducible first | exact HU.out | apply below_alloc | apply pw_below_drewN | apply below_drew1) | exact HU.out))); (case side2 => exact Kd.R_tight rfl (by (with_reducible repeat (first | apply Kd.R_alloc | apply Kd.R_drewN | apply Kd.R_drew)); exact HX.out)); rintro e w6 ⟨rfl, ho, hb, hk⟩; have n0_ := Aside0.mk (Kd.S_step (Kd.S_bound (by (with_reducible repeat (first | apply Kd.S_alloc | apply Kd.S_drewN | apply Kd.S_drew)); exact HG.out)) (fun k_ h1_ h2_ => hk.2 k_ h2_ (fun h3_ => by have h4_ := HXl.out k_ h3_.symm; have h5_ := h1_.2.1; have h6_ : k_ < k_ := Nat.lt_of_lt_of_le h4_ h5_; omega))); have n1_ := Aside0.mk hb; clear HG HU; have HG := n0_; clear n0_; have HU := n1_; clear n1_; clear HX HXl ho hb hk; have tok8 := Aside0.mk True.intro))
        (try simp only [Act.put, List.setIfInBounds_toArray, List.set_cons_zero, List.set_cons_succ])
        go_cut [58] (fun v wc => v = .bool false ∧ Aside0 (Kd.S k31 31 wc w3.heap.size (fun _ => True) (.slice A_HG g.length c_HG) g) ∧ Aside0 (Below w2.heap.size w2 wc))
        case first =>
          go_wp2_with (first | (go_at_call 25; have tk_ := tok8; clear tk_ tok8; (with_reducible refine (laws_eqLadderS.calls _ _ _ g _ _ s true _ ?side1 ?side2 ?side3 ?side4 A9.out).mono ?_); (case side1 => (repeat (first | exact (Kd.S_reads' HG.out).2.2 | (with_reducible refine Kd.C_alloc ?_ _) | (with_reducible refine Kd.C_drewN ?_ _) | (with_reducible refine Kd.C_drew ?_)))); (case side2 => exact (Kd.S_reads' HG.out).2.1); (case side3 => (repeat (first | exact (Kd.C_below HW.out HU.out) | (with_reducible refine Kd.C_alloc ?_ _) | (with_reducible refine Kd.C_drewN ?_ _) | (with_reducible refine Kd.C_drew ?_)))); (case side4 => exact HWc.out); rintro e w' ⟨rfl, hb⟩; have n0_ := Aside0.mk (Kd.S_below (by (with_reducible repeat (first | apply Kd.S_alloc | apply Kd.S_drewN | apply Kd.S_drew)); exact HG.out) hb); have n1_ := Aside0.mk (below_step (by repeat (first | (with_reducible first | exact HU.out | apply below_alloc | apply pw_below_drewN | apply below_drew1) | exact HU.out)) hb); clear HG HU; have HG := n0_; clear n0_; have HU := n1_; clear n1_; clear hb; have tok9 := Aside0.mk True.intro))
          go_meet
          case rel => exact ⟨by first | rfl | (simp; done) | (simp [*]; done), ⟨Kd.S_mono (by (with_reducible repeat (first | apply Kd.S_alloc | apply Kd.S_drewN | apply Kd.S_drew)); exact HG.out) (fun _ _ => trivial)⟩, ⟨(by repeat (first | (with_reducible first | exact HU.out | apply below_alloc | apply pw_below_drewN | apply below_drew1) | exact HU.out))⟩⟩
        case rest =>
          clear HG HU
          obtain ⟨rfl, HG, HU⟩ := hcut
          have tok9 := Aside0.mk True.intro
          go_upto_region 23 with (first | (go_at_call 26; have tk_ := tok9; clear tk_ tok9; (with_reducible refine (laws_markLadderS.calls _ (fun _ => True) _ g _ q2 g' w2 _ ?side1 ?side2 A10.out).mono ?_); (case side1 => exact (by repeat (first | (with_reducible first | exact HU.out | apply below_alloc | apply pw_below_drewN | apply below_drew1) | exact HU.out))); (case side2 => exact Kd.S_mono (Kd.S_lower (by (with_reducible repeat (first | apply Kd.S_alloc | apply Kd.S_drewN | apply Kd.S_drew)); exact HG.out) HWl.out) (fun _ _ => trivial)); rintro e w7 ⟨rfl, ho, hb, hk⟩; have n0_ := Aside0.mk ho; have n1_ := Aside0.mk hb; clear HG HU; have HG := n0_; clear n0_; have HU := n1_; clear n1_; clear ho hb hk; have tok10 := Aside0.mk True.intro) | (go_at_call 27; have tk_ := tok10; clear tk_ tok10; refine calls_of_args (args' := #[.slice A_HG g'.length c_HG, .int .i64 1]) (by rw [(Kd.S_reads' HG.out).1]) ?_; (with_reducible refine (laws_heldLadderS.calls _ _ _ g' _ q2 _ ?side1 ?side2 A11.out).mono ?_); (case side1 => (repeat (first | exact (Kd.S_reads' HG.out).2.2 | (with_reducible refine Kd.C_alloc ?_ _) | (with_reducible refine Kd.C_drewN ?_ _) | (with_reducible refine Kd.C_drew ?_)))); (case side2 => have h_ := Kd.S_reads' HG.out; have h1_ := h_.1; have h2_ := h_.2.1; omega); rintro e w' ⟨rfl, ⟨nd, rfl⟩⟩; have tok11 := Aside0.mk True.intro) | (go_at_call 18; have tk_ := tok11; clear tk_ tok11; (with_reducible refine (laws_toIntS.calls _ _ _ l0 t3 _ ?side1 ?side2 A12.out).mono ?_); (case side1 => (repeat (first | exact (Kd.C_below HR0.out (below_step HB.out HU.out)) | (with_reducible refine Kd.C_alloc ?_ _) | (with_reducible refine Kd.C_drewN ?_ _) | (with_reducible refine Kd.C_drew ?_)))); (case side2 => exact HC0.out); rintro e w8 ⟨v_, rfl, ho, hb⟩; have HT := Aside0.mk ho; have n0_ := Aside0.mk (Kd.S_below (by (with_reducible repeat (first | apply Kd.S_alloc | apply Kd.S_drewN | apply Kd.S_drew)); exact HG.out) hb); have n1_ := Aside0.mk (below_step (by repeat (first | (with_reducible first | exact HU.out | apply below_alloc | apply pw_below_drewN | apply below_drew1) | exact HU.out)) hb); clear HG HU; have HG := n0_; clear n0_; have HU := n1_; clear n1_; obtain ⟨A_HT, c_HT, e_HT⟩ := Kd.R_slice HT.out; subst e_HT; clear ho hb; have tok12 := Aside0.mk True.intro) | (go_at_call 24; have tk_ := tok12; clear tk_ tok12; (with_reducible refine (impl_AllLeast.calls _ _ t3 hh _ _ ?side1 ?side2 A13.out).mono ?_); (case side1 => (repeat (first | exact (Kd.R_reads' HT.out).2.2 | (with_reducible refine Kd.C_alloc ?_ _) | (with_reducible refine Kd.C_drewN ?_ _) | (with_reducible refine Kd.C_drew ?_)))); (case side2 => exact (Kd.R_reads' HT.out).2.1); rintro e w9 ⟨v_, rfl, ho, hb⟩; have HH := Aside0.mk ho; have n0_ := Aside0.mk (Kd.S_below (by (with_reducible repeat (first | apply Kd.S_alloc | apply Kd.S_drewN | apply Kd.S_drew)); exact HG.out) hb); have n1_ := Aside0.mk (below_step (by repeat (first | (with_reducible first | exact HU.out | apply below_alloc | apply pw_below_drewN | apply below_drew1) | exact HU.out)) hb); clear HG HU; have HG := n0_; clear n0_; have HU := n1_; clear n1_; obtain ⟨A_HH, c_HH, e_HH⟩ := Kd.S_slice HH.out; subst e_HH; clear ho hb HT; have tok13 := Aside0.mk True.intro))
          (try simp only [Act.put, List.setIfInBounds_toArray, List.set_cons_zero, List.set_cons_succ])
          go_cut [84] (fun v wc => v = .bool false ∧ Aside0 (Kd.S k31 31 wc w2.heap.size (fun _ => True) (.slice A_HG g.length c_HG) g') ∧ Aside0 (Below w2.heap.size w2 wc))
          case first =>
            go_wp2_with (first | (go_at_call 25; have tk_ := tok13; clear tk_ tok13; (with_reducible refine (laws_eqLadderS.calls _ _ _ hh _ _ s true _ ?side1 ?side2 ?side3 ?side4 A14.out).mono ?_); (case side1 => (repeat (first | exact (Kd.S_reads' HH.out).2.2 | (with_reducible refine Kd.C_alloc ?_ _) | (with_reducible refine Kd.C_drewN ?_ _) | (with_reducible refine Kd.C_drew ?_)))); (case side2 => exact (Kd.S_reads' HH.out).2.1); (case side3 => (repeat (first | exact (Kd.C_below HW.out HU.out) | (with_reducible refine Kd.C_alloc ?_ _) | (with_reducible refine Kd.C_drewN ?_ _) | (with_reducible refine Kd.C_drew ?_)))); (case side4 => exact HWc.out); rintro e w' ⟨rfl, hb⟩; have n0_ := Aside0.mk (Kd.S_below (by (with_reducible repeat (first | apply Kd.S_alloc | apply Kd.S_drewN | apply Kd.S_drew)); exact HG.out) hb); have n1_ := Aside0.mk (below_step (by repeat (first | (with_reducible first | exact HU.out | apply below_alloc | apply pw_below_drewN | apply below_drew1) | exact HU.out)) hb); clear HG HU; have HG := n0_; clear n0_; have HU := n1_; clear n1_; clear hb; clear HH; have tok14 := Aside0.mk True.intro))
            go_meet
            case rel => exact ⟨by first | rfl | (simp; done) | (simp [*]; done), ⟨Kd.S_mono (by (with_reducible repeat (first | apply Kd.S_alloc | apply Kd.S_drewN | apply Kd.S_drew)); exact HG.out) (fun _ _ => trivial)⟩, ⟨(by repeat (first | (with_reducible first | exact HU.out | apply below_alloc | apply pw_below_drewN | apply below_drew1) | exact HU.out))⟩⟩
          case rest =>
            clear HG HU
            obtain ⟨rfl, HG, HU⟩ := hcut
            have tok14 := Aside0.mk True.intro
            go_wp2_with (first | (go_at_call 27; have tk_ := tok14; clear tk_ tok14; refine calls_of_args (args' := #[.slice A_HG g'.length c_HG, .int .i64 1]) (by rw [(Kd.S_reads' HG.out).1]) ?_; (with_reducible refine (laws_heldLadderS.calls _ _ _ g' _ q2 _ ?side1 ?side2 A15.out).mono ?_); (case side1 => (repeat (first | exact (Kd.S_reads' HG.out).2.2 | (with_reducible refine Kd.C_alloc ?_ _) | (with_reducible refine Kd.C_drewN ?_ _) | (with_reducible refine Kd.C_drew ?_)))); (case side2 => have h_ := Kd.S_reads' HG.out; have h1_ := h_.1; have h2_ := h_.2.1; omega); rintro e w' ⟨rfl, ⟨nd, rfl⟩⟩; have tok15 := Aside0.mk True.intro))
            go_ret
            exact ⟨by first | rfl | (simp; done) | (simp [*]; done), below_step HB.out (by repeat (first | (with_reducible first | exact HU.out | apply below_alloc | apply pw_below_drewN | apply below_drew1) | exact HU.out))⟩
    · exfalso; rw [if_neg b4] at h; cases h

/-- THE ONE PURE STATEMENT of laws_FnExactAllLeast. -/
def laws_FnExactAllLeast.Pure : Prop := ∀ (l0 : List Int), l0.length ≤ maxLen → l0.length * 8 ≤ 140737488351232 → (∀ x ∈ l0, (Lit.int .i64 x).wf = true) → ∃ k, laws_FnExactAllLeast.f k l0 = some true
theorem laws_FnExactAllLeast.walk (P : laws_FnExactAllLeast.Pure) (a0 : Option Addr) (len0 cap0 : Nat) (z0 : List Int) (w : World) (w0 : (a0 = none ∧ len0 = 0 ∧ cap0 = 0 ∧ z0 = []) ∨ ∃ x, a0 = some x ∧ len0 ≤ cap0 ∧ cap0 ≤ maxLen ∧ z0.length = cap0 ∧ (∀ i, i < z0.length → w.cell? (x.add i) = some (.int .i64 (z0.getD i 0))) ∧ ∀ n ∈ z0, (Lit.int .i64 n).wf = true) (y0 : len0 * 8 ≤ 140737488351232) :
    Calls Try.prog 6 #[.slice a0 len0 cap0] w fun e w' => e = .returned (.bool true) ∧ Below w.heap.size w w' := by
  obtain ⟨l0, rfl, hr0, hm0, hw0, hc0⟩ := ReadsInt.ofRowC w0
  obtain ⟨k, h⟩ := P l0 hm0 y0 hw0
  refine (laws_FnExactAllLeast.calls k _ _ l0 w (Kd.C_of_reads (d := (0 : Int)) (h1 := fun _ => rfl) hr0) hc0 h).mono ?_
  rintro e w' ⟨rfl, hd⟩
  exact ⟨rfl, hd⟩

end
end Go.Proofs.Ytnddmmjofpfmfaa.PAl
