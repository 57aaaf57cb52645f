-- Written for this claim by a program of this session (myprint.py) over the kit's printer.
import Derived.Test.YtnddmmjofpfmfaaPAlx0
import Derived.Test.YtnddmmjofpfmfaaPAlx1
import Derived.Test.YtnddmmjofpfmfaaPAlx5
import Derived.Test.YtnddmmjofpfmfaaPAlx6
namespace Go.Proofs.Ytnddmmjofpfmfaa.PAl
noncomputable section
open Go.RowKit Go.Proofs.YtnddmmjofpfmfaaW.PrintWords Go.Proofs.YtnddmmjofpfmfaaW.PrintLast Go.Proofs.YtnddmmjofpfmfaaW.PrintMore
attribute [local go_sem] max2_int min2_int max_two min_two max_three min_three max_four min_four   -- for this text's walks alone
set_option linter.unusedVariables false
set_option linter.unusedSimpArgs false

/-! ### impl_isOrder: function 83 -/
def impl_isOrder.l0 : Nat → List Int → List Int → Int → Int → Option (Bool)
  | 0, _, _, _, _ => none
  | k + 1, x0, x9, x10, x11 => if x11 < x10 then (if 0 ≤ x11 then (if x11 < (x9.length : Int) then ((impl_between.f (rd x9 x11) 0 (wrap64 ((x0.length : Int) - 1))).bind fun t199 => (if t199 = true then (if x11 ≤ (x0.length : Int) then ((slices_Contains_int_int.f k (x0.take (x11 : Int).toNat) (rd x9 x11)).bind fun t204 => (if t204 = true then (some false) else (impl_isOrder.l0 k x0 x9 x10 (wrap64 (x11 + 1))))) else (none)) else (some false))) else (none)) else (none)) else (some true)
def impl_isOrder.f (k : Nat) (l0 : List Int) : Option (Bool) := (impl_between.f (l0.length : Int) 1 8).bind fun t197 => (if t197 = true then (impl_isOrder.l0 k l0 l0 (l0.length : Int) 0) else (some false))
theorem impl_isOrder.mono_l : ∀ k, (∀ y0 y1 y2 y3, LeO (impl_isOrder.l0 k y0 y1 y2 y3) (impl_isOrder.l0 (k + 1) y0 y1 y2 y3))
  | 0 => fun _ _ _ _ r h => by simp [impl_isOrder.l0] at h
  | k + 1 => by
    have ih0 := impl_isOrder.mono_l k
    · intro y0 y1 y2 y3
      unfold impl_isOrder.l0
      repeat' first
      | (with_reducible exact ih0 _ _ _ _)
      | (with_reducible exact slices_Contains_int_int.mono _ _ _)
      | (with_reducible exact LeO.refl _)
      | (with_reducible exact LeO.none _)
      | (with_reducible refine LeO.ite ?_ ?_)
      | (with_reducible refine LeO.bind ?_ (fun _ => ?_))
      | exact ih0 _ _ _ _
      | exact slices_Contains_int_int.mono _ _ _
      | exact LeO.none _
      | refine LeO.ite ?_ ?_
      | refine LeO.bind ?_ (fun _ => ?_)
theorem impl_isOrder.mono : ∀ a0 k, LeO (impl_isOrder.f k a0) (impl_isOrder.f (k + 1) a0) := by
  intro a0 k
  have ih0 := impl_isOrder.mono_l k
  unfold impl_isOrder.f
  repeat' first
      | (with_reducible exact ih0 _ _ _ _)
      | (with_reducible exact slices_Contains_int_int.mono _ _ _)
      | (with_reducible exact LeO.refl _)
      | (with_reducible exact LeO.none _)
      | (with_reducible refine LeO.ite ?_ ?_)
      | (with_reducible refine LeO.bind ?_ (fun _ => ?_))
      | exact ih0 _ _ _ _
      | exact slices_Contains_int_int.mono _ _ _
      | exact LeO.none _
      | refine LeO.ite ?_ ?_
      | refine LeO.bind ?_ (fun _ => ?_)
set_option maxHeartbeats 8000000 in
set_option maxRecDepth 100000 in
theorem impl_isOrder.calls (k : Nat) (A0 : Option Addr) (c0 : Nat) (l0 : List Int) (r : Bool) (w : World) (hr0 : Kd.C (Kd.int .i64) w A0 l0.length l0) (hc0 : l0.length ≤ c0) (h : impl_isOrder.f k l0 = some r) :
    Calls Try.prog 83 #[.slice A0 l0.length c0] w fun e w' => e = .returned (.bool r) ∧ Drawn0 w w' := by
  have HR0 := Aside0.mk hr0
  have HC0 := Aside0.mk hc0
  clear hr0 hc0
  have H : ((impl_between.f (l0.length : Int) 1 8).bind fun t197 => (if t197 = true then (impl_isOrder.l0 k l0 l0 (l0.length : Int) 0) else (some false))) = some r := h
  clear h
  replace H := Option.bind_eq_some_iff.mp H
  obtain ⟨t197, A20, H⟩ := H
  replace H : (if t197 = true then (impl_isOrder.l0 k l0 l0 (l0.length : Int) 0) else (some false)) = some r := H
  have A2 := Aside0.mk A20
  clear A20
  by_cases c3 : t197 = true
  · subst c3
    have H1 : (impl_isOrder.l0 k l0 l0 (l0.length : Int) 0) = some r := by rw [if_pos rfl] at H; exact H
    clear H
    have H := H1
    clear H1
    have H' := Aside0.mk H
    clear H
    go_enter Try.func83, Try.ntmps83
    go_wp2_with (first | ((with_reducible refine gate_callee (f := 60) rfl ?_); refine goesL_ (some 7) rfl rfl Try.func60 (by kernel_rfl) rfl #[.int .i64 (l0.length : Int), .int .i64 1, .int .i64 8] rfl (by (try simp only [List.map_toArray, List.map_cons, List.map_nil]); first | done | rfl | (simp only [List.length_drop, List.length_take]; rfl)) ?_; (with_reducible refine (impl_between.calls (l0.length : Int) 1 8 true _ A2.out).mono ?_); rintro e w' ⟨rfl, ⟨nd, rfl⟩⟩; refine ⟨_, rfl, ?_⟩))
    go_loopg [11] k (fun kq v11 w' => ∃ (x11_1 : Int), v11 = .int .i64 x11_1 ∧ Aside0 (impl_isOrder.l0 kq l0 l0 (l0.length : Int) x11_1 = some r) ∧ Aside0 (kq ≤ k) ∧ Drawn0 w w')
    case atStart => exact ⟨(0), (by first | rfl | (simp; done) | (simp [*]; done)), H', ⟨Nat.le_refl _⟩, by repeat (first | exact Drawn0.refl _ | apply Drawn0.step)⟩
    case round =>
      clear H'
      try clear p2
      try clear c3
      obtain ⟨x11_1, rfl, HA, HK1, ⟨m1, rfl⟩⟩ := hrel
      cases gk with
      | zero => exact absurd HA.out (by simp [impl_isOrder.l0])
      | succ k1 =>
        have H := HA.out
        clear HA
        simp only [impl_isOrder.l0] at H
        by_cases c4 : x11_1 < (l0.length : Int)
        · rw [if_pos c4] at H
          have c4b0 : decide (x11_1 < (l0.length : Int)) = true := decide_eq_true c4
          clear c4
          by_cases c5 : 0 ≤ x11_1
          · rw [if_pos c5] at H
            have c5b0 : decide (0 ≤ x11_1) = true := decide_eq_true c5
            clear c5
            by_cases c6 : x11_1 < (l0.length : Int)
            · rw [if_pos c6] at H
              have c6b0 : decide (x11_1 < (l0.length : Int)) = true := decide_eq_true c6
              clear c6
              replace H := Option.bind_eq_some_iff.mp H
              obtain ⟨t199, A70, H⟩ := H
              replace H : (if t199 = true then (if x11_1 ≤ (l0.length : Int) then ((slices_Contains_int_int.f k1 (l0.take (x11_1 : Int).toNat) (rd l0 x11_1)).bind fun t204 => (if t204 = true then (some false) else (impl_isOrder.l0 k1 l0 l0 (l0.length : Int) (wrap64 (x11_1 + 1))))) else (none)) else (some false)) = some r := H
              have A7 := Aside0.mk A70
              clear A70
              by_cases c8 : t199 = true
              · subst c8
                have H1 : (if x11_1 ≤ (l0.length : Int) then ((slices_Contains_int_int.f k1 (l0.take (x11_1 : Int).toNat) (rd l0 x11_1)).bind fun t204 => (if t204 = true then (some false) else (impl_isOrder.l0 k1 l0 l0 (l0.length : Int) (wrap64 (x11_1 + 1))))) else (none)) = some r := by rw [if_pos rfl] at H; exact H
                clear H
                have H := H1
                clear H1
                have c9b0 := eq_true (of_decide_eq_true (by first | (with_reducible assumption) | assumption) : 0 ≤ x11_1)
                by_cases c10 : x11_1 ≤ (l0.length : Int)
                · rw [if_pos c10] at H
                  have c10b0 := eq_true c10
                  have c10b1 : decide (x11_1 ≤ (l0.length : Int)) = true := decide_eq_true c10
                  clear c10
                  obtain ⟨y200, hy200⟩ : ∃ y_ : List Int, y_ = (l0.take (x11_1 : Int).toNat) := ⟨_, rfl⟩
                  replace H : ((slices_Contains_int_int.f k1 y200 (rd l0 x11_1)).bind fun t204 => (if t204 = true then (some false) else (impl_isOrder.l0 k1 l0 l0 (l0.length : Int) (wrap64 (x11_1 + 1))))) = some r := by first | (rw [hy200]; with_reducible exact H) | (have H2_ := (Option.bind_some _ _).symm.trans H; rw [hy200]; with_reducible exact H2_) | (have H2_ := (Option.bind_some _ _).symm.trans H; with_reducible exact H2_) | with_reducible exact H | (rw [hy200]; exact H) | exact H
                  have Ny200 := Aside0.mk hy200
                  clear hy200
                  replace H := Option.bind_eq_some_iff.mp H
                  obtain ⟨t204, A110, H⟩ := H
                  replace H : (if t204 = true then (some false) else (impl_isOrder.l0 k1 l0 l0 (l0.length : Int) (wrap64 (x11_1 + 1)))) = some r := H
                  have A11 := Aside0.mk A110
                  clear A110
                  by_cases c12 : t204 = true
                  · subst c12
                    have H1 : (some false) = some r := by rw [if_pos rfl] at H; exact H
                    clear H
                    have H := H1
                    clear H1
                    obtain rfl := Option.some.inj H
                    have p198 : 0 ≤ (x11_1 : Int) := of_decide_eq_true (by first | (with_reducible assumption) | assumption)
                    have q198 : x11_1 < (l0.length : Int) := of_decide_eq_true (by first | (with_reducible assumption) | assumption)
                    obtain ⟨ad198, e198, hx198_0⟩ := Kd.at_int HR0.out x11_1 p198 q198
                    cases e198
                    replace p198 := eq_true p198
                    replace q198 := eq_true q198
                    go_wp2_with (first | ((with_reducible refine gate_callee (f := 60) rfl ?_); refine goesL_ (some 20) rfl rfl Try.func60 (by kernel_rfl) rfl #[.int .i64 (rd l0 x11_1), .int .i64 0, .int .i64 (wrap64 ((l0.length : Int) - 1))] rfl (by (try simp only [List.map_toArray, List.map_cons, List.map_nil]); first | done | rfl | (simp only [List.length_drop, List.length_take]; rfl)) ?_; (with_reducible refine (impl_between.calls (rd l0 x11_1) 0 (wrap64 ((l0.length : Int) - 1)) true _ A7.out).mono ?_); rintro e w' ⟨rfl, ⟨nd, rfl⟩⟩; refine ⟨_, rfl, ?_⟩; have q13 : (x11_1 : Int) ≤ ((l0.length : Int) : Int) := of_decide_eq_true (by first | (with_reducible assumption) | assumption); obtain ⟨i013, hi013, _, hsz13, _⟩ := info_parts info3; have hroom13 : l0.length ≤ c0 := HC0.out; have hC13 : Kd.C (Kd.int .i64) _ (some ad198) l0.length l0 := HR0.out; have hcut13 := cut_to (P := Try.prog) 25 3 .i64 Try.underlying25 hi013 (some ad198) l0.length c0 x11_1 (of_decide_eq_true (by first | (with_reducible assumption) | assumption)) q13 hroom13; have hr13 := Kd.C_take (m := (x11_1 : Int).toNat) hC13 (by omega); have hy13 : y200.length = (x11_1 : Int).toNat := (by rw [Ny200.out, List.length_take]; omega); rw [← Ny200.out] at hr13; rw [← hy13] at hcut13; have HR203 := Aside0.mk hr13; have HC203 := Aside0.mk (show y200.length ≤ c0 from by omega); clear hr13 hC13 hroom13 hi013 hsz13; have KY13 := Aside0.mk hy13; clear hy13; replace q13 := eq_true q13) | (go_at_call 112; refine calls_of_args (args' := #[.slice (some ad198) y200.length c0, .int .i64 (rd l0 x11_1)]) ?cuta205 ?_; (case cuta205 => first | rfl | (rw [List.length_take, Nat.min_eq_left (Int.toNat_le.mpr (of_eq_true (by with_reducible assumption)))]) | (rw [List.length_take, Nat.min_eq_left (Int.toNat_le.mpr (of_decide_eq_true (by with_reducible assumption)))]) | (rw [List.length_drop]) | (simp only [List.length_drop, List.length_take]; rfl) | (simp [List.length_drop, List.length_take]; omega)); (with_reducible refine (slices_Contains_int_int.calls k1 _ _ y200 (rd l0 x11_1) true _ ?side1 ?side2 A11.out).mono ?_); (case side1 => repeat (first | exact HR203.out | (with_reducible refine Kd.C_alloc ?_ _) | (with_reducible refine Kd.C_drewN ?_ _) | (with_reducible refine Kd.C_drew ?_))); (case side2 => exact HC203.out); rintro e w' ⟨rfl, ⟨nd, rfl⟩⟩))
                    go_ret
                    exact ⟨by first | rfl | (simp; done) | (simp [*]; done), by repeat (first | exact Drawn0.refl _ | apply Drawn0.step)⟩
                  · replace c12 := Bool.eq_false_iff.mpr c12
                    subst c12
                    have H1 : (impl_isOrder.l0 k1 l0 l0 (l0.length : Int) (wrap64 (x11_1 + 1))) = some r := by rw [if_neg (show ¬ (false = true) by decide)] at H; exact H
                    clear H
                    have H := H1
                    clear H1
                    have H' := Aside0.mk H
                    clear H
                    have p198 : 0 ≤ (x11_1 : Int) := of_decide_eq_true (by first | (with_reducible assumption) | assumption)
                    have q198 : x11_1 < (l0.length : Int) := of_decide_eq_true (by first | (with_reducible assumption) | assumption)
                    obtain ⟨ad198, e198, hx198_0⟩ := Kd.at_int HR0.out x11_1 p198 q198
                    cases e198
                    replace p198 := eq_true p198
                    replace q198 := eq_true q198
                    go_wp2_with (first | ((with_reducible refine gate_callee (f := 60) rfl ?_); refine goesL_ (some 20) rfl rfl Try.func60 (by kernel_rfl) rfl #[.int .i64 (rd l0 x11_1), .int .i64 0, .int .i64 (wrap64 ((l0.length : Int) - 1))] rfl (by (try simp only [List.map_toArray, List.map_cons, List.map_nil]); first | done | rfl | (simp only [List.length_drop, List.length_take]; rfl)) ?_; (with_reducible refine (impl_between.calls (rd l0 x11_1) 0 (wrap64 ((l0.length : Int) - 1)) true _ A7.out).mono ?_); rintro e w' ⟨rfl, ⟨nd, rfl⟩⟩; refine ⟨_, rfl, ?_⟩; have q14 : (x11_1 : Int) ≤ ((l0.length : Int) : Int) := of_decide_eq_true (by first | (with_reducible assumption) | assumption); obtain ⟨i014, hi014, _, hsz14, _⟩ := info_parts info3; have hroom14 : l0.length ≤ c0 := HC0.out; have hC14 : Kd.C (Kd.int .i64) _ (some ad198) l0.length l0 := HR0.out; have hcut14 := cut_to (P := Try.prog) 25 3 .i64 Try.underlying25 hi014 (some ad198) l0.length c0 x11_1 (of_decide_eq_true (by first | (with_reducible assumption) | assumption)) q14 hroom14; have hr14 := Kd.C_take (m := (x11_1 : Int).toNat) hC14 (by omega); have hy14 : y200.length = (x11_1 : Int).toNat := (by rw [Ny200.out, List.length_take]; omega); rw [← Ny200.out] at hr14; rw [← hy14] at hcut14; have HR203 := Aside0.mk hr14; have HC203 := Aside0.mk (show y200.length ≤ c0 from by omega); clear hr14 hC14 hroom14 hi014 hsz14; have KY14 := Aside0.mk hy14; clear hy14; replace q14 := eq_true q14) | (go_at_call 112; refine calls_of_args (args' := #[.slice (some ad198) y200.length c0, .int .i64 (rd l0 x11_1)]) ?cuta206 ?_; (case cuta206 => first | rfl | (rw [List.length_take, Nat.min_eq_left (Int.toNat_le.mpr (of_eq_true (by with_reducible assumption)))]) | (rw [List.length_take, Nat.min_eq_left (Int.toNat_le.mpr (of_decide_eq_true (by with_reducible assumption)))]) | (rw [List.length_drop]) | (simp only [List.length_drop, List.length_take]; rfl) | (simp [List.length_drop, List.length_take]; omega)); (with_reducible refine (slices_Contains_int_int.calls k1 _ _ y200 (rd l0 x11_1) false _ ?side1 ?side2 A11.out).mono ?_); (case side1 => repeat (first | exact HR203.out | (with_reducible refine Kd.C_alloc ?_ _) | (with_reducible refine Kd.C_drewN ?_ _) | (with_reducible refine Kd.C_drew ?_))); (case side2 => exact HC203.out); rintro e w' ⟨rfl, ⟨nd, rfl⟩⟩))
                    go_roundg k1
                    case measure => have := HK1.out; omega
                    case rel => exact ⟨(wrap64 (x11_1 + 1)), (by first | rfl | (simp; done) | (simp [*]; done)), H', ⟨by have := HK1.out; omega⟩, by repeat (first | exact Drawn0.refl _ | apply Drawn0.step)⟩
                · rw [if_neg c10] at H
                  exact absurd H (by simp)
              · replace c8 := Bool.eq_false_iff.mpr c8
                subst c8
                have H1 : (some false) = some r := by rw [if_neg (show ¬ (false = true) by decide)] at H; exact H
                clear H
                have H := H1
                clear H1
                obtain rfl := Option.some.inj H
                have p198 : 0 ≤ (x11_1 : Int) := of_decide_eq_true (by first | (with_reducible assumption) | assumption)
                have q198 : x11_1 < (l0.length : Int) := of_decide_eq_true (by first | (with_reducible assumption) | assumption)
                obtain ⟨ad198, e198, hx198_0⟩ := Kd.at_int HR0.out x11_1 p198 q198
                cases e198
                replace p198 := eq_true p198
                replace q198 := eq_true q198
                go_wp2_with (first | ((with_reducible refine gate_callee (f := 60) rfl ?_); refine goesL_ (some 20) rfl rfl Try.func60 (by kernel_rfl) rfl #[.int .i64 (rd l0 x11_1), .int .i64 0, .int .i64 (wrap64 ((l0.length : Int) - 1))] rfl (by (try simp only [List.map_toArray, List.map_cons, List.map_nil]); first | done | rfl | (simp only [List.length_drop, List.length_take]; rfl)) ?_; (with_reducible refine (impl_between.calls (rd l0 x11_1) 0 (wrap64 ((l0.length : Int) - 1)) false _ A7.out).mono ?_); rintro e w' ⟨rfl, ⟨nd, rfl⟩⟩; refine ⟨_, rfl, ?_⟩))
                go_ret
                exact ⟨by first | rfl | (simp; done) | (simp [*]; done), by repeat (first | exact Drawn0.refl _ | apply Drawn0.step)⟩
            · rw [if_neg c6] at H
              exact absurd H (by simp)
          · rw [if_neg c5] at H
            exact absurd H (by simp)
        · rw [if_neg c4] at H
          have c4b0 : decide (x11_1 < (l0.length : Int)) = false := decide_eq_false c4
          clear c4
          obtain rfl := Option.some.inj H
          go_wp2
          go_ret
          exact ⟨by first | rfl | (simp; done) | (simp [*]; done), by repeat (first | exact Drawn0.refl _ | apply Drawn0.step)⟩
  · replace c3 := Bool.eq_false_iff.mpr c3
    subst c3
    have H1 : (some false) = some r := by rw [if_neg (show ¬ (false = true) by decide)] at H; exact H
    clear H
    have H := H1
    clear H1
    obtain rfl := Option.some.inj H
    go_enter Try.func83, Try.ntmps83
    go_wp2_with (first | ((with_reducible refine gate_callee (f := 60) rfl ?_); refine goesL_ (some 7) rfl rfl Try.func60 (by kernel_rfl) rfl #[.int .i64 (l0.length : Int), .int .i64 1, .int .i64 8] rfl (by (try simp only [List.map_toArray, List.map_cons, List.map_nil]); first | done | rfl | (simp only [List.length_drop, List.length_take]; rfl)) ?_; (with_reducible refine (impl_between.calls (l0.length : Int) 1 8 false _ A2.out).mono ?_); rintro e w' ⟨rfl, ⟨nd, rfl⟩⟩; refine ⟨_, rfl, ?_⟩))
    go_ret
    exact ⟨by first | rfl | (simp; done) | (simp [*]; done), by repeat (first | exact Drawn0.refl _ | apply Drawn0.step)⟩

/-! ### impl_isCounted: function 67 -/
def impl_isCounted.f (k : Nat) (l0 : List Int) : Option (Bool) := (impl_isOrder.f k l0).bind fun t207 => (if t207 = true then ((impl_between.f (l0.length : Int) 2 6).bind fun t208 => (some t208)) else (some false))
theorem impl_isCounted.mono : ∀ a0 k, LeO (impl_isCounted.f k a0) (impl_isCounted.f (k + 1) a0) := by
  intro a0 k
  unfold impl_isCounted.f
  repeat' first
      | (with_reducible exact impl_isOrder.mono _ _)
      | (with_reducible exact LeO.refl _)
      | (with_reducible exact LeO.none _)
      | (with_reducible refine LeO.ite ?_ ?_)
      | (with_reducible refine LeO.bind ?_ (fun _ => ?_))
      | exact impl_isOrder.mono _ _
      | exact LeO.none _
      | refine LeO.ite ?_ ?_
      | refine LeO.bind ?_ (fun _ => ?_)
set_option maxHeartbeats 8000000 in
set_option maxRecDepth 100000 in
theorem impl_isCounted.calls (k : Nat) (A0 : Option Addr) (c0 : Nat) (l0 : List Int) (r : Bool) (w : World) (hr0 : Kd.C (Kd.int .i64) w A0 l0.length l0) (hc0 : l0.length ≤ c0) (h : impl_isCounted.f k l0 = some r) :
    Calls Try.prog 67 #[.slice A0 l0.length c0] w fun e w' => e = .returned (.bool r) ∧ Drawn0 w w' := by
  have HR0 := Aside0.mk hr0
  have HC0 := Aside0.mk hc0
  clear hr0 hc0
  have H : ((impl_isOrder.f k l0).bind fun t207 => (if t207 = true then ((impl_between.f (l0.length : Int) 2 6).bind fun t208 => (some t208)) else (some false))) = some r := h
  clear h
  replace H := Option.bind_eq_some_iff.mp H
  obtain ⟨t207, A20, H⟩ := H
  replace H : (if t207 = true then ((impl_between.f (l0.length : Int) 2 6).bind fun t208 => (some t208)) else (some false)) = some r := H
  have A2 := Aside0.mk A20
  clear A20
  by_cases c3 : t207 = true
  · subst c3
    have H1 : ((impl_between.f (l0.length : Int) 2 6).bind fun t208 => (some t208)) = some r := by rw [if_pos rfl] at H; exact H
    clear H
    have H := H1
    clear H1
    replace H := Option.bind_eq_some_iff.mp H
    obtain ⟨t208, A40, H⟩ := H
    replace H : (some t208) = some r := H
    have A4 := Aside0.mk A40
    clear A40
    obtain rfl := Option.some.inj H
    go_enter Try.func67, Try.ntmps67
    go_wp2_with (first | ((with_reducible refine gate_callee (f := 83) rfl ?_); refine goesL_ (some 4) rfl rfl Try.func83 (by kernel_rfl) rfl #[.slice A0 l0.length c0] rfl (by (try simp only [List.map_toArray, List.map_cons, List.map_nil]); first | done | rfl | (simp only [List.length_drop, List.length_take]; rfl)) ?_; (with_reducible refine (impl_isOrder.calls k _ _ l0 true _ ?side1 ?side2 A2.out).mono ?_); (case side1 => repeat (first | exact HR0.out | (with_reducible refine Kd.C_alloc ?_ _) | (with_reducible refine Kd.C_drewN ?_ _) | (with_reducible refine Kd.C_drew ?_))); (case side2 => exact HC0.out); rintro e w' ⟨rfl, ⟨nd, rfl⟩⟩; refine ⟨_, rfl, ?_⟩) | (go_at_call 60; (with_reducible refine (impl_between.calls (l0.length : Int) 2 6 t208 _ A4.out).mono ?_); rintro e w' ⟨rfl, ⟨nd, rfl⟩⟩))
    go_ret
    exact ⟨by first | rfl | (simp; done) | (simp [*]; done), by repeat (first | exact Drawn0.refl _ | apply Drawn0.step)⟩
  · replace c3 := Bool.eq_false_iff.mpr c3
    subst c3
    have H1 : (some false) = some r := by rw [if_neg (show ¬ (false = true) by decide)] at H; exact H
    clear H
    have H := H1
    clear H1
    obtain rfl := Option.some.inj H
    go_enter Try.func67, Try.ntmps67
    go_wp2_with (first | ((with_reducible refine gate_callee (f := 83) rfl ?_); refine goesL_ (some 4) rfl rfl Try.func83 (by kernel_rfl) rfl #[.slice A0 l0.length c0] rfl (by (try simp only [List.map_toArray, List.map_cons, List.map_nil]); first | done | rfl | (simp only [List.length_drop, List.length_take]; rfl)) ?_; (with_reducible refine (impl_isOrder.calls k _ _ l0 false _ ?side1 ?side2 A2.out).mono ?_); (case side1 => repeat (first | exact HR0.out | (with_reducible refine Kd.C_alloc ?_ _) | (with_reducible refine Kd.C_drewN ?_ _) | (with_reducible refine Kd.C_drew ?_))); (case side2 => exact HC0.out); rintro e w' ⟨rfl, ⟨nd, rfl⟩⟩; refine ⟨_, rfl, ?_⟩))
    go_ret
    exact ⟨by first | rfl | (simp; done) | (simp [*]; done), by repeat (first | exact Drawn0.refl _ | apply Drawn0.step)⟩

/-! ### impl_all: function 103 -/
open Classical in
noncomputable def impl_all.ev {α : Type} (g : Nat → Option α) : Option α := if h : ∃ k r, g k = some r then g h.choose else none
theorem impl_all.ev_some {α : Type} {g : Nat → Option α} {r : α} (h : impl_all.ev g = some r) : ∃ k, g k = some r := by
  unfold impl_all.ev at h
  split at h
  · exact ⟨_, h⟩
  · cases h
def impl_all.lp (G : List Int → List Int → List S31 → Option (List S31)) (l1 l2 ds : List Int) : Nat → Nat → List S31 → Option (List S31)
  | 0, _, xs => some xs
  | m + 1, i, xs => (slices_Clone_int_int.f l1).bind fun c => if c.length < 1000 then (impl_exchanged.f l2 (rd ds i)).bind fun q => (G (c ++ [rd ds i]) q xs).bind fun ys => impl_all.lp G l1 l2 ds m (i + 1) ys else none
noncomputable def impl_all.g : Nat → Int → List Int → List Int → List S31 → Option (List S31)
  | 0, _, _, _, _ => none
  | d + 1, a0, l1, l2, xs => (impl_all.ev fun k => impl_descents.f k l2).bind fun ds => if ds.length = 0 then (if xs.length < 100000 then some (xs ++ [⟨a0, l1⟩]) else none) else impl_all.lp (fun l1' l2' xs' => impl_all.g d a0 l1' l2' xs') l1 l2 ds ds.length 0 xs
set_option maxHeartbeats 8000000 in
set_option maxRecDepth 100000 in
theorem impl_all.calls_g : ∀ (d : Nat) (a0 : Int) (Pd : Nat → Prop) (A1 : Option Addr) (c1 : Nat) (l1 : List Int) (Pp : Nat → Prop) (A2 : Option Addr) (c2 : Nat) (l2 : List Int) (P : Nat → Prop) (v : Value) (xs ys : List S31) (w0 w : World) (hB : Below w0.heap.size w0 w) (h1 : Kd.R (Kd.int .i64) 3 w w0.heap.size Pd (.slice A1 l1.length c1) l1) (h1p : ∀ k, Pd k → ¬ P k) (h2 : Kd.F (Kd.int .i64) w Pp A2 l2.length l2) (hc2 : l2.length ≤ c2) (h2p : ∀ k, Pp k → ¬ P k) (hS : Kd.S k31 31 w w0.heap.size P v xs) (hPw : ∀ k, P k → k < w.heap.size) (h : impl_all.g d a0 l1 l2 xs = some ys),
    Calls Try.prog 103 #[.int .i64 a0, .slice A1 l1.length c1, .slice A2 l2.length c2, v] w fun e w' => ∃ v0_ : Value, e = .returned v0_ ∧ Kd.S k31 31 w' w0.heap.size (fun k => P k ∨ Pd k ∨ w.heap.size ≤ k) v0_ ys ∧ Below w0.heap.size w0 w' ∧ Kept w w' P
  | 0, _, _, _, _, _, _, _, _, _, _, _, _, _, _, _, _, _, _, _, _, _, _, _, h => by cases h
  | d + 1, a0, Pd, A1, c1, l1, Pp, A2, c2, l2, P, v, xs, ys, w0, w, hB, h1, h1p, h2, hc2, h2p, hS, hPw, h => by
    obtain ⟨ds, hd, h⟩ := Option.bind_eq_some_iff.1 h
    obtain ⟨kd, hd⟩ := impl_all.ev_some hd
    have HD := Aside0.mk hd
    have HB := Aside0.mk hB
    have H1 := Aside0.mk h1
    have H2 := Aside0.mk h2
    have HC2 := Aside0.mk hc2
    have HS := Aside0.mk hS
    have HP1 := Aside0.mk h1p
    have HP2 := Aside0.mk h2p
    have HPw := Aside0.mk hPw
    clear hd hB h1 h2 hc2 hS h1p h2p hPw
    by_cases c : ds.length = 0
    · rw [if_pos c] at h
      split at h
      case isFalse => cases h
      rename_i hx
      obtain rfl := Option.some.inj h
      have HX := Aside0.mk hx
      clear h hx
      have cb : ((ds.length : Int) == 0) = true := beq_iff_eq.mpr (by omega)
      have cd : decide ((ds.length : Int) = 0) = true := decide_eq_true (by omega)
      have HV : Aside0 (∀ k, v.ownBlock = some k → P k) := Aside0.mk (Kd.S_R HS.out).1
      go_enter Try.func103, Try.ntmps103
      go_wp2_with (first | (go_at_call 68; (with_reducible refine (impl_descents.calls kd _ _ l2 ds _ ?side1 HC2.out HD.out).mono ?_); (case side1 => exact Kd.F_now H2.out); rintro e w2 ⟨v2, rfl, hr2, hb2⟩; obtain ⟨A9, c9, e9⟩ := Kd.R_slice hr2; subst e9; have HB2 := Aside0.mk (below_step HB.out hb2); have HBw := Aside0.mk hb2; have H12 := Aside0.mk (Kd.R_below H1.out hb2); have HS2 := Aside0.mk (Kd.S_below HS.out hb2); clear hr2 hb2) | ((with_reducible refine gate_builtin (b := .append) (xs := #[.tmp 17, .tmp 21]) rfl ?_); at_builtin; refine Kd.S_append k31 (w0 := w0) w0.heap.size rfl (.tmp 17) (.tmp 21) 38 31 (.agg #[(.int .i64 0), (.slice none 0 0)]) 32 rfl Try.underlying38 info31 rfl (by decide) (by omega) v xs (⟨a0, l1⟩ : S31) [.int .i64 a0, .slice A1 l1.length c1] (fun k => P k ∨ Pd k ∨ w.heap.size ≤ k) Pd rfl rfl ?aP ?aK ?aF ?aO ?aB ?aS ?aL ?_; (case aP => exact k31_mkM _ _ _ ⟨a0, l1⟩ H12.out); (case aK => exact fun k hk => ⟨.inr (.inl hk), fun e_ => HP1.out k hk (HV.out k e_.symm)⟩); (case aF => exact fun k hk => .inr (.inr (Nat.le_trans HBw.out.size hk))); (case aO => exact Kd.S_mono HS2.out (fun k hk => ⟨.inl hk, fun h_ => HP1.out k h_ hk⟩)); (case aB => exact HB2.out); (case aS => exact below_size HB2.out); (case aL => have := HX.out; omega); intro v3 w3 ho hb hg hat; have HO3 := Aside0.mk ho; have HB3 := Aside0.mk hb; have HK3 := Aside0.mk (Kept.of_grown (S := P) hg (by repeat (first | exact Kept.of_below HBw.out _ | apply Kept.drewN | apply Kept.drew | apply Kept.alloc)) (fun k e_ => .inl (HV.out k e_))); clear ho hb hg hat))
      go_ret
      exact ⟨_, rfl, HO3.out, HB3.out, HK3.out⟩
    · rw [if_neg c] at h
      have HL := Aside0.mk h
      have HNZ := Aside0.mk c
      have cb : ((ds.length : Int) == 0) = false := beq_eq_false_iff_ne.mpr (by omega)
      have cd : decide ((ds.length : Int) = 0) = false := decide_eq_false (by omega)
      clear h c
      go_enter Try.func103, Try.ntmps103
      go_wp2_with (go_at_call 68; (with_reducible refine (impl_descents.calls kd _ _ l2 ds _ ?side1 HC2.out HD.out).mono ?_); (case side1 => exact Kd.F_now H2.out); rintro e w2 ⟨v2, rfl, hr2, hb2⟩; obtain ⟨A9, c9, e9⟩ := Kd.R_slice hr2; subst e9; have HB2 := Aside0.mk (below_step HB.out hb2); have HBw := Aside0.mk hb2; have H12 := Aside0.mk (Kd.R_below H1.out hb2); have HS2 := Aside0.mk (Kd.S_below HS.out hb2); have H22 := Aside0.mk (Kd.F_below H2.out hb2); have HR9 := Aside0.mk hr2; clear hr2 hb2)
      go_loopg [3, 25] ds.length (fun kq v3 v25 w' => ∃ (i : Nat) (xs1 : List S31), v25 = .int .i64 (i : Int) ∧ Aside0 (i + kq = ds.length) ∧ Aside0 (impl_all.lp (fun l1' l2' xs' => impl_all.g d a0 l1' l2' xs') l1 l2 ds kq i xs1 = some ys) ∧ Aside0 (Kd.S k31 31 w' w0.heap.size (fun k => P k ∨ w2.heap.size ≤ k) v3 xs1) ∧ Aside0 (Kept w2 w' P) ∧ Aside0 (Below w0.heap.size w0 w'))
      case atStart => exact ⟨0, xs, rfl, ⟨by omega⟩, HL, ⟨Kd.S_mono HS2.out (fun k hk => .inl hk)⟩, ⟨Kept.refl _ _⟩, ⟨HB2.out⟩⟩
      case round =>
        have HSZ2 := Aside0.mk HBw.out.size
        clear HB2 HS2
        obtain ⟨i, xs1, rfl, HI, HA, HO, HK, HB3⟩ := hrel
        have HR9' := Aside0.mk (Kd.R_step (Kd.R_tight rfl HR9.out) (fun k hk hlt => HK.out.2 k hlt (fun hp => by have h1_ := HPw.out k hp; have h2_ := Kd.R_base HR9.out k hk.symm; omega)))
        cases gk with
        | zero =>
          have H := HA.out
          simp only [impl_all.lp, Option.some.injEq] at H
          subst H
          have HI0 := HI.out
          have ct : decide ((i : Int) < (ds.length : Int)) = false := decide_eq_false (by omega)
          go_wp2
          go_ret
          exact ⟨_, rfl, Kd.S_mono HO.out (fun k hk => hk.elim .inl (fun h_ => .inr (.inr (Nat.le_trans HSZ2.out h_)))), HB3.out, Kept.then_ (Kept.of_below HBw.out P) HK.out (fun k hk => .inl hk)⟩
        | succ k1 =>
          have H := HA.out
          simp only [impl_all.lp] at H
          obtain ⟨cl, hcl, H⟩ := Option.bind_eq_some_iff.1 H
          by_cases hc1 : cl.length < 1000
          case neg => rw [if_neg hc1] at H; cases H
          rw [if_pos hc1] at H
          obtain ⟨q, hq, H⟩ := Option.bind_eq_some_iff.1 H
          obtain ⟨ys1, hg, H⟩ := Option.bind_eq_some_iff.1 H
          have HI0 := HI.out
          have p9 : (0 : Int) ≤ (i : Int) := by omega
          have q9 : (i : Int) < ds.length := by omega
          have ct : decide ((i : Int) < (ds.length : Int)) = true := decide_eq_true q9
          obtain ⟨ad9, e9, hx9⟩ := Kd.at_int (Kd.R_reads' HR9'.out).2.2 (i : Int) p9 q9
          subst e9
          simp only [Int.toNat_natCast] at hx9
          obtain ⟨y5, ny5⟩ : ∃ y, y = cl ++ [rd ds (i : Int)] := ⟨_, rfl⟩
          rw [← ny5] at hg
          have NY := Aside0.mk ny5
          clear ny5
          have HCL := Aside0.mk hcl
          have HQ := Aside0.mk hq
          have HG := Aside0.mk hg
          have HT := Aside0.mk H
          have HC1 := Aside0.mk hc1
          have H13 := Aside0.mk (Kd.F_kept (Kd.R_F H12.out) HK.out HP1.out)
          have H23 := Aside0.mk (Kd.F_kept H22.out HK.out HP2.out)
          have HL1 : Aside0 (l1.length ≤ c1) := Aside0.mk (Kd.R_reads' H12.out).2.1
          clear hcl hq hg H hc1
          have p9' := eq_true p9
          have q9' := eq_true q9
          have HMX := Aside0.mk (Kd.F_max (Kd.R_F HR9'.out))
          go_wp2_with (first | (go_at_call 96; (with_reducible refine (slices_Clone_int_int.calls _ _ l1 cl _ ?side1 HL1.out HCL.out).mono ?_); (case side1 => exact Kd.F_now H13.out); rintro e w4 ⟨v4, rfl, hr4, hb4⟩; obtain ⟨A4, c4, e4⟩ := Kd.R_slice hr4; subst e4; have HR4 := Aside0.mk hr4; have HB4 := Aside0.mk hb4; clear hr4 hb4) | ((with_reducible refine gate_builtin (b := .append) (xs := #[.tmp 31, .tmp 33]) rfl ?_); at_builtin; refine Kd.R_append (Kd.int .i64) (w0 := wr) wr.heap.size rfl (.tmp 31) (.tmp 33) 25 3 (.int .i64 0) 8 rfl Try.underlying25 info3 rfl (by decide) (by omega) (.slice A4 cl.length c4) cl (rd ds (i : Int)) [.int .i64 (rd ds (i : Int))] (fun _ => True) (fun _ => False) rfl rfl ?aP (fun _ hk => hk.elim) ?aF ?aO ?aB ?aS ?aL ?_; (case aP => exact rfl); (case aF => exact (fun _ _ => trivial)); (case aO => first | exact HR4.out | exact Kd.R_mono HR4.out (fun _ _ => trivial)); (case aB => exact HB4.out); (case aS => exact HB4.out.size); (case aL => have := HC1.out; omega); intro v5 w5 ho hb hg5 hat; rw [← NY.out] at ho; obtain ⟨A5, c5, e5⟩ := Kd.R_slice ho; subst e5; have HR5 := Aside0.mk ho; have HB5 := Aside0.mk hb; clear ho hb hg5 hat) | (go_at_call 69; (with_reducible refine (impl_exchanged.calls _ _ l2 (rd ds (i : Int)) q _ ?side1 HC2.out HQ.out).mono ?_); (case side1 => exact Kd.F_now (Kd.F_below H23.out HB5.out)); rintro e w6 ⟨v6, rfl, hr6, hb6⟩; obtain ⟨A6, c6, e6⟩ := Kd.R_slice hr6; subst e6; have HR6 := Aside0.mk hr6; have HB6 := Aside0.mk (below_step HB5.out hb6); have HR56 := Aside0.mk (Kd.R_below HR5.out hb6); have HZ5 := Aside0.mk HB5.out.size; clear hr6 hb6) | (go_at_call 103; (with_reducible refine (impl_all.calls_g d a0 (fun k => some k = (Value.slice A5 y5.length c5).ownBlock) A5 c5 y5 (fun k => some k = (Value.slice A6 q.length c6).ownBlock) A6 c6 q (fun k => (P k ∨ w2.heap.size ≤ k) ∧ k < wr.heap.size) _ xs1 ys1 w0 _ ?r1 ?r2 ?r3 ?r4 ?r5 ?r6 ?r7 ?r8 HG.out).mono ?_); (case r1 => exact below_step HB3.out HB6.out); (case r2 => exact Kd.R_lower (Kd.R_tight rfl HR56.out) HB3.out.size); (case r3 => exact fun k hk hp => by have h1_ := Kd.R_base HR56.out k hk.symm; have h2_ := hp.2; omega); (case r4 => exact Kd.R_F (Kd.R_tight rfl HR6.out)); (case r5 => exact (Kd.R_reads' HR6.out).2.1); (case r6 => exact fun k hk hp => by have h1_ := Kd.R_base HR6.out k hk.symm; have h2_ := hp.2; have h3_ := HZ5.out; omega); (case r7 => exact Kd.S_below (Kd.S_mono (Kd.S_bound HO.out) (fun k hk => ⟨hk.1, hk.2.2.1⟩)) HB6.out); (case r8 => exact fun k hk => Nat.lt_of_lt_of_le hk.2 HB6.out.size); rintro e w7 ⟨v7, rfl, hs7, hb7, hk7⟩; have HO7 := Aside0.mk (Kd.S_mono (ok' := fun k => P k ∨ w2.heap.size ≤ k) hs7 (fun k hk => hk.elim (fun h_ => h_.1) (fun h_ => h_.elim (fun h_ => .inr (Nat.le_trans HK.out.1 (Kd.R_base HR56.out k h_.symm))) (fun h_ => .inr (Nat.le_trans HK.out.1 (Nat.le_trans HB6.out.size h_)))))); have HB7 := Aside0.mk hb7; have HK7 := Aside0.mk (Kept.then_ (Kept.below HK.out HB6.out) hk7 (fun k hk => hk.1)); clear hs7 hb7 hk7))
          go_roundg k1
          case measure => omega
          case rel => exact ⟨i + 1, ys1, (by have h_ := HMX.out; first | rfl | (simp; done) | (simp [wrap64]; omega)), ⟨by omega⟩, HT, HO7, HK7, HB7⟩

/-! ### impl_listed: function 72 -/
open Classical in
noncomputable def impl_listed.ev {α : Type} (g : Nat → Option α) : Option α := if h : ∃ k r, g k = some r then g h.choose else none
theorem impl_listed.ev_some {α : Type} {g : Nat → Option α} {r : α} (h : impl_listed.ev g = some r) : ∃ k, g k = some r := by
  unfold impl_listed.ev at h
  split at h
  · exact ⟨_, h⟩
  · cases h
noncomputable def impl_listed.f (l0 : List Int) : Option ((List S31) × Bool) := (impl_listed.ev fun k => impl_isCounted.f k l0).bind fun t => if t = true then ((impl_counter_count.f l0).bind fun r => if r > 800 then some ([], false) else (impl_listed.ev fun d => impl_all.g d (l0.length : Int) [] l0 []).bind fun x => some (x, true)) else some ([], false)
theorem impl_listed.all0 (d : Nat) (a0 : Int) (A0 : Option Addr) (c0 : Nat) (l0 : List Int) (ys : List S31) (w0 w : World) (hB : Below w0.heap.size w0 w) (h2 : Kd.C (Kd.int .i64) w A0 l0.length l0) (hc0 : l0.length ≤ c0) (h : impl_all.g d a0 [] l0 [] = some ys) :
    Calls Try.prog 103 #[.int .i64 a0, .slice none 0 0, .slice A0 l0.length c0, .slice none 0 0] w fun e w' => ∃ v0_ : Value, e = .returned v0_ ∧ Kd.S k31 31 w' w0.heap.size (fun _ => True) v0_ ys ∧ Below w0.heap.size w0 w' := by
  have := impl_all.calls_g d a0 (fun _ => False) none 0 [] (fun k => k < w.heap.size) A0 c0 l0 (fun _ => False) (.slice none 0 0) [] ys w0 w hB (Kd.R_nil _ _ _ _ _) (fun _ h_ => h_.elim) (Kd.C_F (Kd.heap_int .i64) h2) hc0 (fun _ _ h_ => h_) (Kd.S_nil _ _ _ _ _) (fun _ h_ => h_.elim) h
  refine this.mono ?_
  rintro e w' ⟨v, rfl, hs, hb, _⟩
  exact ⟨v, rfl, Kd.S_mono hs (fun _ _ => trivial), hb⟩
set_option maxHeartbeats 8000000 in
set_option maxRecDepth 100000 in
theorem impl_listed.calls (A0 : Option Addr) (c0 : Nat) (l0 : List Int) (r1 : List S31) (r2 : Bool) (w : World) (hr0 : Kd.C (Kd.int .i64) w A0 l0.length l0) (hc0 : l0.length ≤ c0) (h : impl_listed.f l0 = some (r1, r2)) :
    Calls Try.prog 72 #[.slice A0 l0.length c0] w fun e w' => ∃ v0_ : Value, e = .returned (.tuple #[v0_, .bool r2]) ∧ Kd.S k31 31 w' w.heap.size (fun _ => True) v0_ r1 ∧ Below w.heap.size w w' := by
  have HR0 := Aside0.mk hr0
  have HC0 := Aside0.mk hc0
  clear hr0 hc0
  unfold impl_listed.f at h
  obtain ⟨t, ht, h⟩ := Option.bind_eq_some_iff.1 h
  obtain ⟨kt, ht⟩ := impl_listed.ev_some ht
  have HT := Aside0.mk ht
  clear ht
  cases t with
  | false =>
    rw [if_neg (by decide)] at h
    simp only [Option.some.injEq, Prod.mk.injEq] at h
    obtain ⟨rfl, rfl⟩ := h
    go_enter Try.func72, Try.ntmps72
    go_wp2_with (go_at_call 67; (with_reducible refine (impl_isCounted.calls kt _ _ l0 false _ ?side1 HC0.out HT.out).mono ?_); (case side1 => exact HR0.out); rintro e w' ⟨rfl, ⟨nd, rfl⟩⟩)
    go_ret2
    exact ⟨_, rfl, Kd.S_nil _ _ _ _ _, pw_below_drewN (Below.refl _ _) nd⟩
  | true =>
    rw [if_pos rfl] at h
    obtain ⟨r, hr, h⟩ := Option.bind_eq_some_iff.1 h
    have HRR := Aside0.mk hr
    clear hr
    have hmm := @run_makeMap Try.prog
    by_cases c : r > 800
    · rw [if_pos c] at h
      simp only [Option.some.injEq, Prod.mk.injEq] at h
      obtain ⟨rfl, rfl⟩ := h
      have cb : decide (800 < r) = true := decide_eq_true c
      go_enter Try.func72, Try.ntmps72
      go_wp2_with (first | (go_at_call 67; (with_reducible refine (impl_isCounted.calls kt _ _ l0 true _ ?side1 HC0.out HT.out).mono ?_); (case side1 => exact HR0.out); rintro e w' ⟨rfl, ⟨nd, rfl⟩⟩) | (go_at_call 64; (with_reducible refine (impl_counter_count.calls w.heap.size 0 _ _ l0 r w _ ?side1 (Nat.le_refl _) ?side2 (by decide) ?side3 HC0.out HRR.out).mono ?_); (case side1 => repeat (first | exact Below.refl _ _ | apply below_alloc | apply pw_below_drewN | apply below_drew1)); (case side2 => exact impl_counter_count.Mem.made _); (case side3 => exact Kd.C_kept_came (Kd.heap_int .i64) HR0.out (by repeat (first | exact Below.refl _ _ | apply below_alloc | apply pw_below_drewN | apply below_drew1)) (fun k_ h_ => by rw [h_]; exact Nat.le_refl _)); rintro e w3 ⟨rfl, hm3, hb3, hk3⟩; have HB3 := Aside0.mk hb3; clear hm3 hb3 hk3))
      go_ret2
      exact ⟨_, rfl, Kd.S_nil _ _ _ _ _, HB3.out⟩
    · rw [if_neg c] at h
      obtain ⟨x, hx, h⟩ := Option.bind_eq_some_iff.1 h
      simp only [Option.some.injEq, Prod.mk.injEq] at h
      obtain ⟨rfl, rfl⟩ := h
      obtain ⟨kx, hx⟩ := impl_listed.ev_some hx
      have HX := Aside0.mk hx
      clear hx
      have cb : decide (800 < r) = false := decide_eq_false c
      go_enter Try.func72, Try.ntmps72
      go_wp2_with (first | (go_at_call 67; (with_reducible refine (impl_isCounted.calls kt _ _ l0 true _ ?side1 HC0.out HT.out).mono ?_); (case side1 => exact HR0.out); rintro e w' ⟨rfl, ⟨nd, rfl⟩⟩) | (go_at_call 64; (with_reducible refine (impl_counter_count.calls w.heap.size 0 _ _ l0 r w _ ?side1 (Nat.le_refl _) ?side2 (by decide) ?side3 HC0.out HRR.out).mono ?_); (case side1 => repeat (first | exact Below.refl _ _ | apply below_alloc | apply pw_below_drewN | apply below_drew1)); (case side2 => exact impl_counter_count.Mem.made _); (case side3 => exact Kd.C_kept_came (Kd.heap_int .i64) HR0.out (by repeat (first | exact Below.refl _ _ | apply below_alloc | apply pw_below_drewN | apply below_drew1)) (fun k_ h_ => by rw [h_]; exact Nat.le_refl _)); rintro e w3 ⟨rfl, hm3, hb3, hk3⟩; have HB3 := Aside0.mk hb3; clear hm3 hb3 hk3) | (go_at_call 103; (with_reducible refine (impl_listed.all0 kx _ _ _ l0 x w _ ?side1 ?side2 HC0.out HX.out).mono ?_); (case side1 => repeat (first | exact HB3.out | apply below_alloc | apply pw_below_drewN | apply below_drew1)); (case side2 => exact Kd.C_below HR0.out HB3.out); rintro e w4 ⟨v4, rfl, hr4, hb4⟩; have HR4 := Aside0.mk hr4; have HB4 := Aside0.mk hb4; clear hr4 hb4))
      go_ret2
      exact ⟨_, rfl, HR4.out, HB4.out⟩

/-! ### impl_AllLeast: function 24 -/
def impl_AllLeast.f (l0 : List Int) : Option ((List (S31)) × Bool) := (impl_listed.f l0).bind fun bt209 => (some (bt209.1, bt209.2))
set_option maxHeartbeats 8000000 in
set_option maxRecDepth 100000 in
theorem impl_AllLeast.calls (A0 : Option Addr) (c0 : Nat) (l0 : List Int) (r1 : List (S31)) (r2 : Bool) (w : World) (hr0 : Kd.C (Kd.int .i64) w A0 l0.length l0) (hc0 : l0.length ≤ c0) (h : impl_AllLeast.f l0 = some (r1, r2)) :
    Calls Try.prog 24 #[.slice A0 l0.length c0] w fun e w' => ∃ v0_ : Value, e = .returned (.tuple #[v0_, .bool r2]) ∧ Kd.S k31 31 w' w.heap.size (fun _ => True) v0_ r1 ∧ Below w.heap.size w w' := by
  have HR0 := Aside0.mk hr0
  have HC0 := Aside0.mk hc0
  clear hr0 hc0
  have HB := Aside0.mk (Below.refl w.heap.size w)
  have H : ((impl_listed.f l0).bind fun bt209 => (some (bt209.1, bt209.2))) = some (r1, r2) := h
  clear h
  replace H := Option.bind_eq_some_iff.mp H
  obtain ⟨⟨t209, t210⟩, A20, H⟩ := H
  replace H : (some (t209, t210)) = some (r1, r2) := H
  have A2 := Aside0.mk A20
  clear A20
  simp only [Option.some.injEq, Prod.mk.injEq] at H
  obtain ⟨rfl, rfl⟩ := H
  go_enter Try.func24, Try.ntmps24
  go_wp2_with (first | ((with_reducible refine gate_callee (f := 72) rfl ?_); refine goesL_ (some 5) rfl rfl Try.func72 (by kernel_rfl) rfl #[.slice A0 l0.length c0] rfl (by (try simp only [List.map_toArray, List.map_cons, List.map_nil]); first | done | rfl | (simp only [List.length_drop, List.length_take]; rfl)) ?_; (with_reducible refine (impl_listed.calls _ _ l0 t209 t210 _ ?side1 ?side2 A2.out).mono ?_); (case side1 => repeat (first | exact HR0.out | (with_reducible refine Kd.C_alloc ?_ _) | (with_reducible refine Kd.C_drewN ?_ _) | (with_reducible refine Kd.C_drew ?_))); (case side2 => exact HC0.out); rintro e w3 ⟨v211, rfl, ho0, hb⟩; refine ⟨_, rfl, ?_⟩; have n0_ := Aside0.mk (Kd.S_lower ho0 (below_size (by repeat (first | (with_reducible first | exact HB.out | apply below_alloc | apply pw_below_drewN | apply below_drew1) | exact HB.out)))); have n1_ := Aside0.mk (below_step (by repeat (first | (with_reducible first | exact HB.out | apply below_alloc | apply pw_below_drewN | apply below_drew1) | exact HB.out)) hb); clear HB; have HO212 := n0_; have HB := n1_; clear n0_ n1_; (try clear hb); (try clear hb2); (try clear hk); (try clear hi); (try clear ho0)))
  go_ret2
  exact ⟨_, by first | rfl | (simp [errW_none, errW_some] <;> rfl) | (simp [*, errW_none, errW_some] <;> rfl), by (with_reducible repeat (first | apply Kd.S_alloc | apply Kd.S_drewN | apply Kd.S_drew)); exact HO212.out, by repeat (first | (with_reducible first | exact HB.out | apply below_alloc | apply pw_below_drewN | apply below_drew1) | exact HB.out)⟩

/-! ### laws_eqLadder: function 20 -/
def laws_eqLadder.f (k : Nat) (a0_0 : Int) (l0_1 : List Int) (a1_0 : Int) (l1_1 : List Int) : Option (Bool) := if a0_0 = a1_0 then ((laws_eqIntS.f k l0_1 l1_1).bind fun t215 => (if t215 = true then (some true) else (some false))) else (some false)
theorem laws_eqLadder.mono : ∀ a0 a1 a2 a3 k, LeO (laws_eqLadder.f k a0 a1 a2 a3) (laws_eqLadder.f (k + 1) a0 a1 a2 a3) := by
  intro a0 a1 a2 a3 k
  unfold laws_eqLadder.f
  repeat' first
      | (with_reducible exact laws_eqIntS.mono _ _ _)
      | (with_reducible exact LeO.refl _)
      | (with_reducible exact LeO.none _)
      | (with_reducible refine LeO.ite ?_ ?_)
      | (with_reducible refine LeO.bind ?_ (fun _ => ?_))
      | exact laws_eqIntS.mono _ _ _
      | exact LeO.none _
      | refine LeO.ite ?_ ?_
      | refine LeO.bind ?_ (fun _ => ?_)
set_option maxHeartbeats 8000000 in
set_option maxRecDepth 100000 in
theorem laws_eqLadder.calls (k : Nat) (a0_0 : Int) (A0_1 : Option Addr) (c0_1 : Nat) (l0_1 : List Int) (a1_0 : Int) (A1_1 : Option Addr) (c1_1 : Nat) (l1_1 : List Int) (r : Bool) (w : World) (hr0_1 : Kd.C (Kd.int .i64) w A0_1 l0_1.length l0_1) (hc0_1 : l0_1.length ≤ c0_1) (hr1_1 : Kd.C (Kd.int .i64) w A1_1 l1_1.length l1_1) (hc1_1 : l1_1.length ≤ c1_1) (h : laws_eqLadder.f k a0_0 l0_1 a1_0 l1_1 = some r) :
    Calls Try.prog 20 #[.agg #[.int .i64 a0_0, .slice A0_1 l0_1.length c0_1], .agg #[.int .i64 a1_0, .slice A1_1 l1_1.length c1_1]] w fun e w' => e = .returned (.bool r) ∧ Below w.heap.size w w' := by
  have hu31 := Try.underlying31
  have HR0_1 := Aside0.mk hr0_1
  have HC0_1 := Aside0.mk hc0_1
  clear hr0_1 hc0_1
  have HR1_1 := Aside0.mk hr1_1
  have HC1_1 := Aside0.mk hc1_1
  clear hr1_1 hc1_1
  have HB := Aside0.mk (Below.refl w.heap.size w)
  have H : (if a0_0 = a1_0 then ((laws_eqIntS.f k l0_1 l1_1).bind fun t215 => (if t215 = true then (some true) else (some false))) else (some false)) = some r := h
  clear h
  by_cases c3 : a0_0 = a1_0
  · rw [if_pos c3] at H
    have c3b0 : (a0_0 == a1_0) = true := beq_iff_eq.mpr c3
    have c3b1 : (a0_0 != a1_0) = false := bne_eq_false_iff_eq.mpr c3
    clear c3
    replace H := Option.bind_eq_some_iff.mp H
    obtain ⟨t215, A40, H⟩ := H
    replace H : (if t215 = true then (some true) else (some false)) = some r := H
    have A4 := Aside0.mk A40
    clear A40
    by_cases c5 : t215 = true
    · subst c5
      have H1 : (some true) = some r := by rw [if_pos rfl] at H; exact H
      clear H
      have H := H1
      clear H1
      obtain rfl := Option.some.inj H
      go_enter Try.func20, Try.ntmps20
      go_wp2_with (first | ((with_reducible refine gate_dst (N := 2) rfl ?_); refine box_event ?hg (N := 2) ?hd (cs := #[.int .i64 a0_0, .slice A0_1 l0_1.length c0_1]) (t := 31) ?hr ?_; (case hd => rfl); (case hg => rfl); (case hr => first | (go_simp; done) | (go_simp; rfl)); intro gb213 hg w6 hbox hb; have n0_ := Aside0.mk (below_step (by repeat (first | (with_reducible first | exact HB.out | apply below_alloc | apply pw_below_drewN | apply below_drew1) | exact HB.out)) hb); have n1_ := Aside0.mk (hbox); have n2_ := Aside0.mk ((by rw [hg]; exact (below_size (by repeat (first | (with_reducible first | exact HB.out | apply below_alloc | apply pw_below_drewN | apply below_drew1) | exact HB.out))) : w.heap.size ≤ gb213)); have n3_ := Aside0.mk ((by rw [hg]; exact (below_size (by repeat (first | (with_reducible first | exact HB.out | apply below_alloc | apply pw_below_drewN | apply below_drew1) | exact HB.out))) : w.heap.size ≤ gb213)); clear HB; have HB := n0_; have BK213 := n1_; have GW213 := n2_; have GE213 := n3_; clear n0_ n1_ n2_ n3_; clear hb hbox hg) | ((with_reducible refine gate_dst (N := 3) rfl ?_); refine box_event ?hg (N := 3) ?hd (cs := #[.int .i64 a1_0, .slice A1_1 l1_1.length c1_1]) (t := 31) ?hr ?_; (case hd => rfl); (case hg => rfl); (case hr => first | (go_simp; done) | (go_simp; rfl)); intro gb214 hg w7 hbox hb; have n0_ := Aside0.mk (blk_below (g := gb213) (o := .cells #[.int .i64 a0_0, .slice A0_1 l0_1.length c0_1] 31 (0, 0)) (by (with_reducible repeat (first | refine blk_drewN ?_ _ | refine blk_drew ?_ | refine blk_alloc ?_ _)); exact BK213.out) hb); have n1_ := Aside0.mk (below_step (by repeat (first | (with_reducible first | exact HB.out | apply below_alloc | apply pw_below_drewN | apply below_drew1 | refine below_set ?_ GE213.out) | exact HB.out)) hb); have n2_ := Aside0.mk (hbox); have n3_ := Aside0.mk ((by rw [hg]; exact (below_size (by repeat (first | (with_reducible first | exact HB.out | apply below_alloc | apply pw_below_drewN | apply below_drew1 | refine below_set ?_ GE213.out) | exact HB.out))) : w.heap.size ≤ gb214)); have n4_ := Aside0.mk ((by rw [hg]; exact (below_size (by repeat (first | (with_reducible first | exact HB.out | apply below_alloc | apply pw_below_drewN | apply below_drew1 | refine below_set ?_ GE213.out) | exact HB.out))) : w.heap.size ≤ gb214)); have n5_ := Aside0.mk ((by rw [hg]; exact Nat.ne_of_lt (blk_lt (g := gb213) (o := .cells #[.int .i64 a0_0, .slice A0_1 l0_1.length c0_1] 31 (0, 0)) (by (with_reducible repeat (first | refine blk_drewN ?_ _ | refine blk_drew ?_ | refine blk_alloc ?_ _)); exact BK213.out)) : gb213 ≠ gb214)); have n6_ := Aside0.mk ((by rw [hg]; exact Nat.ne_of_gt (blk_lt (g := gb213) (o := .cells #[.int .i64 a0_0, .slice A0_1 l0_1.length c0_1] 31 (0, 0)) (by (with_reducible repeat (first | refine blk_drewN ?_ _ | refine blk_drew ?_ | refine blk_alloc ?_ _)); exact BK213.out)) : gb214 ≠ gb213)); clear BK213; clear HB; have BK213 := n0_; have HB := n1_; have BK214 := n2_; have GW214 := n3_; have GE214 := n4_; have NB213_214 := n5_; have NB214_213 := n6_; clear n0_ n1_ n2_ n3_ n4_ n5_ n6_; clear hb hbox hg; have hnb8 := NB213_214.out; have hnc8 := NB214_213.out; have hcz9_0 : w7.cell? ⟨gb213, 0, none⟩ = some (.int .i64 a0_0) := (blk_cell BK213.out 0).trans rfl; have hcz9_1 : w7.cell? ⟨gb213, 1, none⟩ = some (.slice A0_1 l0_1.length c0_1) := (blk_cell BK213.out 1).trans rfl; have hfz9_0 := blk_frozen BK213.out 0; have hfz9_1 := blk_frozen BK213.out 1; have hcz10_0 : w7.cell? ⟨gb214, 0, none⟩ = some (.int .i64 a1_0) := (blk_cell BK214.out 0).trans rfl; have hcz10_1 : w7.cell? ⟨gb214, 1, none⟩ = some (.slice A1_1 l1_1.length c1_1) := (blk_cell BK214.out 1).trans rfl; have hfz10_0 := blk_frozen BK214.out 0; have hfz10_1 := blk_frozen BK214.out 1) | ((with_reducible refine gate_callee (f := 14) rfl ?_); refine goesL_ (some 14) rfl rfl Try.func14 (by kernel_rfl) rfl #[.slice A0_1 l0_1.length c0_1, .slice A1_1 l1_1.length c1_1] rfl (by (try simp only [List.map_toArray, List.map_cons, List.map_nil]); first | done | rfl | (simp only [List.length_drop, List.length_take]; rfl)) ?_; (with_reducible refine (laws_eqIntS.calls k _ _ l0_1 _ _ l1_1 true _ ?side1 ?side2 ?side3 ?side4 A4.out).mono ?_); (case side1 => repeat (first | exact (Kd.C_below HR0_1.out HB.out) | (with_reducible refine Kd.C_alloc ?_ _) | (with_reducible refine Kd.C_drewN ?_ _) | (with_reducible refine Kd.C_drew ?_))); (case side2 => exact HC0_1.out); (case side3 => repeat (first | exact (Kd.C_below HR1_1.out HB.out) | (with_reducible refine Kd.C_alloc ?_ _) | (with_reducible refine Kd.C_drewN ?_ _) | (with_reducible refine Kd.C_drew ?_))); (case side4 => exact HC1_1.out); rintro e w' ⟨rfl, ⟨nd, rfl⟩⟩; refine ⟨_, rfl, ?_⟩))
      go_ret
      exact ⟨by first | rfl | (simp [errW_none, errW_some] <;> rfl) | (simp [*, errW_none, errW_some] <;> rfl), by repeat (first | (with_reducible first | exact HB.out | apply below_alloc | apply pw_below_drewN | apply below_drew1 | refine below_set ?_ GE213.out | refine below_set ?_ GE214.out) | exact HB.out)⟩
    · replace c5 := Bool.eq_false_iff.mpr c5
      subst c5
      have H1 : (some false) = some r := by rw [if_neg (show ¬ (false = true) by decide)] at H; exact H
      clear H
      have H := H1
      clear H1
      obtain rfl := Option.some.inj H
      go_enter Try.func20, Try.ntmps20
      go_wp2_with (first | ((with_reducible refine gate_dst (N := 2) rfl ?_); refine box_event ?hg (N := 2) ?hd (cs := #[.int .i64 a0_0, .slice A0_1 l0_1.length c0_1]) (t := 31) ?hr ?_; (case hd => rfl); (case hg => rfl); (case hr => first | (go_simp; done) | (go_simp; rfl)); intro gb213 hg w11 hbox hb; have n0_ := Aside0.mk (below_step (by repeat (first | (with_reducible first | exact HB.out | apply below_alloc | apply pw_below_drewN | apply below_drew1) | exact HB.out)) hb); have n1_ := Aside0.mk (hbox); have n2_ := Aside0.mk ((by rw [hg]; exact (below_size (by repeat (first | (with_reducible first | exact HB.out | apply below_alloc | apply pw_below_drewN | apply below_drew1) | exact HB.out))) : w.heap.size ≤ gb213)); have n3_ := Aside0.mk ((by rw [hg]; exact (below_size (by repeat (first | (with_reducible first | exact HB.out | apply below_alloc | apply pw_below_drewN | apply below_drew1) | exact HB.out))) : w.heap.size ≤ gb213)); clear HB; have HB := n0_; have BK213 := n1_; have GW213 := n2_; have GE213 := n3_; clear n0_ n1_ n2_ n3_; clear hb hbox hg) | ((with_reducible refine gate_dst (N := 3) rfl ?_); refine box_event ?hg (N := 3) ?hd (cs := #[.int .i64 a1_0, .slice A1_1 l1_1.length c1_1]) (t := 31) ?hr ?_; (case hd => rfl); (case hg => rfl); (case hr => first | (go_simp; done) | (go_simp; rfl)); intro gb214 hg w12 hbox hb; have n0_ := Aside0.mk (blk_below (g := gb213) (o := .cells #[.int .i64 a0_0, .slice A0_1 l0_1.length c0_1] 31 (0, 0)) (by (with_reducible repeat (first | refine blk_drewN ?_ _ | refine blk_drew ?_ | refine blk_alloc ?_ _)); exact BK213.out) hb); have n1_ := Aside0.mk (below_step (by repeat (first | (with_reducible first | exact HB.out | apply below_alloc | apply pw_below_drewN | apply below_drew1 | refine below_set ?_ GE213.out) | exact HB.out)) hb); have n2_ := Aside0.mk (hbox); have n3_ := Aside0.mk ((by rw [hg]; exact (below_size (by repeat (first | (with_reducible first | exact HB.out | apply below_alloc | apply pw_below_drewN | apply below_drew1 | refine below_set ?_ GE213.out) | exact HB.out))) : w.heap.size ≤ gb214)); have n4_ := Aside0.mk ((by rw [hg]; exact (below_size (by repeat (first | (with_reducible first | exact HB.out | apply below_alloc | apply pw_below_drewN | apply below_drew1 | refine below_set ?_ GE213.out) | exact HB.out))) : w.heap.size ≤ gb214)); have n5_ := Aside0.mk ((by rw [hg]; exact Nat.ne_of_lt (blk_lt (g := gb213) (o := .cells #[.int .i64 a0_0, .slice A0_1 l0_1.length c0_1] 31 (0, 0)) (by (with_reducible repeat (first | refine blk_drewN ?_ _ | refine blk_drew ?_ | refine blk_alloc ?_ _)); exact BK213.out)) : gb213 ≠ gb214)); have n6_ := Aside0.mk ((by rw [hg]; exact Nat.ne_of_gt (blk_lt (g := gb213) (o := .cells #[.int .i64 a0_0, .slice A0_1 l0_1.length c0_1] 31 (0, 0)) (by (with_reducible repeat (first | refine blk_drewN ?_ _ | refine blk_drew ?_ | refine blk_alloc ?_ _)); exact BK213.out)) : gb214 ≠ gb213)); clear BK213; clear HB; have BK213 := n0_; have HB := n1_; have BK214 := n2_; have GW214 := n3_; have GE214 := n4_; have NB213_214 := n5_; have NB214_213 := n6_; clear n0_ n1_ n2_ n3_ n4_ n5_ n6_; clear hb hbox hg; have hnb13 := NB213_214.out; have hnc13 := NB214_213.out; have hcz14_0 : w12.cell? ⟨gb213, 0, none⟩ = some (.int .i64 a0_0) := (blk_cell BK213.out 0).trans rfl; have hcz14_1 : w12.cell? ⟨gb213, 1, none⟩ = some (.slice A0_1 l0_1.length c0_1) := (blk_cell BK213.out 1).trans rfl; have hfz14_0 := blk_frozen BK213.out 0; have hfz14_1 := blk_frozen BK213.out 1; have hcz15_0 : w12.cell? ⟨gb214, 0, none⟩ = some (.int .i64 a1_0) := (blk_cell BK214.out 0).trans rfl; have hcz15_1 : w12.cell? ⟨gb214, 1, none⟩ = some (.slice A1_1 l1_1.length c1_1) := (blk_cell BK214.out 1).trans rfl; have hfz15_0 := blk_frozen BK214.out 0; have hfz15_1 := blk_frozen BK214.out 1) | ((with_reducible refine gate_callee (f := 14) rfl ?_); refine goesL_ (some 14) rfl rfl Try.func14 (by kernel_rfl) rfl #[.slice A0_1 l0_1.length c0_1, .slice A1_1 l1_1.length c1_1] rfl (by (try simp only [List.map_toArray, List.map_cons, List.map_nil]); first | done | rfl | (simp only [List.length_drop, List.length_take]; rfl)) ?_; (with_reducible refine (laws_eqIntS.calls k _ _ l0_1 _ _ l1_1 false _ ?side1 ?side2 ?side3 ?side4 A4.out).mono ?_); (case side1 => repeat (first | exact (Kd.C_below HR0_1.out HB.out) | (with_reducible refine Kd.C_alloc ?_ _) | (with_reducible refine Kd.C_drewN ?_ _) | (with_reducible refine Kd.C_drew ?_))); (case side2 => exact HC0_1.out); (case side3 => repeat (first | exact (Kd.C_below HR1_1.out HB.out) | (with_reducible refine Kd.C_alloc ?_ _) | (with_reducible refine Kd.C_drewN ?_ _) | (with_reducible refine Kd.C_drew ?_))); (case side4 => exact HC1_1.out); rintro e w' ⟨rfl, ⟨nd, rfl⟩⟩; refine ⟨_, rfl, ?_⟩))
      go_ret
      exact ⟨by first | rfl | (simp [errW_none, errW_some] <;> rfl) | (simp [*, errW_none, errW_some] <;> rfl), by repeat (first | (with_reducible first | exact HB.out | apply below_alloc | apply pw_below_drewN | apply below_drew1 | refine below_set ?_ GE213.out | refine below_set ?_ GE214.out) | exact HB.out)⟩
  · rw [if_neg c3] at H
    have c3b0 : (a0_0 == a1_0) = false := beq_eq_false_iff_ne.mpr c3
    have c3b1 : (a0_0 != a1_0) = true := bne_iff_ne.mpr c3
    obtain rfl := Option.some.inj H
    go_enter Try.func20, Try.ntmps20
    go_wp2_with (first | ((with_reducible refine gate_dst (N := 2) rfl ?_); refine box_event ?hg (N := 2) ?hd (cs := #[.int .i64 a0_0, .slice A0_1 l0_1.length c0_1]) (t := 31) ?hr ?_; (case hd => rfl); (case hg => rfl); (case hr => first | (go_simp; done) | (go_simp; rfl)); intro gb213 hg w16 hbox hb; have n0_ := Aside0.mk (below_step (by repeat (first | (with_reducible first | exact HB.out | apply below_alloc | apply pw_below_drewN | apply below_drew1) | exact HB.out)) hb); have n1_ := Aside0.mk (hbox); have n2_ := Aside0.mk ((by rw [hg]; exact (below_size (by repeat (first | (with_reducible first | exact HB.out | apply below_alloc | apply pw_below_drewN | apply below_drew1) | exact HB.out))) : w.heap.size ≤ gb213)); have n3_ := Aside0.mk ((by rw [hg]; exact (below_size (by repeat (first | (with_reducible first | exact HB.out | apply below_alloc | apply pw_below_drewN | apply below_drew1) | exact HB.out))) : w.heap.size ≤ gb213)); clear HB; have HB := n0_; have BK213 := n1_; have GW213 := n2_; have GE213 := n3_; clear n0_ n1_ n2_ n3_; clear hb hbox hg) | ((with_reducible refine gate_dst (N := 3) rfl ?_); refine box_event ?hg (N := 3) ?hd (cs := #[.int .i64 a1_0, .slice A1_1 l1_1.length c1_1]) (t := 31) ?hr ?_; (case hd => rfl); (case hg => rfl); (case hr => first | (go_simp; done) | (go_simp; rfl)); intro gb214 hg w17 hbox hb; have n0_ := Aside0.mk (blk_below (g := gb213) (o := .cells #[.int .i64 a0_0, .slice A0_1 l0_1.length c0_1] 31 (0, 0)) (by (with_reducible repeat (first | refine blk_drewN ?_ _ | refine blk_drew ?_ | refine blk_alloc ?_ _)); exact BK213.out) hb); have n1_ := Aside0.mk (below_step (by repeat (first | (with_reducible first | exact HB.out | apply below_alloc | apply pw_below_drewN | apply below_drew1 | refine below_set ?_ GE213.out) | exact HB.out)) hb); have n2_ := Aside0.mk (hbox); have n3_ := Aside0.mk ((by rw [hg]; exact (below_size (by repeat (first | (with_reducible first | exact HB.out | apply below_alloc | apply pw_below_drewN | apply below_drew1 | refine below_set ?_ GE213.out) | exact HB.out))) : w.heap.size ≤ gb214)); have n4_ := Aside0.mk ((by rw [hg]; exact (below_size (by repeat (first | (with_reducible first | exact HB.out | apply below_alloc | apply pw_below_drewN | apply below_drew1 | refine below_set ?_ GE213.out) | exact HB.out))) : w.heap.size ≤ gb214)); have n5_ := Aside0.mk ((by rw [hg]; exact Nat.ne_of_lt (blk_lt (g := gb213) (o := .cells #[.int .i64 a0_0, .slice A0_1 l0_1.length c0_1] 31 (0, 0)) (by (with_reducible repeat (first | refine blk_drewN ?_ _ | refine blk_drew ?_ | refine blk_alloc ?_ _)); exact BK213.out)) : gb213 ≠ gb214)); have n6_ := Aside0.mk ((by rw [hg]; exact Nat.ne_of_gt (blk_lt (g := gb213) (o := .cells #[.int .i64 a0_0, .slice A0_1 l0_1.length c0_1] 31 (0, 0)) (by (with_reducible repeat (first | refine blk_drewN ?_ _ | refine blk_drew ?_ | refine blk_alloc ?_ _)); exact BK213.out)) : gb214 ≠ gb213)); clear BK213; clear HB; have BK213 := n0_; have HB := n1_; have BK214 := n2_; have GW214 := n3_; have GE214 := n4_; have NB213_214 := n5_; have NB214_213 := n6_; clear n0_ n1_ n2_ n3_ n4_ n5_ n6_; clear hb hbox hg; have hnb18 := NB213_214.out; have hnc18 := NB214_213.out; have hcz19_0 : w17.cell? ⟨gb213, 0, none⟩ = some (.int .i64 a0_0) := (blk_cell BK213.out 0).trans rfl; have hcz19_1 : w17.cell? ⟨gb213, 1, none⟩ = some (.slice A0_1 l0_1.length c0_1) := (blk_cell BK213.out 1).trans rfl; have hfz19_0 := blk_frozen BK213.out 0; have hfz19_1 := blk_frozen BK213.out 1; have hcz20_0 : w17.cell? ⟨gb214, 0, none⟩ = some (.int .i64 a1_0) := (blk_cell BK214.out 0).trans rfl; have hcz20_1 : w17.cell? ⟨gb214, 1, none⟩ = some (.slice A1_1 l1_1.length c1_1) := (blk_cell BK214.out 1).trans rfl; have hfz20_0 := blk_frozen BK214.out 0; have hfz20_1 := blk_frozen BK214.out 1))
    go_ret
    exact ⟨by first | rfl | (simp [errW_none, errW_some] <;> rfl) | (simp [*, errW_none, errW_some] <;> rfl), by repeat (first | (with_reducible first | exact HB.out | apply below_alloc | apply pw_below_drewN | apply below_drew1 | refine below_set ?_ GE213.out | refine below_set ?_ GE214.out) | exact HB.out)⟩

end
end Go.Proofs.Ytnddmmjofpfmfaa.PAl
