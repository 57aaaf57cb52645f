-- Written for this claim by a program of this session (myprint.py) over the kit's printer.
import Derived.Test.YtlmiiijjjcddkaaPKax0
import Derived.Test.YtlmiiijjjcddkaaPKax2
namespace Go.Proofs.Ytlmiiijjjcddkaa.PKa
noncomputable section
open Go.RowKit Go.Proofs.YtlmiiijjjcddkaaW.PrintWords Go.Proofs.YtlmiiijjjcddkaaW.PrintLast Go.Proofs.YtlmiiijjjcddkaaW.PrintMore
attribute [local go_sem] max2_int min2_int max_two min_two max_three min_three max_four min_four   -- for this text's walks alone
open List (setIfInBounds_toArray set_cons_zero set_cons_succ)
set_option maxHeartbeats 8000000
set_option maxRecDepth 100000
set_option linter.unusedVariables false
set_option linter.unusedSimpArgs false
theorem pRq3 {α : Type} {d : Kd α} {e base : Nat} {ok : Nat → Prop} {v : Value} {xs : List α} {w W : World} (h0 : Aside0 (Kd.R d e w base ok v xs)) (hp : Kd.R d e W base ok v xs := by (with_reducible repeat (first | apply Kd.R_alloc | apply Kd.R_drewN | apply Kd.R_drew)); exact Aside0.out (by with_reducible assumption)) : Kd.R d e W base ok v xs := hp
theorem pKq3 {g : Nat} {o : Obj} {w W : World} (h0 : Aside0 (w.heap[g]? = some o)) (hp : W.heap[g]? = some o := by (with_reducible repeat (first | refine blk_drewN ?_ _ | refine blk_drew ?_ | refine blk_alloc ?_ _)); exact Aside0.out (by with_reducible assumption)) : W.heap[g]? = some o := hp
theorem pBq3 {b : Nat} {w0 w W : World} (h0 : Aside0 (Below b w0 w)) (hp : Below b w0 W := by repeat (first | (with_reducible first | exact Aside0.out (by assumption) | apply below_alloc | apply pw_below_drewN | apply below_drew1 | refine below_set ?_ (Aside0.out (by assumption))))) : Below b w0 W := hp
/-! ### slices_Contains_int_int: function 64 -/
def slices_Contains_int_int.f (k : Nat) (l0 : List Int) (a1 : Int) : Option (Bool) := (slices_Index_int_int.f k l0 a1).bind fun t213 => (some (decide (t213 ≥ 0)))
theorem slices_Contains_int_int.mono : ∀ a0 a1 k, LeO (slices_Contains_int_int.f k a0 a1) (slices_Contains_int_int.f (k + 1) a0 a1) := by
 intro a0 a1 k
 unfold slices_Contains_int_int.f
 repeat' first | (with_reducible first | exact slices_Index_int_int.mono _ _ _ | exact LeO.refl _ | exact LeO.none _ | refine LeO.ite ?_ ?_ | refine LeO.bind ?_ (fun _ => ?_))
theorem slices_Contains_int_int.calls (k : Nat) (A0 : Option Addr) (c0 : Nat) (l0 : List Int) (a1 : Int) (r : Bool) (w : World) (hr0 : Kd.C (Kd.int .i64) w A0 l0.length l0) (hc0 : l0.length ≤ c0) (h : slices_Contains_int_int.f k l0 a1 = some r) :
  Calls Try.prog 64 #[.slice A0 l0.length c0, .int .i64 a1] w fun e w' => e = .returned (.bool r) ∧ Drawn0 w w' := by
 have HR0 := am hr0
 have HC0 := am hc0
 clear hr0 hc0
 have H : ((slices_Index_int_int.f k l0 a1).bind fun t213 => (some (decide (t213 ≥ 0)))) = some r := h
 clear h
 obtain ⟨t213, A3, H⟩ := zS H
 (try dsimp only at H)
 obtain rfl := Option.some.inj H
 go_enter Try.func64, Try.ntmps64
 go_wp2_with (first | ((with_reducible refine gate_callee (f := 69) rfl ?_); refine goesL_ (some 7) rfl rfl Try.func69 zq24 rfl #[.slice A0 l0.length c0, .int .i64 a1] rfl zq3 ?_; (with_reducible refine (slices_Index_int_int.calls k _ _ l0 a1 t213 _ ?side1 ?side2 A3.out).mono ?_); (case side1 => exact zq12); (case side2 => exact HC0.out); rintro e w' ⟨rfl, ⟨nd, rfl⟩⟩; refine ⟨_, rfl, ?_⟩))
 go_ret
 exact ⟨zq2, zq4⟩
/-! ### impl_isOrder: function 50 -/
def impl_isOrder.l0 : Nat → List Int → List Int → Int → Int → Option (Bool)
 | 0, _, _, _, _ => none
 | k + 1, x0, x9, x10, x11 => if x11 < x10 then (if 0 ≤ x11 then (if x11 < (x9.length : Int) then ((impl_between.f (rd x9 x11) 0 (wrap64 ((x0.length : Int) - 1))).bind fun t216 => (if t216 = true then (if x11 ≤ (x0.length : Int) then ((slices_Contains_int_int.f k (x0.take (x11 : Int).toNat) (rd x9 x11)).bind fun t221 => (if t221 = true then (some false) else (impl_isOrder.l0 k x0 x9 x10 (wrap64 (x11 + 1))))) else (none)) else (some false))) else (none)) else (none)) else (some true)
def impl_isOrder.f (k : Nat) (l0 : List Int) : Option (Bool) := (impl_between.f (l0.length : Int) 1 8).bind fun t214 => (if t214 = true then (impl_isOrder.l0 k l0 l0 (l0.length : Int) 0) else (some false))
theorem impl_isOrder.mono_l : ∀ k, (∀ y0 y1 y2 y3, LeO (impl_isOrder.l0 k y0 y1 y2 y3) (impl_isOrder.l0 (k + 1) y0 y1 y2 y3))
 | 0 => fun _ _ _ _ r h => by simp [impl_isOrder.l0] at h
 | k + 1 => by
  have ih0 := impl_isOrder.mono_l k
  ·intro y0 y1 y2 y3
   unfold impl_isOrder.l0
   repeat' first | (with_reducible first | exact ih0 _ _ _ _ | exact slices_Contains_int_int.mono _ _ _ | exact LeO.refl _ | exact LeO.none _ | refine LeO.ite ?_ ?_ | refine LeO.bind ?_ (fun _ => ?_))
theorem impl_isOrder.mono : ∀ a0 k, LeO (impl_isOrder.f k a0) (impl_isOrder.f (k + 1) a0) := by
 intro a0 k
 have ih0 := impl_isOrder.mono_l k
 unfold impl_isOrder.f
 repeat' first | (with_reducible first | exact ih0 _ _ _ _ | exact slices_Contains_int_int.mono _ _ _ | exact LeO.refl _ | exact LeO.none _ | refine LeO.ite ?_ ?_ | refine LeO.bind ?_ (fun _ => ?_))
theorem impl_isOrder.calls (k : Nat) (A0 : Option Addr) (c0 : Nat) (l0 : List Int) (r : Bool) (w : World) (hr0 : Kd.C (Kd.int .i64) w A0 l0.length l0) (hc0 : l0.length ≤ c0) (h : impl_isOrder.f k l0 = some r) :
  Calls Try.prog 50 #[.slice A0 l0.length c0] w fun e w' => e = .returned (.bool r) ∧ Drawn0 w w' := by
 have HR0 := am hr0
 have HC0 := am hc0
 clear hr0 hc0
 have H : ((impl_between.f (l0.length : Int) 1 8).bind fun t214 => (if t214 = true then (impl_isOrder.l0 k l0 l0 (l0.length : Int) 0) else (some false))) = some r := h
 clear h
 obtain ⟨t214, A2, H⟩ := zS H
 (try dsimp only at H)
 by_cases c3 : t214 = true
 ·subst c3
  rw [if_pos rfl] at H
  have H' := am H
  clear H
  go_enter Try.func50, Try.ntmps50
  go_wp2_with (first | ((with_reducible refine gate_callee (f := 46) rfl ?_); refine goesL_ (some 7) rfl rfl Try.func46 zq24 rfl #[.int .i64 (l0.length : Int), .int .i64 1, .int .i64 8] rfl zq3 ?_; (with_reducible refine (impl_between.calls (l0.length : Int) 1 8 true _ A2.out).mono ?_); rintro e w' ⟨rfl, ⟨nd, rfl⟩⟩; refine ⟨_, rfl, ?_⟩))
  go_loopg [11] k (fun kq v11 w' => ∃ (x11_1 : Int), v11 = .int .i64 x11_1 ∧ Aside0 (impl_isOrder.l0 kq l0 l0 (l0.length : Int) x11_1 = some r) ∧ Aside0 (kq ≤ k) ∧ Drawn0 w w')
  case atStart => exact ⟨(0), zq2, H', ⟨Nat.le_refl _⟩, zq4⟩
  case round =>
   clear H'
   try clear p2
   try clear c3
   obtain ⟨x11_1, rfl, HA, HK1, ⟨m1, rfl⟩⟩ := hrel
   cases gk with
   | zero => exact absurd HA.out (by simp [impl_isOrder.l0])
   | succ k1 =>
    have H := HA.out
    clear HA
    simp only [impl_isOrder.l0] at H
    by_cases c4 : x11_1 < (l0.length : Int)
    ·rw [if_pos c4] at H
     have c4b0 : decide (x11_1 < (l0.length : Int)) = true := decide_eq_true c4
     clear c4
     by_cases c5 : 0 ≤ x11_1
     ·rw [if_pos c5] at H
      have c5b0 : decide (0 ≤ x11_1) = true := decide_eq_true c5
      clear c5
      by_cases c6 : x11_1 < (l0.length : Int)
      ·rw [if_pos c6] at H
       have c6b0 : decide (x11_1 < (l0.length : Int)) = true := decide_eq_true c6
       clear c6
       obtain ⟨t216, A7, H⟩ := zS H
       (try dsimp only at H)
       by_cases c8 : t216 = true
       ·subst c8
        rw [if_pos rfl] at H
        have c9b0 := eq_true (of_decide_eq_true zq0 : 0 ≤ x11_1)
        by_cases c10 : x11_1 ≤ (l0.length : Int)
        ·rw [if_pos c10] at H
         have c10b0 := eq_true c10
         have c10b1 : decide (x11_1 ≤ (l0.length : Int)) = true := decide_eq_true c10
         clear c10
         obtain ⟨y217, hy217⟩ : ∃ y_ : List Int, y_ = (l0.take (x11_1 : Int).toNat) := ⟨_, rfl⟩
         replace H : ((slices_Contains_int_int.f k1 y217 (rd l0 x11_1)).bind fun t221 => (if t221 = true then (some false) else (impl_isOrder.l0 k1 l0 l0 (l0.length : Int) (wrap64 (x11_1 + 1))))) = some r := by first | (rw [hy217]; exact zH) | exact zH
         have Ny217 := am hy217
         clear hy217
         obtain ⟨t221, A11, H⟩ := zS H
         (try dsimp only at H)
         by_cases c12 : t221 = true
         ·subst c12
          rw [if_pos rfl] at H
          obtain rfl := Option.some.inj H
          have p215 : 0 ≤ (x11_1 : Int) := of_decide_eq_true zq0
          have q215 : x11_1 < (l0.length : Int) := of_decide_eq_true zq0
          obtain ⟨ad215, e215, hx215_0⟩ := Kd.at_int HR0.out x11_1 p215 q215
          cases e215
          replace p215 := eq_true p215
          replace q215 := eq_true q215
          go_wp2_with (first | ((with_reducible refine gate_callee (f := 46) rfl ?_); refine goesL_ (some 20) rfl rfl Try.func46 zq24 rfl #[.int .i64 (rd l0 x11_1), .int .i64 0, .int .i64 (wrap64 ((l0.length : Int) - 1))] rfl zq3 ?_; (with_reducible refine (impl_between.calls (rd l0 x11_1) 0 (wrap64 ((l0.length : Int) - 1)) true _ A7.out).mono ?_); rintro e w' ⟨rfl, ⟨nd, rfl⟩⟩; refine ⟨_, rfl, ?_⟩; have q13 : (x11_1 : Int) ≤ ((l0.length : Int) : Int) := of_decide_eq_true zq0; obtain ⟨i013, hi013, _, hsz13, _⟩ := info_parts info3; have hroom13 : l0.length ≤ c0 := HC0.out; have hC13 : Kd.C (Kd.int .i64) _ (some ad215) l0.length l0 := HR0.out; have hcut13 := cut_to (P := Try.prog) 22 3 .i64 Try.underlying22 hi013 (some ad215) l0.length c0 x11_1 (of_decide_eq_true zq0) q13 hroom13; have hr13 := Kd.C_take (m := (x11_1 : Int).toNat) hC13 zq11; have hy13 : y217.length = (x11_1 : Int).toNat := (by rw [Ny217.out, List.length_take]; omega); rw [← Ny217.out] at hr13; rw [← hy13] at hcut13; have HR220 := am hr13; have HC220 := am (show y217.length ≤ c0 from zq11); clear hr13 hC13 hroom13 hi013 hsz13; have KY13 := am hy13; clear hy13; replace q13 := eq_true q13) | (go_at_call 64; refine calls_of_args (args' := #[.slice (some ad215) y217.length c0, .int .i64 (rd l0 x11_1)]) ?cuta222 ?_; (case cuta222 => exact zq15); (with_reducible refine (slices_Contains_int_int.calls k1 _ _ y217 (rd l0 x11_1) true _ ?side1 ?side2 A11.out).mono ?_); (case side1 => exact zq86); (case side2 => exact HC220.out); rintro e w' ⟨rfl, ⟨nd, rfl⟩⟩))
          go_ret
          exact ⟨zq2, zq4⟩
         ·replace c12 := Bool.eq_false_iff.mpr c12
          subst c12
          rw [if_neg (show ¬ (false = true) by decide)] at H
          have H' := am H
          clear H
          have p215 : 0 ≤ (x11_1 : Int) := of_decide_eq_true zq0
          have q215 : x11_1 < (l0.length : Int) := of_decide_eq_true zq0
          obtain ⟨ad215, e215, hx215_0⟩ := Kd.at_int HR0.out x11_1 p215 q215
          cases e215
          replace p215 := eq_true p215
          replace q215 := eq_true q215
          go_wp2_with (first | ((with_reducible refine gate_callee (f := 46) rfl ?_); refine goesL_ (some 20) rfl rfl Try.func46 zq24 rfl #[.int .i64 (rd l0 x11_1), .int .i64 0, .int .i64 (wrap64 ((l0.length : Int) - 1))] rfl zq3 ?_; (with_reducible refine (impl_between.calls (rd l0 x11_1) 0 (wrap64 ((l0.length : Int) - 1)) true _ A7.out).mono ?_); rintro e w' ⟨rfl, ⟨nd, rfl⟩⟩; refine ⟨_, rfl, ?_⟩; have q14 : (x11_1 : Int) ≤ ((l0.length : Int) : Int) := of_decide_eq_true zq0; obtain ⟨i014, hi014, _, hsz14, _⟩ := info_parts info3; have hroom14 : l0.length ≤ c0 := HC0.out; have hC14 : Kd.C (Kd.int .i64) _ (some ad215) l0.length l0 := HR0.out; have hcut14 := cut_to (P := Try.prog) 22 3 .i64 Try.underlying22 hi014 (some ad215) l0.length c0 x11_1 (of_decide_eq_true zq0) q14 hroom14; have hr14 := Kd.C_take (m := (x11_1 : Int).toNat) hC14 zq11; have hy14 : y217.length = (x11_1 : Int).toNat := (by rw [Ny217.out, List.length_take]; omega); rw [← Ny217.out] at hr14; rw [← hy14] at hcut14; have HR220 := am hr14; have HC220 := am (show y217.length ≤ c0 from zq11); clear hr14 hC14 hroom14 hi014 hsz14; have KY14 := am hy14; clear hy14; replace q14 := eq_true q14) | (go_at_call 64; refine calls_of_args (args' := #[.slice (some ad215) y217.length c0, .int .i64 (rd l0 x11_1)]) ?cuta223 ?_; (case cuta223 => exact zq15); (with_reducible refine (slices_Contains_int_int.calls k1 _ _ y217 (rd l0 x11_1) false _ ?side1 ?side2 A11.out).mono ?_); (case side1 => exact zq86); (case side2 => exact HC220.out); rintro e w' ⟨rfl, ⟨nd, rfl⟩⟩))
          go_roundg k1
          case measure => have := HK1.out; omega
          case rel => exact ⟨(wrap64 (x11_1 + 1)), zq2, H', ⟨zq27⟩, zq4⟩
        ·rw [if_neg c10] at H
         exact absurd H zq25
       ·replace c8 := Bool.eq_false_iff.mpr c8
        subst c8
        rw [if_neg (show ¬ (false = true) by decide)] at H
        obtain rfl := Option.some.inj H
        have p215 : 0 ≤ (x11_1 : Int) := of_decide_eq_true zq0
        have q215 : x11_1 < (l0.length : Int) := of_decide_eq_true zq0
        obtain ⟨ad215, e215, hx215_0⟩ := Kd.at_int HR0.out x11_1 p215 q215
        cases e215
        replace p215 := eq_true p215
        replace q215 := eq_true q215
        go_wp2_with (first | ((with_reducible refine gate_callee (f := 46) rfl ?_); refine goesL_ (some 20) rfl rfl Try.func46 zq24 rfl #[.int .i64 (rd l0 x11_1), .int .i64 0, .int .i64 (wrap64 ((l0.length : Int) - 1))] rfl zq3 ?_; (with_reducible refine (impl_between.calls (rd l0 x11_1) 0 (wrap64 ((l0.length : Int) - 1)) false _ A7.out).mono ?_); rintro e w' ⟨rfl, ⟨nd, rfl⟩⟩; refine ⟨_, rfl, ?_⟩))
        go_ret
        exact ⟨zq2, zq4⟩
      ·rw [if_neg c6] at H
       exact absurd H zq25
     ·rw [if_neg c5] at H
      exact absurd H zq25
    ·rw [if_neg c4] at H
     have c4b0 : decide (x11_1 < (l0.length : Int)) = false := decide_eq_false c4
     clear c4
     obtain rfl := Option.some.inj H
     go_wp2
     go_ret
     exact ⟨zq2, zq4⟩
 ·replace c3 := Bool.eq_false_iff.mpr c3
  subst c3
  rw [if_neg (show ¬ (false = true) by decide)] at H
  obtain rfl := Option.some.inj H
  go_enter Try.func50, Try.ntmps50
  go_wp2_with (first | ((with_reducible refine gate_callee (f := 46) rfl ?_); refine goesL_ (some 7) rfl rfl Try.func46 zq24 rfl #[.int .i64 (l0.length : Int), .int .i64 1, .int .i64 8] rfl zq3 ?_; (with_reducible refine (impl_between.calls (l0.length : Int) 1 8 false _ A2.out).mono ?_); rintro e w' ⟨rfl, ⟨nd, rfl⟩⟩; refine ⟨_, rfl, ?_⟩))
  go_ret
  exact ⟨zq2, zq4⟩
/-! ### impl_isCounted: function 39 -/
def impl_isCounted.f (k : Nat) (l0 : List Int) : Option (Bool) := (impl_isOrder.f k l0).bind fun t224 => (if t224 = true then ((impl_between.f (l0.length : Int) 2 6).bind fun t225 => (some t225)) else (some false))
theorem impl_isCounted.mono : ∀ a0 k, LeO (impl_isCounted.f k a0) (impl_isCounted.f (k + 1) a0) := by
 intro a0 k
 unfold impl_isCounted.f
 repeat' first | (with_reducible first | exact impl_isOrder.mono _ _ | exact LeO.refl _ | exact LeO.none _ | refine LeO.ite ?_ ?_ | refine LeO.bind ?_ (fun _ => ?_))
theorem impl_isCounted.calls (k : Nat) (A0 : Option Addr) (c0 : Nat) (l0 : List Int) (r : Bool) (w : World) (hr0 : Kd.C (Kd.int .i64) w A0 l0.length l0) (hc0 : l0.length ≤ c0) (h : impl_isCounted.f k l0 = some r) :
  Calls Try.prog 39 #[.slice A0 l0.length c0] w fun e w' => e = .returned (.bool r) ∧ Drawn0 w w' := by
 have HR0 := am hr0
 have HC0 := am hc0
 clear hr0 hc0
 have H : ((impl_isOrder.f k l0).bind fun t224 => (if t224 = true then ((impl_between.f (l0.length : Int) 2 6).bind fun t225 => (some t225)) else (some false))) = some r := h
 clear h
 obtain ⟨t224, A2, H⟩ := zS H
 (try dsimp only at H)
 by_cases c3 : t224 = true
 ·subst c3
  rw [if_pos rfl] at H
  obtain ⟨t225, A4, H⟩ := zS H
  (try dsimp only at H)
  obtain rfl := Option.some.inj H
  go_enter Try.func39, Try.ntmps39
  go_wp2_with (first | ((with_reducible refine gate_callee (f := 50) rfl ?_); refine goesL_ (some 4) rfl rfl Try.func50 zq24 rfl #[.slice A0 l0.length c0] rfl zq3 ?_; (with_reducible refine (impl_isOrder.calls k _ _ l0 true _ ?side1 ?side2 A2.out).mono ?_); (case side1 => exact zq12); (case side2 => exact HC0.out); rintro e w' ⟨rfl, ⟨nd, rfl⟩⟩; refine ⟨_, rfl, ?_⟩) | (go_at_call 46; (with_reducible refine (impl_between.calls (l0.length : Int) 2 6 t225 _ A4.out).mono ?_); rintro e w' ⟨rfl, ⟨nd, rfl⟩⟩))
  go_ret
  exact ⟨zq2, zq4⟩
 ·replace c3 := Bool.eq_false_iff.mpr c3
  subst c3
  rw [if_neg (show ¬ (false = true) by decide)] at H
  obtain rfl := Option.some.inj H
  go_enter Try.func39, Try.ntmps39
  go_wp2_with (first | ((with_reducible refine gate_callee (f := 50) rfl ?_); refine goesL_ (some 4) rfl rfl Try.func50 zq24 rfl #[.slice A0 l0.length c0] rfl zq3 ?_; (with_reducible refine (impl_isOrder.calls k _ _ l0 false _ ?side1 ?side2 A2.out).mono ?_); (case side1 => exact zq12); (case side2 => exact HC0.out); rintro e w' ⟨rfl, ⟨nd, rfl⟩⟩; refine ⟨_, rfl, ?_⟩))
  go_ret
  exact ⟨zq2, zq4⟩
/-! ### impl_orderKey: function 51 -/
def impl_orderKey.l0 : Nat → List Int → List Int → Int → Int → Option (ByteArray)
 | 0, _, _, _, _ => none
 | k + 1, x3, x7, x8, x9 => if x9 < x8 then (if 0 ≤ x9 then (if x9 < (x7.length : Int) then (if x3.length < 140737488355328 then (impl_orderKey.l0 k (x3 ++ [(wrap64 (48 + (rd x7 x9))) % 256]) x7 x8 (wrap64 (x9 + 1))) else (none)) else (none)) else (none)) else (some (strOfNums x3))
def impl_orderKey.f (k : Nat) (l0 : List Int) : Option (ByteArray) := impl_orderKey.l0 k (([] : List Int)) l0 (l0.length : Int) 0
theorem impl_orderKey.mono_l : ∀ k, (∀ y0 y1 y2 y3, LeO (impl_orderKey.l0 k y0 y1 y2 y3) (impl_orderKey.l0 (k + 1) y0 y1 y2 y3))
 | 0 => fun _ _ _ _ r h => by simp [impl_orderKey.l0] at h
 | k + 1 => by
  have ih0 := impl_orderKey.mono_l k
  ·intro y0 y1 y2 y3
   unfold impl_orderKey.l0
   repeat' first | (with_reducible first | exact ih0 _ _ _ _ | exact LeO.refl _ | exact LeO.none _ | refine LeO.ite ?_ ?_ | refine LeO.bind ?_ (fun _ => ?_))
theorem impl_orderKey.mono : ∀ a0 k, LeO (impl_orderKey.f k a0) (impl_orderKey.f (k + 1) a0) := by
 intro a0 k
 have ih0 := impl_orderKey.mono_l k
 unfold impl_orderKey.f
 repeat' first | (with_reducible first | exact ih0 _ _ _ _ | exact LeO.refl _ | exact LeO.none _ | refine LeO.ite ?_ ?_ | refine LeO.bind ?_ (fun _ => ?_))
theorem impl_orderKey.calls (k : Nat) (A0 : Option Addr) (c0 : Nat) (l0 : List Int) (r : ByteArray) (w : World) (hr0 : Kd.C (Kd.int .i64) w A0 l0.length l0) (hc0 : l0.length ≤ c0) (h : impl_orderKey.f k l0 = some r) :
  Calls Try.prog 51 #[.slice A0 l0.length c0] w fun e w' => e = .returned (.string r) ∧ Below w.heap.size w w' := by
 have HR0 := am hr0
 have HC0 := am hc0
 clear hr0 hc0
 have HB := am (Below.refl w.heap.size w)
 have H : (impl_orderKey.l0 k (([] : List Int)) l0 (l0.length : Int) 0) = some r := h
 clear h
 obtain ⟨y226, hy226⟩ : ∃ y_ : List Int, y_ = (([] : List Int)) := ⟨_, rfl⟩
 replace H : (impl_orderKey.l0 k y226 l0 (l0.length : Int) 0) = some r := by first | (rw [hy226]; exact zH) | exact zH
 have Ny226 := am hy226
 clear hy226
 have H' := am H
 clear H
 go_enter Try.func51, Try.ntmps51
 go_wp2_with (first | ((with_reducible refine gate_dst (N := 6) rfl ?_); refine Kd.R_lit (Kd.int .u8) _ 5 ?hg (N := 6) ?hd (xs := ([] : List Int)) (inner := []) (ok := fun _ => True) (okp := fun _ => True) ?hr ?hp (fun _ hk => hk) trivial (Below.refl _ _) (Nat.le_refl _) zq25 ?_; (case hd => rfl); (case hg => rfl); (case hr => exact zq10); (case hp => exact (Reps.none _ _)); intro v227 w2 ho3 hb hg_ hnew_; clear hg_ hnew_; (first | rw [← Ny226.out] at ho3 | (simp only [Int.reduceToNat] at ho3; rw [← Ny226.out] at ho3)); have HO228 := am (Kd.R_lower ho3 (below_size (pBq3 HB))); replace HB := am (below_step (pBq3 HB) hb); clear hb ho3))
 go_loopg [3, 9] k (fun kq v3 v9 w' => ∃ (x3_1 : List Int) (x9_1 : Int), v9 = .int .i64 x9_1 ∧ Aside0 (impl_orderKey.l0 kq x3_1 l0 (l0.length : Int) x9_1 = some r) ∧ Aside0 (kq ≤ k) ∧ Aside0 (Kd.R (Kd.int .u8) 5 w' w.heap.size (fun _ => True) v3 x3_1) ∧ Aside0 (Below w.heap.size w w'))
 case atStart => exact ⟨(y226), (0), zq2, H', ⟨Nat.le_refl _⟩, ⟨by (with_reducible repeat (first | apply Kd.R_alloc | apply Kd.R_drewN | apply Kd.R_drew)); exact HO228.out⟩, ⟨zq1⟩⟩
 case round =>
  clear H'
  try clear p2
  obtain ⟨x3_1, x9_1, rfl, HA, HK1, HO_3, HB⟩ := hrel
  cases gk with
  | zero => exact absurd HA.out (by simp [impl_orderKey.l0])
  | succ k1 =>
   have H := HA.out
   clear HA
   simp only [impl_orderKey.l0] at H
   by_cases c4 : x9_1 < (l0.length : Int)
   ·rw [if_pos c4] at H
    have c4b0 : decide (x9_1 < (l0.length : Int)) = true := decide_eq_true c4
    clear c4
    by_cases c5 : 0 ≤ x9_1
    ·rw [if_pos c5] at H
     have c5b0 : decide (0 ≤ x9_1) = true := decide_eq_true c5
     clear c5
     by_cases c6 : x9_1 < (l0.length : Int)
     ·rw [if_pos c6] at H
      have c6b0 : decide (x9_1 < (l0.length : Int)) = true := decide_eq_true c6
      clear c6
      by_cases c7 : x3_1.length < 140737488355328
      ·rw [if_pos c7] at H
       have LMc7 := am c7
       clear c7
       obtain ⟨y230, hy230⟩ : ∃ y_ : List Int, y_ = (x3_1 ++ [(wrap64 (48 + (rd l0 x9_1))) % 256]) := ⟨_, rfl⟩
       replace H : (impl_orderKey.l0 k1 y230 l0 (l0.length : Int) (wrap64 (x9_1 + 1))) = some r := by first | (rw [hy230]; exact zH) | exact zH
       have Ny230 := am hy230
       clear hy230
       have H' := am H
       clear H
       have p229 : 0 ≤ (x9_1 : Int) := of_decide_eq_true zq0
       have q229 : x9_1 < (l0.length : Int) := of_decide_eq_true zq0
       obtain ⟨ad229, e229, hx229_0⟩ := Kd.at_int HR0.out x9_1 p229 q229
       cases e229
       replace hx229_0 := (HB.out.cell (World.block_lt_of_cell? w _ hx229_0)).trans hx229_0
       replace p229 := eq_true p229
       replace q229 := eq_true q229
       go_wp2_with (first | ((with_reducible refine gate_builtin (b := .append) (xs := #[.tmp 13, .tmp 17]) rfl ?_); at_builtin; refine Kd.R_append (Kd.int .u8) (w0 := w) w.heap.size rfl (.tmp 13) (.tmp 17) 80 5 (.int .u8 0) 1 rfl Try.underlying80 info5 rfl zq34 zq11 u3 x3_1 ((wrap64 (48 + (rd l0 x9_1))) % 256) [.int .u8 ((wrap64 (48 + (rd l0 x9_1))) % 256)] (fun _ => True) (fun _ => False) rfl rfl ?aP (fun _ hk => hk.elim) ?aF ?aO ?aB ?aS ?aL ?_; (case aP => exact rfl); (case aB => exact (pBq3 HB)); (case aF => exact (fun _ _ => trivial)); (case aO => exact (pRq3 HO_3)); (case aS => exact (below_size (pBq3 HB))); (case aL => have := LMc7.out; omega); intro v231 w8 ho hb hg hat; rw [← Ny230.out] at ho; have HO232 := am (ho); replace HB := am (hb); clear HO_3; clear ho hb hg hat))
       go_roundg k1
       case measure => have := HK1.out; omega
       case rel => exact ⟨(y230), (wrap64 (x9_1 + 1)), zq2, H', ⟨zq27⟩, ⟨by (with_reducible repeat (first | apply Kd.R_alloc | apply Kd.R_drewN | apply Kd.R_drew)); exact HO232.out⟩, ⟨zq1⟩⟩
      ·rw [if_neg c7] at H
       exact absurd H zq25
     ·rw [if_neg c6] at H
      exact absurd H zq25
    ·rw [if_neg c5] at H
     exact absurd H zq25
   ·rw [if_neg c4] at H
    have c4b0 : decide (x9_1 < (l0.length : Int)) = false := decide_eq_false c4
    clear c4
    obtain rfl := Option.some.inj H
    have hcv9 := own_string (P := Try.prog) Try.underlying80 Try.underlying5 Try.underlying9 (Kd.own_of_R HO_3.out)
    go_wp2
    go_ret
    exact ⟨zq7, zq1⟩
/-! ### impl_descents: function 52 -/
def impl_descents.l0 : Nat → List Int → List Int → Int → Option (List Int)
 | 0, _, _, _ => none
 | k + 1, x0, x3, x4 => if (wrap64 (x4 + 1)) < (x0.length : Int) then (if 0 ≤ x4 then (if x4 < (x0.length : Int) then (if 0 ≤ (wrap64 (x4 + 1)) then (if (rd x0 x4) > (rd x0 (wrap64 (x4 + 1))) then (if x3.length < 17592186044416 then (impl_descents.l0 k x0 (x3 ++ [x4]) (wrap64 (x4 + 1))) else (none)) else (impl_descents.l0 k x0 x3 (wrap64 (x4 + 1)))) else (none)) else (none)) else (none)) else (some x3)
def impl_descents.f (k : Nat) (l0 : List Int) : Option (List Int) := impl_descents.l0 k l0 (([] : List Int)) 0
theorem impl_descents.mono_l : ∀ k, (∀ y0 y1 y2, LeO (impl_descents.l0 k y0 y1 y2) (impl_descents.l0 (k + 1) y0 y1 y2))
 | 0 => fun _ _ _ r h => by simp [impl_descents.l0] at h
 | k + 1 => by
  have ih0 := impl_descents.mono_l k
  ·intro y0 y1 y2
   unfold impl_descents.l0
   repeat' first | (with_reducible first | exact ih0 _ _ _ | exact LeO.refl _ | exact LeO.none _ | refine LeO.ite ?_ ?_ | refine LeO.bind ?_ (fun _ => ?_))
theorem impl_descents.mono : ∀ a0 k, LeO (impl_descents.f k a0) (impl_descents.f (k + 1) a0) := by
 intro a0 k
 have ih0 := impl_descents.mono_l k
 unfold impl_descents.f
 repeat' first | (with_reducible first | exact ih0 _ _ _ | exact LeO.refl _ | exact LeO.none _ | refine LeO.ite ?_ ?_ | refine LeO.bind ?_ (fun _ => ?_))
theorem impl_descents.calls (k : Nat) (A0 : Option Addr) (c0 : Nat) (l0 : List Int) (r : List Int) (w : World) (hr0 : Kd.C (Kd.int .i64) w A0 l0.length l0) (hc0 : l0.length ≤ c0) (h : impl_descents.f k l0 = some r) :
  Calls Try.prog 52 #[.slice A0 l0.length c0] w fun e w' => ∃ v0_ : Value, e = .returned (v0_) ∧ Kd.R (Kd.int .i64) 3 w' w.heap.size (fun _ => True) v0_ r ∧ Below w.heap.size w w' := by
 have HR0 := am hr0
 have HC0 := am hc0
 clear hr0 hc0
 have HB := am (Below.refl w.heap.size w)
 have H : (impl_descents.l0 k l0 (([] : List Int)) 0) = some r := h
 clear h
 obtain ⟨y233, hy233⟩ : ∃ y_ : List Int, y_ = (([] : List Int)) := ⟨_, rfl⟩
 replace H : (impl_descents.l0 k l0 y233 0) = some r := by first | (rw [hy233]; exact zH) | exact zH
 have Ny233 := am hy233
 clear hy233
 have H' := am H
 clear H
 go_enter Try.func52, Try.ntmps52
 go_wp2_with (first | ((with_reducible refine gate_dst (N := 5) rfl ?_); refine Kd.R_lit (Kd.int .i64) _ 3 ?hg (N := 5) ?hd (xs := ([] : List Int)) (inner := []) (ok := fun _ => True) (okp := fun _ => True) ?hr ?hp (fun _ hk => hk) trivial (Below.refl _ _) (Nat.le_refl _) zq25 ?_; (case hd => rfl); (case hg => rfl); (case hr => exact zq10); (case hp => exact (Reps.none _ _)); intro v234 w2 ho3 hb hg_ hnew_; clear hg_ hnew_; (first | rw [← Ny233.out] at ho3 | (simp only [Int.reduceToNat] at ho3; rw [← Ny233.out] at ho3)); have HO235 := am (Kd.R_lower ho3 (below_size (pBq3 HB))); replace HB := am (below_step (pBq3 HB) hb); clear hb ho3))
 repeat (go_quiet (first | ((with_reducible refine gate_dst (N := 5) rfl ?_); refine Kd.R_lit (Kd.int .i64) _ 3 ?hg (N := 5) ?hd (xs := ([] : List Int)) (inner := []) (ok := fun _ => True) (okp := fun _ => True) ?hr ?hp (fun _ hk => hk) trivial (Below.refl _ _) (Nat.le_refl _) zq25 ?_; (case hd => rfl); (case hg => rfl); (case hr => exact zq10); (case hp => exact (Reps.none _ _)); intro v234 w2 ho3 hb hg_ hnew_; clear hg_ hnew_; (first | rw [← Ny233.out] at ho3 | (simp only [Int.reduceToNat] at ho3; rw [← Ny233.out] at ho3)); have HO235 := am (Kd.R_lower ho3 (below_size (pBq3 HB))); replace HB := am (below_step (pBq3 HB) hb); clear hb ho3)); try go_wp2_with (first | ((with_reducible refine gate_dst (N := 5) rfl ?_); refine Kd.R_lit (Kd.int .i64) _ 3 ?hg (N := 5) ?hd (xs := ([] : List Int)) (inner := []) (ok := fun _ => True) (okp := fun _ => True) ?hr ?hp (fun _ hk => hk) trivial (Below.refl _ _) (Nat.le_refl _) zq25 ?_; (case hd => rfl); (case hg => rfl); (case hr => exact zq10); (case hp => exact (Reps.none _ _)); intro v234 w2 ho3 hb hg_ hnew_; clear hg_ hnew_; (first | rw [← Ny233.out] at ho3 | (simp only [Int.reduceToNat] at ho3; rw [← Ny233.out] at ho3)); have HO235 := am (Kd.R_lower ho3 (below_size (pBq3 HB))); replace HB := am (below_step (pBq3 HB) hb); clear hb ho3)))
 go_loopg [3, 4] k (fun kq v3 v4 w' => ∃ (x3_1 : List Int) (x4_1 : Int), v4 = .int .i64 x4_1 ∧ Aside0 (impl_descents.l0 kq l0 x3_1 x4_1 = some r) ∧ Aside0 (kq ≤ k) ∧ Aside0 (Kd.R (Kd.int .i64) 3 w' w.heap.size (fun _ => True) v3 x3_1) ∧ Aside0 (Below w.heap.size w w'))
 case atStart => exact ⟨(y233), (0), zq2, H', ⟨Nat.le_refl _⟩, ⟨by (with_reducible repeat (first | apply Kd.R_alloc | apply Kd.R_drewN | apply Kd.R_drew)); exact HO235.out⟩, ⟨zq1⟩⟩
 case round =>
  clear H'
  try clear p2
  obtain ⟨x3_1, x4_1, rfl, HA, HK1, HO_3, HB⟩ := hrel
  cases gk with
  | zero => exact absurd HA.out (by simp [impl_descents.l0])
  | succ k1 =>
   have H := HA.out
   clear HA
   simp only [impl_descents.l0] at H
   by_cases c4 : (wrap64 (x4_1 + 1)) < (l0.length : Int)
   ·rw [if_pos c4] at H
    have c4b0 : decide ((wrap64 (x4_1 + 1)) < (l0.length : Int)) = true := decide_eq_true c4
    clear c4
    by_cases c5 : 0 ≤ x4_1
    ·rw [if_pos c5] at H
     have c5b0 : decide (0 ≤ x4_1) = true := decide_eq_true c5
     clear c5
     by_cases c6 : x4_1 < (l0.length : Int)
     ·rw [if_pos c6] at H
      have c6b0 : decide (x4_1 < (l0.length : Int)) = true := decide_eq_true c6
      clear c6
      obtain ⟨ji7, hji7⟩ : ∃ j_ : Int, (wrap64 (x4_1 + 1)) = j_ := ⟨_, rfl⟩
      replace H : (if 0 ≤ (ji7) then (if (rd l0 x4_1) > (rd l0 (ji7)) then (if x3_1.length < 17592186044416 then (impl_descents.l0 k1 l0 (x3_1 ++ [x4_1]) ji7) else (none)) else (impl_descents.l0 k1 l0 x3_1 ji7)) else (none)) = some r := by first | (rw [hji7] at H; exact H) | (simp only [hji7] at H ⊢; exact H)
      (try rw [hji7] at c4b0)
      have hji7w : (IntKind.i64.wrap (x4_1 + 1)) = ji7 := (i64_w _).trans hji7
      by_cases c8 : 0 ≤ (ji7)
      ·rw [if_pos c8] at H
       have c8b0 : decide (0 ≤ (ji7)) = true := decide_eq_true c8
       clear c8
       by_cases c9 : (rd l0 x4_1) > (rd l0 (ji7))
       ·rw [if_pos c9] at H
        have c9b0 : decide ((rd l0 (ji7)) < (rd l0 x4_1)) = true := decide_eq_true c9
        clear c9
        by_cases c10 : x3_1.length < 17592186044416
        ·rw [if_pos c10] at H
         have LMc10 := am c10
         clear c10
         obtain ⟨y238, hy238⟩ : ∃ y_ : List Int, y_ = (x3_1 ++ [x4_1]) := ⟨_, rfl⟩
         replace H : (impl_descents.l0 k1 l0 y238 ji7) = some r := by first | (rw [hy238]; exact zH) | exact zH
         have Ny238 := am hy238
         clear hy238
         have H' := am H
         clear H
         have p236 : 0 ≤ (x4_1 : Int) := of_decide_eq_true zq0
         have q236 : x4_1 < (l0.length : Int) := of_decide_eq_true zq0
         obtain ⟨ad236, e236, hx236_0⟩ := Kd.at_int HR0.out x4_1 p236 q236
         cases e236
         replace hx236_0 := (HB.out.cell (World.block_lt_of_cell? w _ hx236_0)).trans hx236_0
         replace p236 := eq_true p236
         replace q236 := eq_true q236
         have p237 : 0 ≤ ((ji7) : Int) := of_decide_eq_true zq0
         have q237 : (ji7) < (l0.length : Int) := of_decide_eq_true zq0
         obtain ⟨ad237, e237, hx237_0⟩ := Kd.at_int HR0.out (ji7) p237 q237
         obtain rfl : ad236 = ad237 := (by injection e237)
         replace hx237_0 := (HB.out.cell (World.block_lt_of_cell? w _ hx237_0)).trans hx237_0
         replace p237 := eq_true p237
         replace q237 := eq_true q237
         go_wp2_with (first | ((with_reducible refine gate_builtin (b := .append) (xs := #[.tmp 23, .tmp 25]) rfl ?_); at_builtin; refine Kd.R_append (Kd.int .i64) (w0 := w) w.heap.size rfl (.tmp 23) (.tmp 25) 22 3 (.int .i64 0) 8 rfl Try.underlying22 info3 rfl zq34 zq11 u3 x3_1 x4_1 [.int .i64 x4_1] (fun _ => True) (fun _ => False) rfl rfl ?aP (fun _ hk => hk.elim) ?aF ?aO ?aB ?aS ?aL ?_; (case aP => exact rfl); (case aB => exact (pBq3 HB)); (case aF => exact (fun _ _ => trivial)); (case aO => exact (pRq3 HO_3)); (case aS => exact (below_size (pBq3 HB))); (case aL => have := LMc10.out; omega); intro v239 w11 ho hb hg hat; rw [← Ny238.out] at ho; have HO240 := am (ho); replace HB := am (hb); clear HO_3; clear ho hb hg hat))
         repeat (go_quiet (first | ((with_reducible refine gate_builtin (b := .append) (xs := #[.tmp 23, .tmp 25]) rfl ?_); at_builtin; refine Kd.R_append (Kd.int .i64) (w0 := w) w.heap.size rfl (.tmp 23) (.tmp 25) 22 3 (.int .i64 0) 8 rfl Try.underlying22 info3 rfl zq34 zq11 u3 x3_1 x4_1 [.int .i64 x4_1] (fun _ => True) (fun _ => False) rfl rfl ?aP (fun _ hk => hk.elim) ?aF ?aO ?aB ?aS ?aL ?_; (case aP => exact rfl); (case aB => exact (pBq3 HB)); (case aF => exact (fun _ _ => trivial)); (case aO => exact (pRq3 HO_3)); (case aS => exact (below_size (pBq3 HB))); (case aL => have := LMc10.out; omega); intro v239 w11 ho hb hg hat; rw [← Ny238.out] at ho; have HO240 := am (ho); replace HB := am (hb); clear HO_3; clear ho hb hg hat)); try go_wp2_with (first | ((with_reducible refine gate_builtin (b := .append) (xs := #[.tmp 23, .tmp 25]) rfl ?_); at_builtin; refine Kd.R_append (Kd.int .i64) (w0 := w) w.heap.size rfl (.tmp 23) (.tmp 25) 22 3 (.int .i64 0) 8 rfl Try.underlying22 info3 rfl zq34 zq11 u3 x3_1 x4_1 [.int .i64 x4_1] (fun _ => True) (fun _ => False) rfl rfl ?aP (fun _ hk => hk.elim) ?aF ?aO ?aB ?aS ?aL ?_; (case aP => exact rfl); (case aB => exact (pBq3 HB)); (case aF => exact (fun _ _ => trivial)); (case aO => exact (pRq3 HO_3)); (case aS => exact (below_size (pBq3 HB))); (case aL => have := LMc10.out; omega); intro v239 w11 ho hb hg hat; rw [← Ny238.out] at ho; have HO240 := am (ho); replace HB := am (hb); clear HO_3; clear ho hb hg hat)))
         go_roundg k1
         case measure => have := HK1.out; omega
         case rel => exact ⟨(y238), (ji7), (by first | rfl | (simp; done) | (simp only [← hji7] <;> (first | rfl | simp)) | (simp [*]; done)), H', ⟨zq27⟩, ⟨by (with_reducible repeat (first | apply Kd.R_alloc | apply Kd.R_drewN | apply Kd.R_drew)); exact HO240.out⟩, ⟨zq1⟩⟩
        ·rw [if_neg c10] at H
         exact absurd H zq25
       ·rw [if_neg c9] at H
        have c9b0 : decide ((rd l0 (ji7)) < (rd l0 x4_1)) = false := decide_eq_false c9
        clear c9
        have H' := am H
        clear H
        have p236 : 0 ≤ (x4_1 : Int) := of_decide_eq_true zq0
        have q236 : x4_1 < (l0.length : Int) := of_decide_eq_true zq0
        obtain ⟨ad236, e236, hx236_0⟩ := Kd.at_int HR0.out x4_1 p236 q236
        cases e236
        replace hx236_0 := (HB.out.cell (World.block_lt_of_cell? w _ hx236_0)).trans hx236_0
        replace p236 := eq_true p236
        replace q236 := eq_true q236
        have p237 : 0 ≤ ((ji7) : Int) := of_decide_eq_true zq0
        have q237 : (ji7) < (l0.length : Int) := of_decide_eq_true zq0
        obtain ⟨ad237, e237, hx237_0⟩ := Kd.at_int HR0.out (ji7) p237 q237
        obtain rfl : ad236 = ad237 := (by injection e237)
        replace hx237_0 := (HB.out.cell (World.block_lt_of_cell? w _ hx237_0)).trans hx237_0
        replace p237 := eq_true p237
        replace q237 := eq_true q237
        go_wp2
        repeat (go_quiet (fail); try go_wp2)
        go_roundg k1
        case measure => have := HK1.out; omega
        case rel => exact ⟨(x3_1), (ji7), (by first | rfl | (simp; done) | (simp only [← hji7] <;> (first | rfl | simp)) | (simp [*]; done)), H', ⟨zq27⟩, ⟨zq36⟩, ⟨zq1⟩⟩
      ·rw [if_neg c8] at H
       exact absurd H zq25
     ·rw [if_neg c6] at H
      exact absurd H zq25
    ·rw [if_neg c5] at H
     exact absurd H zq25
   ·rw [if_neg c4] at H
    have c4b0 : decide ((wrap64 (x4_1 + 1)) < (l0.length : Int)) = false := decide_eq_false c4
    clear c4
    obtain rfl := Option.some.inj H
    go_wp2
    repeat (go_quiet (fail); try go_wp2)
    go_ret
    exact ⟨_, zq7, zq36, zq1⟩
/-! ### slices_Clone_int_int: function 48 -/
def slices_Clone_int_int.f (l0 : List Int) : Option (List Int) := if l0.length < 17592186044416 then (some l0) else (none)
set_option maxHeartbeats 2000000 in
set_option maxRecDepth 100000 in
theorem slices_Clone_int_int.calls (A0 : Option Addr) (c0 : Nat) (l0 : List Int) (r : List Int) (w : World) (hr0 : Kd.C (Kd.int .i64) w A0 l0.length l0) (hc0 : l0.length ≤ c0) (h : slices_Clone_int_int.f l0 = some r) :
  Calls Try.prog 48 #[.slice A0 l0.length c0] w fun e w' => ∃ v0_ : Value, e = .returned (v0_) ∧ Kd.R (Kd.int .i64) 3 w' w.heap.size (fun _ => True) v0_ r ∧ Below w.heap.size w w' := by
 have HR0 := am hr0
 have hz : A0 = none → l0 = [] := fun e => by
  rcases Nat.eq_zero_or_pos l0.length with h0 | h0
  ·exact List.eq_nil_of_length_eq_zero h0
  ·obtain ⟨ad, hA, _⟩ := hr0.2.2 h0
   rw [e] at hA; cases hA
 unfold slices_Clone_int_int.f at h
 by_cases hl : l0.length < 17592186044416
 ·rw [if_pos hl] at h
  obtain rfl := Option.some.inj h
  have HL := am hl
  clear hl h hr0 hc0
  have hnil := fun (w : World) (a : Option Addr) (n c : Nat) => Lib.run_eql_slice_nil (P := Try.prog) w 22 3 a n c 0 0 Try.underlying22
  cases A0 with
  | none =>
   obtain rfl := hz rfl
   clear hz
   go_enter Try.func48, Try.ntmps48
   go_wp2
   go_ret
   exact ⟨_, rfl, Kd.R_nil _ _ _ _ _, zq29⟩
  | some ad =>
   clear hz
   have HB := am (Below.refl w.heap.size w)
   obtain ⟨y1, hy1⟩ : ∃ y_ : List Int, y_ = (([] : List Int)) := ⟨_, rfl⟩
   have Ny1 := am hy1
   obtain ⟨y2, hy2⟩ : ∃ y_ : List Int, y_ = (y1 ++ l0) := ⟨_, rfl⟩
   have Ny2 := am hy2
   have NE := am (show y2 = l0 by rw [hy2, hy1]; rfl)
   have LM := am (show y1.length + l0.length < 17592186044416 by rw [hy1]; simpa using HL.out)
   clear hy1 hy2
   go_enter Try.func48, Try.ntmps48
   go_wp2_with (first | ((with_reducible refine gate_dst (N := 5) rfl ?_); refine Kd.R_lit (Kd.int .i64) _ 3 ?hg (N := 5) ?hd (xs := ([] : List Int)) (inner := []) (ok := fun _ => True) (okp := fun _ => True) ?hr ?hp (fun _ hk => hk) trivial (Below.refl _ _) (Nat.le_refl _) zq25 ?_; (case hd => rfl); (case hg => rfl); (case hr => exact zq10); (case hp => exact (Reps.none _ _)); intro v1 w3 ho4 hb hg_ hnew_; clear hg_ hnew_; (first | rw [← Ny1.out] at ho4 | (simp only [Int.reduceToNat] at ho4; rw [← Ny1.out] at ho4)); have HO1 := am (Kd.R_lower ho4 (below_size HB.out)); replace HB := am (below_step HB.out hb); clear hb ho4) | ((with_reducible refine gate_builtin (b := .append) (xs := #[.tmp 5, .tmp 6]) rfl ?_); at_builtin; refine Kd.R_append_rows (Kd.int .i64) (w0 := w) w.heap.size rfl (.tmp 5) (.tmp 6) 22 3 (.int .i64 0) 8 rfl Try.underlying22 info3 rfl zq34 zq11 v1 y1 l0 _ _ _ (fun _ => True) (fun _ => False) rfl rfl ?aO ?aR (fun _ _ h => h) (fun _ h => h.elim) ?aF ?aB ?aS ?aL ?_; (case aR => exact zq8); (case aB => exact HB.out); (case aF => exact (fun _ _ => trivial)); (case aO => exact (pRq3 HO1)); (case aS => exact (below_size HB.out)); (case aL => have := LM.out; omega); intro v2 w5 ho hb hg hat; rw [← Ny2.out, NE.out] at ho; have HO2 := am (ho); replace HB := am (hb); clear HO1; clear ho hb hg hat))
   go_ret
   exact ⟨_, by rfl, by (with_reducible repeat (first | apply Kd.R_alloc | apply Kd.R_drewN | apply Kd.R_drew)); exact HO2.out, zq1⟩
 ·rw [if_neg hl] at h
  cases h
/-! ### impl_exchanged: function 53 -/
def impl_exchanged.f (l0 : List Int) (a1 : Int) : Option (List Int) := (slices_Clone_int_int.f l0).bind fun t241 => (if 0 ≤ (wrap64 (a1 + 1)) then (if (wrap64 (a1 + 1)) < (t241.length : Int) then (if 0 ≤ a1 then (if a1 < (t241.length : Int) then (some ((t241.set (a1 : Int).toNat (rd t241 (wrap64 (a1 + 1)))).set ((wrap64 (a1 + 1)) : Int).toNat (rd t241 a1))) else (none)) else (none)) else (none)) else (none))
def impl_exchanged.T2 : Bool × List (List Nat × List Nat) := (true, [([], []), ([], []), ([], []), ([], []), ([3], [3]), ([], []), ([], []), ([6], [6]), ([5, 7], [5, 7]), ([8], [8]), ([], []), ([], []), ([10, 11], [10, 11]), ([12], [12]), ([0, 1, 0, 1, 5, 6, 7, 8, 9, 13], [0, 1]), ([14, 9, 0, 1, 5, 6, 7, 8, 9, 13], [9, 14]), ([2, 4, 0, 1, 2, 3, 4, 5, 6, 7, 8, 9, 10, 11, 12, 13, 14, 15], [2, 4]), ([16, 13, 15, 0, 1, 2, 3, 4, 5, 6, 7, 8, 9, 10, 11, 12, 13, 14, 15], [13, 16])])
def impl_exchanged.B2 : List Nat := [0, 0, 0, 0, 8, 0, 0, 64, 224, 480, 0, 0, 3072, 7168, 16355, 32739, 65535, 131071]
theorem impl_exchanged.tab2 : rtab .any (opsOf Try.f53 2) = impl_exchanged.T2 := by kernel_rfl
theorem impl_exchanged.bits2 : waitsOk impl_exchanged.T2.2 impl_exchanged.B2 = true := by kernel_rfl
theorem impl_exchanged.calls (A0 : Option Addr) (c0 : Nat) (l0 : List Int) (a1 : Int) (r : List Int) (w : World) (hr0 : Kd.C (Kd.int .i64) w A0 l0.length l0) (hc0 : l0.length ≤ c0) (h : impl_exchanged.f l0 a1 = some r) :
  Calls Try.prog 53 #[.slice A0 l0.length c0, .int .i64 a1] w fun e w' => ∃ v0_ : Value, e = .returned (v0_) ∧ Kd.R (Kd.int .i64) 3 w' w.heap.size (fun _ => True) v0_ r ∧ Below w.heap.size w w' := by
 have HR0 := am hr0
 have HC0 := am hc0
 clear hr0 hc0
 have HB := am (Below.refl w.heap.size w)
 have H : ((slices_Clone_int_int.f l0).bind fun t241 => (if 0 ≤ (wrap64 (a1 + 1)) then (if (wrap64 (a1 + 1)) < (t241.length : Int) then (if 0 ≤ a1 then (if a1 < (t241.length : Int) then (some ((t241.set (a1 : Int).toNat (rd t241 (wrap64 (a1 + 1)))).set ((wrap64 (a1 + 1)) : Int).toNat (rd t241 a1))) else (none)) else (none)) else (none)) else (none))) = some r := h
 clear h
 obtain ⟨t241, A3, H⟩ := zS H
 (try dsimp only at H)
 obtain ⟨ji4, hji4⟩ : ∃ j_ : Int, (wrap64 (a1 + 1)) = j_ := ⟨_, rfl⟩
 replace H : (if 0 ≤ (ji4) then (if (ji4) < (t241.length : Int) then (if 0 ≤ a1 then (if a1 < (t241.length : Int) then (some ((t241.set (a1 : Int).toNat (rd t241 (ji4))).set ((ji4) : Int).toNat (rd t241 a1))) else (none)) else (none)) else (none)) else (none)) = some r := zq85
 (try rw [hji4] at A3)
 have hji4w : (IntKind.i64.wrap (a1 + 1)) = ji4 := (i64_w _).trans hji4
 by_cases c5 : 0 ≤ (ji4)
 ·rw [if_pos c5] at H
  have c5b0 : decide (0 ≤ (ji4)) = true := decide_eq_true c5
  clear c5
  by_cases c6 : (ji4) < (t241.length : Int)
  ·rw [if_pos c6] at H
   have c6b0 : decide ((ji4) < (t241.length : Int)) = true := decide_eq_true c6
   clear c6
   by_cases c7 : 0 ≤ a1
   ·rw [if_pos c7] at H
    have c7b0 : decide (0 ≤ a1) = true := decide_eq_true c7
    clear c7
    by_cases c8 : a1 < (t241.length : Int)
    ·rw [if_pos c8] at H
     have c8b0 : decide (a1 < (t241.length : Int)) = true := decide_eq_true c8
     clear c8
     obtain ⟨y246, hy246⟩ : ∃ y_ : List Int, y_ = (t241.set (a1 : Int).toNat (rd t241 (ji4))) := ⟨_, rfl⟩
     replace H : (some (y246.set ((ji4) : Int).toNat (rd t241 a1))) = some r := by first | (rw [hy246]; exact zH) | exact zH
     have Ny246 := am hy246
     clear hy246
     obtain ⟨y247, hy247⟩ : ∃ y_ : List Int, y_ = (y246.set ((ji4) : Int).toNat (rd t241 a1)) := ⟨_, rfl⟩
     replace H : (some y247) = some r := by first | (rw [hy247]; exact zH) | exact zH
     have Ny247 := am hy247
     clear hy247
     obtain rfl := Option.some.inj H
     go_enter Try.func53, Try.ntmps53
     try go_wp2_with (first | ((with_reducible refine gate_callee (f := 48) rfl ?_); refine goesL_ (some 7) rfl rfl Try.func48 zq24 rfl #[.slice A0 l0.length c0] rfl zq3 ?_; (with_reducible refine (slices_Clone_int_int.calls _ _ l0 t241 _ ?side1 ?side2 A3.out).mono ?_); (case side1 => exact zq12); (case side2 => exact HC0.out); rintro e w11 ⟨v242, rfl, ho0, hb⟩; refine ⟨_, rfl, ?_⟩; have HO243 := am (Kd.R_lower ho0 (below_size (pBq3 HB))); replace HB := am (below_step (pBq3 HB) hb); (try clear hb ho0)))
     replace HO243 := am (Kd.R_drew HO243.out)
     replace HB := am (below_drew1 HB.out)
     obtain ⟨Ao13, co13, eo13⟩ := Kd.R_slice HO243.out
     (first | subst eo13 | (injection eo13 with f1_ f2_ f3_; have f4_ := f1_.symm; have f5_ := f3_.symm; clear f1_ f2_ f3_; subst f4_; subst f5_))
     have p244 : 0 ≤ ((ji4) : Int) := of_decide_eq_true zq0
     have q244 : (ji4) < (t241.length : Int) := of_decide_eq_true zq0
     obtain ⟨ad244, e244, hx244_0⟩ := Kd.at_int (Kd.R_reads' HO243.out).2.2 (ji4) p244 q244
     cases e244
     replace p244 := eq_true p244
     replace q244 := eq_true q244
     have p245 : 0 ≤ (a1 : Int) := of_decide_eq_true zq0
     have q245 : a1 < (t241.length : Int) := of_decide_eq_true zq0
     obtain ⟨ad245, e245, hx245_0⟩ := Kd.at_int (Kd.R_reads' HO243.out).2.2 a1 p245 q245
     obtain rfl : ad244 = ad245 := (by injection e245)
     replace p245 := eq_true p245
     replace q245 := eq_true q245
     have p9 : 0 ≤ (a1 : Int) := of_decide_eq_true zq0
     have q9 : (a1 : Int) < ((t241.length : Int) : Int) := of_decide_eq_true zq0
     obtain ⟨go9, co9, eo9, gb9, gl9, cl9, HG9⟩ := Kd.R_form HO243.out zq11
     (first | cases eo9 | (injection eo9 with ea_ en_ ec_; (first | subst ea_ | (injection ea_ with ea_; subst ea_)); subst ec_; clear en_))
     have GB9 := am gb9
     have GG9 := am HG9
     clear gb9 gl9 HG9
     (first | simp only [add_plain] at hx244_0 | skip)
     (first | simp only [add_plain] at hx245_0 | skip)
     obtain ⟨hx9_0, hf9_0⟩ := Kd.R_celln 0 HO243.out (a1 : Int) p9 q9
     replace p9 := eq_true p9
     replace q9 := eq_true q9
     have HP14 := Kd.R_putn HO243.out (a1 : Int) (rd t241 (ji4))
     rw [← Ny246.out] at HP14
     have HQ14 := am HP14
     clear HP14
     have p10 : 0 ≤ ((ji4) : Int) := of_decide_eq_true zq0
     have q10 : ((ji4) : Int) < ((t241.length : Int) : Int) := of_decide_eq_true zq0
     obtain ⟨hx10_0, hf10_0⟩ := Kd.R_celln 0 HQ14.out ((ji4) : Int) p10 q10
     replace p10 := eq_true p10
     replace q10 := eq_true q10
     have HP15 := Kd.R_putn HQ14.out ((ji4) : Int) (rd t241 a1)
     rw [← Ny247.out] at HP15
     have HQ15 := am HP15
     clear HP15
     refine start_ (n := 18) (S := fun w' => w'.cell? ⟨go9, ((ji4)).toNat, none⟩ = some (.int .i64 (rd t241 (ji4))) ∧ w'.cell? ⟨go9, (a1).toNat, none⟩ = some (.int .i64 (rd t241 a1))) (ds := [15, 17]) #[false, false, false, false, false, false, false, false, false, false, false, false, false, false, false, false, false, false] zq24 rfl rfl ⟨hx244_0, hx245_0⟩ (fun hHeld => ?_); refine with_tabW impl_exchanged.tab2 impl_exchanged.bits2 (fun HT_ HW_ => ?_)
     generalize w11.drew = w12 at HO243 HB GG9 HQ14 HQ15 hf10_0 hf9_0 hx10_0 hx244_0 hx245_0 hx9_0 hHeld ⊢
     refine zU 0 8 HT_ ?_
     refine zU 1 9 HT_ ?_
     refine zU 2 10 HT_ ?_
     refine zU 3 11 HT_ ?_
     refine zU 4 12 HT_ ?_
     refine zU 5 13 HT_ ?_
     refine zU 6 14 HT_ ?_
     refine zU 7 15 HT_ ?_
     refine zU 8 16 HT_ ?_
     refine zU 10 18 HT_ ?_
     refine zU 11 19 HT_ ?_
     refine zU 12 20 HT_ ?_
     refine zT 9 17 HT_ HW_ hHeld ?_
     refine zT 13 21 HT_ HW_ hHeld ?_
     refine zU 14 22 HT_ ?_
     refine last_ (i := 15) (N := none) #[true, true, true, true, true, true, true, true, true, true, true, true, true, true, true, true, false, false] rfl rfl (one_of HT_.out zq24) zq34 (fun K hK => ?_)
     refine skip_ (w1 := ?_) (by rfl) rfl ?_ ?_
     rotate_left
     ·go_simp
      rfl
     refine hK.out _ _ ?_
     clear hK K
     refine zU 16 23 HT_ ?_
     refine last_ (i := 17) (N := none) #[true, true, true, true, true, true, true, true, true, true, true, true, true, true, true, true, true, true] rfl rfl (one_of HT_.out zq24) zq34 (fun K hK => ?_)
     refine skip_ (w1 := ?_) (by rfl) rfl ?_ ?_
     rotate_left
     ·go_simp
      rfl
     refine hK.out _ _ ?_
     clear hK K
     refine done_ (done_of HT_.out zq24) ?_
     try go_wp2
     go_ret
     exact ⟨_, zq72, by (with_reducible repeat (first | apply Kd.R_alloc | apply Kd.R_drewN | apply Kd.R_drew)); exact HQ15.out, by repeat (first | (with_reducible first | exact HB.out | apply below_alloc | apply pw_below_drewN | apply below_drew1 | refine below_set ?_ GB9.out | refine below_set ?_ GB9.out) | exact HB.out)⟩
    ·rw [if_neg c8] at H
     exact absurd H zq25
   ·rw [if_neg c7] at H
    exact absurd H zq25
  ·rw [if_neg c6] at H
   exact absurd H zq25
 ·rw [if_neg c5] at H
  exact absurd H zq25
/-! ### impl_counter_count: function 40 -/
open Classical in
noncomputable def impl_counter_count.ev {α : Type} (g : Nat → Option α) : Option α := if h : ∃ k r, g k = some r then g h.choose else none
theorem impl_counter_count.ev_some {α : Type} {g : Nat → Option α} {r : α} (h : impl_counter_count.ev g = some r) : ∃ k, g k = some r := by
 unfold impl_counter_count.ev at h
 split at h
 ·exact ⟨_, h⟩
 ·cases h
def impl_counter_count.good (l : List Int) : Bool := l.all fun x => decide (0 ≤ x) && decide (x ≤ 100)
theorem impl_counter_count.good_mem {l : List Int} (h : impl_counter_count.good l = true) : ∀ x ∈ l, 0 ≤ x ∧ x ≤ 100 := fun x hx => by
 have := List.all_eq_true.1 h x hx
 simpa using this
def impl_counter_count.key (l : List Int) : List UInt8 := l.map fun x => UInt8.ofNat ((48 + x) % 256).toNat
theorem impl_counter_count.key_inj : ∀ (a b : List Int), (∀ x ∈ a, 0 ≤ x ∧ x ≤ 100) → (∀ x ∈ b, 0 ≤ x ∧ x ≤ 100) → impl_counter_count.key a = impl_counter_count.key b → a = b
 | [], [], _, _, _ => rfl
 | [], y :: b, _, _, h => by simp [impl_counter_count.key] at h
 | x :: a, [], _, _, h => by simp [impl_counter_count.key] at h
 | x :: a, y :: b, ha, hb, h => by
  have hx := ha x zq25
  have hy := hb y zq25
  simp only [impl_counter_count.key, List.map_cons, List.cons.injEq] at h
  have h1 := congrArg UInt8.toNat h.1
  simp only [UInt8.toNat_ofNat'] at h1
  have e : x = y := zq11
  have e2 := impl_counter_count.key_inj a b (fun z hz => ha z (by simp [hz])) (fun z hz => hb z (by simp [hz])) h.2
  rw [e, e2]
theorem impl_counter_count.ok_key : ∀ (d i : Nat) (l acc : List Int) (k : Nat), i + d = l.length → l.length ≤ 8 → (∀ x ∈ l, 0 ≤ x ∧ x ≤ 100) → acc.length ≤ i → d < k → impl_orderKey.l0 k acc l (l.length : Int) (i : Int) = some (strOfNums (acc ++ (l.drop i).map fun x => (48 + x) % 256)) := by
 intro d
 induction d with
 | zero =>
  intro i l acc k hd h8 hg ha hk
  obtain ⟨k, rfl⟩ : ∃ m, k = m + 1 := ⟨k - 1, zq11⟩
  rw [impl_orderKey.l0, if_neg zq11, List.drop_eq_nil_of_le zq11]
  simp
 | succ d ih =>
  intro i l acc k hd h8 hg ha hk
  obtain ⟨k, rfl⟩ : ∃ m, k = m + 1 := ⟨k - 1, zq11⟩
  have hi : i < l.length := zq11
  have hr : rd l (i : Int) = l[i] := by
   show l.getD ((i : Int)).toNat 0 = _
   rw [Int.toNat_natCast, List.getD_eq_getElem?_getD, List.getElem?_eq_getElem hi]; rfl
  have hm := hg _ (List.getElem_mem hi)
  have hw : wrap64 (48 + l[i]) = 48 + l[i] := by unfold wrap64; omega
  have hw2 : wrap64 ((i : Int) + 1) = ((i + 1 : Nat) : Int) := by unfold wrap64; omega
  rw [impl_orderKey.l0, if_pos zq11, if_pos zq11, if_pos zq11, if_pos zq11, hr, hw, hw2, ih (i + 1) l _ k zq11 h8 hg (by simp; omega) zq11, List.drop_eq_getElem_cons hi, List.map_cons, List.append_assoc]
  rfl
theorem impl_counter_count.orderKey {l : List Int} (h8 : l.length ≤ 8) (hg : ∀ x ∈ l, 0 ≤ x ∧ x ≤ 100) : ∃ s : ByteArray, impl_orderKey.f 100 l = some s ∧ s.data.toList = impl_counter_count.key l ∧ s.size ≤ 8 := by
 refine ⟨_, impl_counter_count.ok_key l.length 0 l [] 100 zq11 h8 hg zq25 zq11, ?_, ?_⟩
 ·rw [strOfNums_data, List.nil_append, List.drop_zero, List.map_map]; rfl
 ·rw [strOfNums_size]; simpa using h8
def impl_counter_count.sm (g : List Int → Option Int) (l : List Int) : List Int → Int → Option Int
 | [], n => some n
 | r :: rs, n => (impl_exchanged.f l r).bind fun q => (g q).bind fun m => impl_counter_count.sm g l rs (wrap64 (n + m))
/-- How many least ladders there are, the falls taken one by one. -/
noncomputable def impl_counter_count.g : Nat → List Int → Option Int
 | 0, _ => none
 | d + 1, l => if impl_counter_count.good l = true ∧ l.length ≤ 8 then (impl_counter_count.ev fun k => impl_descents.f k l).bind fun ds => (if ds.length = 0 then some 1 else if ds.length ≤ 8 then impl_counter_count.sm (impl_counter_count.g d) l ds 0 else none) else none
noncomputable def impl_counter_count.f (l0 : List Int) : Option Int := impl_counter_count.g 16 l0
theorem impl_counter_count.sm_mono {g g' : List Int → Option Int} (h : ∀ q v, g q = some v → g' q = some v) (l : List Int) : ∀ (ds : List Int) (n r : Int), impl_counter_count.sm g l ds n = some r → impl_counter_count.sm g' l ds n = some r
 | [], _, _, e => e
 | x :: ds, n, r, e => by
  simp only [impl_counter_count.sm] at e ⊢
  obtain ⟨q, hq, e⟩ := Option.bind_eq_some_iff.1 e
  obtain ⟨m, hm, e⟩ := Option.bind_eq_some_iff.1 e
  rw [hq]
  simp only [Option.bind_some]
  rw [h q m hm]
  exact impl_counter_count.sm_mono h l ds _ r e
theorem impl_counter_count.g_succ : ∀ (d : Nat) (l : List Int) (v : Int), impl_counter_count.g d l = some v → impl_counter_count.g (d + 1) l = some v
 | 0, _, _, e => by simp [impl_counter_count.g] at e
 | d + 1, l, v, e => by
  rw [impl_counter_count.g] at e ⊢
  split at e
  ·rename_i hc
   rw [if_pos hc]
   obtain ⟨ds, hds, e⟩ := Option.bind_eq_some_iff.1 e
   rw [hds]
   simp only [Option.bind_some]
   split at e
   ·rename_i h0; rw [if_pos h0]; exact e
   ·rename_i h0
    rw [if_neg h0]
    split at e
    ·rename_i h1; rw [if_pos h1]; exact impl_counter_count.sm_mono (fun q v => impl_counter_count.g_succ d q v) l ds 0 v e
    ·cases e
  ·cases e
theorem impl_counter_count.g_le {d d' : Nat} (h : d ≤ d') {l : List Int} {v : Int} (e : impl_counter_count.g d l = some v) : impl_counter_count.g d' l = some v := by
 induction h with
 | refl => exact e
 | step _ ih => exact impl_counter_count.g_succ _ _ _ ih
theorem impl_counter_count.g_one {d d' : Nat} {l : List Int} {v v' : Int} (e : impl_counter_count.g d l = some v) (e' : impl_counter_count.g d' l = some v') : v = v' := by
 have h1 := impl_counter_count.g_le (Nat.le_max_left d d') e
 have h2 := impl_counter_count.g_le (Nat.le_max_right d d') e'
 rw [h1] at h2
 exact Option.some.inj h2
theorem impl_counter_count.sm_wf (g : List Int → Option Int) (l : List Int) : ∀ (ds : List Int) (n r : Int), (Lit.int .i64 n).wf = true → impl_counter_count.sm g l ds n = some r → (Lit.int .i64 r).wf = true
 | [], n, r, hn, e => by cases e; exact hn
 | x :: ds, n, r, hn, e => by
  simp only [impl_counter_count.sm] at e
  obtain ⟨q, hq, e⟩ := Option.bind_eq_some_iff.1 e
  obtain ⟨m, hm, e⟩ := Option.bind_eq_some_iff.1 e
  exact impl_counter_count.sm_wf g l ds _ r (wrap64_wf _) e
/-- What the counter remembers is so. -/
def impl_counter_count.Inv (D : DataW Unit) : Prop := Maps.IsMap D ∧ ∀ q : List Int, (∀ x ∈ q, 0 ≤ x ∧ x ≤ 100) → Maps.has D (.string (impl_counter_count.key q)) = true → ∃ d v, impl_counter_count.g d q = some v ∧ ∀ z, D.atKey (.string (impl_counter_count.key q)) z = .lit (.int .i64 v)
theorem impl_counter_count.inv_empty : impl_counter_count.Inv (.map []) := ⟨Maps.isMap_empty, fun q _ h => by simp [Maps.has] at h⟩
theorem impl_counter_count.inv_put {D : DataW Unit} (h : impl_counter_count.Inv D) {l : List Int} (hl : ∀ x ∈ l, 0 ≤ x ∧ x ≤ 100) {d : Nat} {v : Int} (hg : impl_counter_count.g d l = some v) : impl_counter_count.Inv (D.put (.string (impl_counter_count.key l)) (.lit (.int .i64 v))) := by
 refine ⟨h.1.put _ _, fun q hq hh => ?_⟩
 by_cases e : q = l
 ·subst e
  exact ⟨d, v, hg, fun z => Maps.atKey_put_same h.1 (show WideAt.IsKeyLit (Lit.string (impl_counter_count.key q)) from trivial) _ z⟩
 ·have hne : (Lit.string (impl_counter_count.key q)) ≠ .string (impl_counter_count.key l) := fun h2 => e (impl_counter_count.key_inj q l hq hl (by injection h2))
  rw [Maps.has_put_other hne] at hh
  obtain ⟨d', v', h1, h2⟩ := h.2 q hq hh
  exact ⟨d', v', h1, fun z => by rw [Maps.atKey_put_other hne]; exact h2 z⟩
theorem impl_counter_count.law : Maps.Keyed Try.prog 9 := Maps.string_keyed Try.underlying9
theorem impl_counter_count.zero (w : World) : (zeroValue 3).run Try.prog w = .ok (.int .i64 0) w := by kernel_rfl
/-- The counter's memory: block B is a map that reads as D, and what it remembers is so. -/
structure impl_counter_count.Mem (w : World) (B n : Nat) : Prop where mk :: (out : ∃ D : DataW Unit, w.ownsMap Try.prog 9 (plainElem Try.prog 3) B n D ∧ impl_counter_count.Inv D)
theorem impl_counter_count.Mem.kept {w w' : World} {B n : Nat} {S : Nat → Prop} (h : impl_counter_count.Mem w B n) (hk : Kept w w' S) (hS : ¬ S B) : impl_counter_count.Mem w' B n := by
 obtain ⟨D, h1, h2⟩ := h
 refine ⟨D, ?_, h2⟩
 obtain ⟨es, clock, hb, hF, hs, hD⟩ := h1
 exact ⟨es, clock, (hk.2 B (blk_lt hb) hS).trans hb, hF, hs, hD⟩
theorem impl_counter_count.Mem.below {w w' : World} {B n : Nat} (h : impl_counter_count.Mem w B n) (hb : Below w.heap.size w w') : impl_counter_count.Mem w' B n := h.kept (Kept.of_below hb (fun _ => False)) (fun h => h)
theorem impl_counter_count.Mem.mono {w : World} {B n n' : Nat} (h : impl_counter_count.Mem w B n) (hn : n ≤ n') : impl_counter_count.Mem w B n' := by
 obtain ⟨D, h1, h2⟩ := h
 exact ⟨D, h1.mono hn, h2⟩
theorem impl_counter_count.Mem.lt {w : World} {B n : Nat} (h : impl_counter_count.Mem w B n) : B < w.heap.size := by
 obtain ⟨D, h1, h2⟩ := h
 exact h1.lt
theorem impl_counter_count.pow9 (d : Nat) : 1 ≤ 9 ^ d ∧ 9 ^ (d + 1) = 9 * 9 ^ d := ⟨Nat.one_le_pow _ _ zq34, by rw [Nat.pow_succ, Nat.mul_comm]⟩
theorem impl_counter_count.calls_g (d : Nat) : ∀ (B n : Nat) (A0 : Option Addr) (c0 : Nat) (l0 : List Int) (r : Int) (w0 w : World) (hB : Below w0.heap.size w0 w) (hb : w0.heap.size ≤ B) (hm : impl_counter_count.Mem w B n) (hn : n + 9 ^ d ≤ 4611686018427387904)
  (hr0 : ∀ W', Kept w W' (fun k_ => k_ = B) → Kd.C (Kd.int .i64) W' A0 l0.length l0) (hc0 : l0.length ≤ c0) (h : impl_counter_count.g d l0 = some r),
  Calls Try.prog 40 #[.map (some B), .slice A0 l0.length c0] w fun e w' => e = .returned (.int .i64 r) ∧ impl_counter_count.Mem w' B (n + 9 ^ d) ∧ Below w0.heap.size w0 w' ∧ Kept w w' (fun k_ => k_ = B) := by
 induction d with
 | zero => intro B n A0 c0 l0 r w0 w _ _ _ _ _ _ h; simp [impl_counter_count.g] at h
 | succ d ih =>
  intro B n A0 c0 l0 r w0 w hB hb hm hn hr0 hc0 h
  obtain ⟨hp1, hp2⟩ := impl_counter_count.pow9 d
  have h0 := h
  rw [impl_counter_count.g] at h
  split at h
  ·rename_i hcond
   obtain ⟨hg, h8⟩ := hcond
   have hg := impl_counter_count.good_mem hg
   obtain ⟨ds, hds, h⟩ := Option.bind_eq_some_iff.1 h
   obtain ⟨kd, hds⟩ := impl_counter_count.ev_some hds
   obtain ⟨s, hs, hsk, hs8⟩ := impl_counter_count.orderKey h8 hg
   have hkey : keyOf Try.prog 9 (.string s) = some (Lit.string (impl_counter_count.key l0)) := by
    rw [← hsk]; exact WideMaps.keyOf_string_mk Try.underlying9 (s := s) (by unfold maxLen; omega)
   have hwf : (Lit.int .i64 r).wf = true := by
    split at h
    ·cases h; decide
    ·split at h
     ·exact impl_counter_count.sm_wf _ _ _ _ _ zq34 h
     ·cases h
   have HS := am hs
   have HDS := am hds
   have HKEY := am hkey
   have HWF := am hwf
   have HR := am hr0
   have HC := am hc0
   have HB := am hB
   have HG := am hg
   have HN := am hn
   have Hb := am hb
   have H0 := am h0
   have H := am h
   have IH := am ih
   have HP := am (And.intro hp1 hp2)
   have HM := am hm
   have HK := am (Kept.refl w (fun k_ => k_ = B))
   clear hs hds hkey hwf hr0 hc0 hB hg hn hb h0 h ih hp1 hp2 hm hsk
   obtain ⟨D, hown, hinv⟩ := HM.out
   have HOWN := am hown
   have HINV := am hinv
   clear hown hinv
   cases hh : Maps.has D (.string (impl_counter_count.key l0)) with
   | true =>
    obtain ⟨d1, v1, hv1, hat1⟩ := HINV.out.2 l0 HG.out hh
    obtain rfl := impl_counter_count.g_one hv1 H0.out
    have HAT := am (hat1 (.lit (.int .i64 0)))
    have HH := am hh
    clear hat1 hv1 hh
    go_enter Try.func40, Try.ntmps40
    go_wp2_with (first | (go_at_call 51; (with_reducible refine (impl_orderKey.calls 100 _ _ l0 s _ ?side1 ?side2 HS.out).mono ?_); (case side1 => exact HR.out _ zq14); (case side2 => exact HC.out); rintro e w1 ⟨rfl, hb1⟩; have HB1 := am (below_then HB.out HB.out.size hb1); have HK1 := am (HK.out.below hb1); have HM1 := am (HM.out.below hb1); have HOWN1 := am (HOWN.out.kept (grown_of_below hb1 none) zq25); clear hb1) | (at_lookup; refine wpList_lookup_own_ok_int _ rfl _ _ 64 rfl 9 3 .i64 impl_counter_count.law Try.underlying64 Try.underlying3 (impl_counter_count.zero _) B n D rfl HOWN1.out _ _ rfl HKEY.out ?_; intro c hat hwc; obtain rfl : c = v1 := (by have h_ := hat.symm.trans HAT.out; simpa using h_); rw [HH.out]))
    go_ret
    exact ⟨rfl, HM1.out.mono (by have := HP.out; omega), HB1.out, HK1.out⟩
   | false =>
    obtain ⟨rr, hsm, hrr, hd8⟩ : ∃ rr, impl_counter_count.sm (impl_counter_count.g d) l0 ds 0 = some rr ∧ r = (if ds.length = 0 then 1 else rr) ∧ ds.length ≤ 8 := by
     have h := H.out
     by_cases hz : ds.length = 0
     ·rw [if_pos hz] at h
      have e := List.length_eq_zero_iff.1 hz
      subst e
      exact ⟨0, rfl, (Option.some.inj h).symm, zq25⟩
     ·rw [if_neg hz] at h
      split at h
      ·rename_i h8
       exact ⟨r, h, by rw [if_neg hz], h8⟩
      ·cases h
    have HSM := am hsm
    have HRR := am hrr
    have HD8 := am hd8
    clear hsm hrr hd8 hds
    have HH := am hh
    clear hh
    go_enter Try.func40, Try.ntmps40
    go_wp2_with (first | (go_at_call 51; (with_reducible refine (impl_orderKey.calls 100 _ _ l0 s _ ?side1 ?side2 HS.out).mono ?_); (case side1 => exact HR.out _ zq14); (case side2 => exact HC.out); rintro e w1 ⟨rfl, hb1⟩; have HB1 := am (below_then HB.out HB.out.size hb1); have HK1 := am (HK.out.below hb1); have HM1 := am (HM.out.below hb1); have HOWN1 := am (HOWN.out.kept (grown_of_below hb1 none) zq25); clear hb1) | (at_lookup; refine wpList_lookup_own_ok_int _ rfl _ _ 64 rfl 9 3 .i64 impl_counter_count.law Try.underlying64 Try.underlying3 (impl_counter_count.zero _) B n D rfl HOWN1.out _ _ rfl HKEY.out ?_; intro c hat hwc; rw [HH.out]; clear hat hwc) | (go_at_call 52; (with_reducible refine (impl_descents.calls kd _ _ l0 ds _ ?side1 ?side2 HDS.out).mono ?_); (case side1 => exact HR.out _ (by repeat (first | (with_reducible first | exact HK1.out | apply Kept.alloc | apply Kept.drewN | apply Kept.drew) | exact HK1.out))); (case side2 => exact HC.out); rintro e w2 ⟨v2, rfl, ho2, hb2⟩; have HL := am (Kd.R_mono (Kd.R_bound ho2) (fun k_ h_ => (show k_ ≠ B from fun e_ => by have := HM1.out.lt; have := h_.2.1; omega))); have HB2 := am (below_then HB1.out HB1.out.size hb2); have HK2 := am (HK1.out.below hb2); have HM2 := am (HM1.out.below hb2); clear hb2 ho2; obtain ⟨A2, c2, e2⟩ := Kd.R_slice HL.out; subst e2))
    go_loopg [9, 26] ds.length (fun gg v9 v26 w' => ∃ (i : Nat) (acc : Int) (N : Nat), v9 = .int .i64 acc ∧ v26 = .int .i64 i ∧ i ≤ ds.length ∧ ds.length - i ≤ gg ∧ Aside0 (impl_counter_count.sm (impl_counter_count.g d) l0 (ds.drop i) acc = some rr) ∧ Aside0 (N ≤ n + i * 9 ^ d) ∧ Aside0 (impl_counter_count.Mem w' B N) ∧ Aside0 (Kd.R (Kd.int .i64) 3 w' w1.heap.size (fun k_ => k_ ≠ B) (.slice A2 ds.length c2) ds) ∧ Aside0 (Below w0.heap.size w0 w') ∧ Aside0 (Kept w w' (fun k_ => k_ = B)))
    case atStart => exact ⟨0, 0, n, rfl, rfl, Nat.zero_le _, zq11, ⟨by rw [List.drop_zero]; exact HSM.out⟩, ⟨zq11⟩, HM2, HL, HB2, HK2⟩
    case round =>
     clear HB1 HK1 HM1 HOWN1 HB2 HK2 HM2 HL HSM
     obtain ⟨i, acc, N, rfl, rfl, hi, hgk, HSM, HNN, HM2, HL, HB2, HK2⟩ := hrel
     by_cases hlt : i < ds.length
     ·have hltz : (i : Int) < (ds.length : Int) := zq11
      have hdr : ds.drop i = rd ds (i : Int) :: ds.drop (i + 1) := by
       have hr_ : rd ds (i : Int) = ds[i] := by
        show ds.getD ((i : Int)).toNat 0 = _
        rw [Int.toNat_natCast, List.getD_eq_getElem?_getD, List.getElem?_eq_getElem hlt]; rfl
       rw [hr_]; exact List.drop_eq_getElem_cons hlt
      obtain ⟨ad, ead, hx0⟩ := Kd.at_int (Kd.R_reads' HL.out).2.2 (i : Int) (Int.natCast_nonneg i) hltz
      cases ead
      obtain ⟨x, hx⟩ : ∃ x, x = rd ds (i : Int) := ⟨_, rfl⟩
      rw [← hx] at hx0 hdr
      have hsm := HSM.out
      rw [hdr, impl_counter_count.sm] at hsm
      obtain ⟨q, hq, hsm⟩ := Option.bind_eq_some_iff.1 hsm
      obtain ⟨m, hm, hsm⟩ := Option.bind_eq_some_iff.1 hsm
      rw [Int.toNat_natCast] at hx0
      have HQ := am hq
      have HMM := am hm
      have HSM2 := am hsm
      clear HSM hsm hq hm hdr hx
      have hb9 : N + 9 ^ d ≤ n + (i + 1) * 9 ^ d := by have := HNN.out; rw [Nat.add_mul, Nat.one_mul]; omega
      have hlim : N + 9 ^ d ≤ 4611686018427387904 := by
       have h1 := HN.out; have h2 := HP.out; have h3 := HD8.out
       have h4 : (i + 1) * 9 ^ d ≤ 8 * 9 ^ d := Nat.mul_le_mul_right _ zq11
       omega
      have HB9 := am hb9
      have HLIM := am hlim
      clear hb9 hlim
      go_wp2_with (first | (go_at_call 53; (with_reducible refine (impl_exchanged.calls _ _ l0 x q _ ?side1 ?side2 HQ.out).mono ?_); (case side1 => exact HR.out _ zq26); (case side2 => exact HC.out); rintro e w4 ⟨v4, rfl, ho4, hb4⟩; have HQR := am (Kd.R_mono (Kd.R_bound ho4) (fun k_ h_ => (show k_ ≠ B from fun e_ => by have h1_ := HM2.out.lt; have h2_ := h_.2.1; exact absurd (Nat.lt_of_lt_of_le h1_ h2_) (by rw [e_]; exact Nat.lt_irrefl B)))); have HB4 := am (below_then HB2.out HB2.out.size hb4); have HK4 := am (HK2.out.below hb4); have HM4 := am (HM2.out.below hb4); have HL4 := am (Kd.R_below (by (with_reducible repeat (first | apply Kd.R_alloc | apply Kd.R_drewN | apply Kd.R_drew)); exact HL.out) hb4); clear hb4 ho4; obtain ⟨A4, c4, e4⟩ := Kd.R_slice HQR.out; subst e4) | (go_at_call 40; (with_reducible refine (IH.out B N A4 c4 q m w0 _ ?side1 Hb.out ?side2 HLIM.out ?side3 ?side4 HMM.out).mono ?_); (case side1 => exact HB4.out); (case side2 => exact HM4.out); (case side3 => exact zq93); (case side4 => exact (Kd.R_reads' HQR.out).2.1); rintro e w5 ⟨rfl, hm5, hb5, hk5⟩; have HM5 := am hm5; have HB5 := am hb5; have HK5 := am (HK4.out.then_ hk5 (fun _ h_ => .inl h_)); have HL5 := am (Kd.R_kept HL4.out hk5 (fun _ h1_ h2_ => h1_ h2_)); clear hm5 hb5 hk5))
      have hd8_ := HD8.out
      go_roundg (ds.length - (i + 1))
      case measure => omega
      case rel => exact ⟨i + 1, wrap64 (acc + m), N + 9 ^ d, zq91, (by first | go_num | (congr 1; unfold wrap64; omega)), zq11, zq11, HSM2, HB9, HM5, HL5, HB5, HK5⟩
     ·have hltz : ¬ (i : Int) < (ds.length : Int) := zq11
      have hie : i = ds.length := zq11
      have hsm := HSM.out
      rw [List.drop_eq_nil_of_le zq11, impl_counter_count.sm] at hsm
      obtain rfl := Option.some.inj hsm
      clear HSM hsm
      obtain ⟨D5, hown5, hinv5⟩ := HM2.out
      have HO5 := am hown5
      have HI5 := am hinv5
      clear hown5 hinv5
      have hlim : N + 1 ≤ n + 9 ^ (d + 1) ∧ N < 4611686018427387904 := by
       have h1 := HN.out; have h2 := HP.out; have h3 := HD8.out; have h4 := HNN.out
       have h5 : i * 9 ^ d ≤ 8 * 9 ^ d := Nat.mul_le_mul_right _ zq11
       omega
      have HLIM := am hlim
      clear hlim
      by_cases hz : ds.length = 0
      ·have hr1 : r = 1 := by have := HRR.out; rw [if_pos hz] at this; exact this
       subst hr1
       have hz0 : decide ((ds.length : Int) = 0) = true := decide_eq_true zq11
       have hz1 : decide (ds.length = 0) = true := decide_eq_true hz
       go_wp2_with (at_mapUpdate; refine wpList_mapUpdate_own _ rfl _ _ _ 64 rfl 9 3 impl_counter_count.law Try.underlying64 _ B N D5 rfl HO5.out (by have := HLIM.out; unfold maxLen; omega) _ _ _ rfl rfl HKEY.out _ [] (plainElem_int Try.underlying3 HWF.out) ?_; intro w6 hown6 hgrow6)
       go_ret
       exact ⟨rfl, ⟨_, hown6.mono HLIM.out.1, impl_counter_count.inv_put HI5.out HG.out H0.out⟩, HB2.out.grown hgrow6 HB2.out.size (fun k_ h_ => by cases h_; exact Hb.out), Kept.of_grown hgrow6 HK2.out (fun k_ h_ => by cases h_; exact .inl rfl)⟩
      ·have hr1 : r = acc := by have := HRR.out; rw [if_neg hz] at this; exact this
       subst hr1
       have hz0 : decide ((ds.length : Int) = 0) = false := decide_eq_false zq11
       have hz1 : decide (ds.length = 0) = false := decide_eq_false hz
       go_wp2_with (at_mapUpdate; refine wpList_mapUpdate_own _ rfl _ _ _ 64 rfl 9 3 impl_counter_count.law Try.underlying64 _ B N D5 rfl HO5.out (by have := HLIM.out; unfold maxLen; omega) _ _ _ rfl rfl HKEY.out _ [] (plainElem_int Try.underlying3 HWF.out) ?_; intro w6 hown6 hgrow6)
       go_ret
       exact ⟨rfl, ⟨_, hown6.mono HLIM.out.1, impl_counter_count.inv_put HI5.out HG.out H0.out⟩, HB2.out.grown hgrow6 HB2.out.size (fun k_ h_ => by cases h_; exact Hb.out), Kept.of_grown hgrow6 HK2.out (fun k_ h_ => by cases h_; exact .inl rfl)⟩
  ·cases h
theorem impl_counter_count.calls (B n : Nat) (A0 : Option Addr) (c0 : Nat) (l0 : List Int) (r : Int) (w0 w : World) (hB : Below w0.heap.size w0 w) (hb : w0.heap.size ≤ B) (hm : impl_counter_count.Mem w B n) (hn : n + 9 ^ 16 ≤ 4611686018427387904)
  (hr0 : ∀ W', Kept w W' (fun k_ => k_ = B) → Kd.C (Kd.int .i64) W' A0 l0.length l0) (hc0 : l0.length ≤ c0) (h : impl_counter_count.f l0 = some r) :
  Calls Try.prog 40 #[.map (some B), .slice A0 l0.length c0] w fun e w' => e = .returned (.int .i64 r) ∧ impl_counter_count.Mem w' B (n + 9 ^ 16) ∧ Below w0.heap.size w0 w' ∧ Kept w w' (fun k_ => k_ = B) :=
 impl_counter_count.calls_g 16 B n A0 c0 l0 r w0 w hB hb hm hn hr0 hc0 h
theorem impl_counter_count.Mem.made (w : World) : impl_counter_count.Mem (w.alloc (.map #[] 0)) w.heap.size 0 := ⟨_, World.ownsMap_made _ _ _ _, impl_counter_count.inv_empty⟩
theorem impl_counter_count.callsN (B n : Nat) (A0 : Option Addr) (c0 : Nat) (l0 : List Int) (r : Int) (w0 w : World) (hB : Below w0.heap.size w0 w) (hb : w0.heap.size ≤ B) (hm : impl_counter_count.Mem w B n) (hn : n + 1853020188851841 ≤ 4611686018427387904)
  (hr0 : ∀ W', Kept w W' (fun k_ => k_ = B) → Kd.C (Kd.int .i64) W' A0 l0.length l0) (hc0 : l0.length ≤ c0) (h : impl_counter_count.f l0 = some r) :
  Calls Try.prog 40 #[.map (some B), .slice A0 l0.length c0] w fun e w' => e = .returned (.int .i64 r) ∧ impl_counter_count.Mem w' B (n + 1853020188851841) ∧ Below w0.heap.size w0 w' ∧ Kept w w' (fun k_ => k_ = B) := by
 have e : (9 : Nat) ^ 16 = 1853020188851841 := zq34
 have h1 := impl_counter_count.calls B n A0 c0 l0 r w0 w hB hb hm (by rw [e]; exact hn) hr0 hc0 h
 rw [e] at h1
 exact h1
/-! ### impl_all: function 41 -/
open Classical in
noncomputable def impl_all.ev {α : Type} (g : Nat → Option α) : Option α := if h : ∃ k r, g k = some r then g h.choose else none
theorem impl_all.ev_some {α : Type} {g : Nat → Option α} {r : α} (h : impl_all.ev g = some r) : ∃ k, g k = some r := by
 unfold impl_all.ev at h
 split at h
 ·exact ⟨_, h⟩
 ·cases h
def impl_all.lp (G : List Int → List Int → List S40 → Option (List S40)) (l1 l2 ds : List Int) : Nat → Nat → List S40 → Option (List S40)
 | 0, _, xs => some xs
 | m + 1, i, xs => (slices_Clone_int_int.f l1).bind fun c => if c.length < 1000 then (impl_exchanged.f l2 (rd ds i)).bind fun q => (G (c ++ [rd ds i]) q xs).bind fun ys => impl_all.lp G l1 l2 ds m (i + 1) ys else none
noncomputable def impl_all.g : Nat → Int → List Int → List Int → List S40 → Option (List S40)
 | 0, _, _, _, _ => none
 | d + 1, a0, l1, l2, xs => (impl_all.ev fun k => impl_descents.f k l2).bind fun ds => if ds.length = 0 then (if xs.length < 100000 then some (xs ++ [⟨a0, l1⟩]) else none) else impl_all.lp (fun l1' l2' xs' => impl_all.g d a0 l1' l2' xs') l1 l2 ds ds.length 0 xs
theorem impl_all.calls_g : ∀ (d : Nat) (a0 : Int) (Pd : Nat → Prop) (A1 : Option Addr) (c1 : Nat) (l1 : List Int) (Pp : Nat → Prop) (A2 : Option Addr) (c2 : Nat) (l2 : List Int) (P : Nat → Prop) (v : Value) (xs ys : List S40) (w0 w : World) (hB : Below w0.heap.size w0 w) (h1 : Kd.R (Kd.int .i64) 3 w w0.heap.size Pd (.slice A1 l1.length c1) l1) (h1p : ∀ k, Pd k → ¬ P k) (h2 : Kd.F (Kd.int .i64) w Pp A2 l2.length l2) (hc2 : l2.length ≤ c2) (h2p : ∀ k, Pp k → ¬ P k) (hS : Kd.S k40 40 w w0.heap.size P v xs) (hPw : ∀ k, P k → k < w.heap.size) (h : impl_all.g d a0 l1 l2 xs = some ys),
  Calls Try.prog 41 #[.int .i64 a0, .slice A1 l1.length c1, .slice A2 l2.length c2, v] w fun e w' => ∃ v0_ : Value, e = .returned v0_ ∧ Kd.S k40 40 w' w0.heap.size (fun k => P k ∨ Pd k ∨ w.heap.size ≤ k) v0_ ys ∧ Below w0.heap.size w0 w' ∧ Kept w w' P
 | 0, _, _, _, _, _, _, _, _, _, _, _, _, _, _, _, _, _, _, _, _, _, _, _, h => by cases h
 | d + 1, a0, Pd, A1, c1, l1, Pp, A2, c2, l2, P, v, xs, ys, w0, w, hB, h1, h1p, h2, hc2, h2p, hS, hPw, h => by
  obtain ⟨ds, hd, h⟩ := Option.bind_eq_some_iff.1 h
  obtain ⟨kd, hd⟩ := impl_all.ev_some hd
  have HD := am hd
  have HB := am hB
  have H1 := am h1
  have H2 := am h2
  have HC2 := am hc2
  have HS := am hS
  have HP1 := am h1p
  have HP2 := am h2p
  have HPw := am hPw
  clear hd hB h1 h2 hc2 hS h1p h2p hPw
  by_cases c : ds.length = 0
  ·rw [if_pos c] at h
   split at h
   case isFalse => cases h
   rename_i hx
   obtain rfl := Option.some.inj h
   have HX := am hx
   clear h hx
   have cb : ((ds.length : Int) == 0) = true := beq_iff_eq.mpr zq11
   have cd : decide ((ds.length : Int) = 0) = true := decide_eq_true zq11
   have HV : Aside0 (∀ k, v.ownBlock = some k → P k) := am (Kd.S_R HS.out).1
   go_enter Try.func41, Try.ntmps41
   go_wp2_with (first | (go_at_call 52; (with_reducible refine (impl_descents.calls kd _ _ l2 ds _ ?side1 HC2.out HD.out).mono ?_); (case side1 => exact Kd.F_now H2.out); rintro e w2 ⟨v2, rfl, hr2, hb2⟩; obtain ⟨A9, c9, e9⟩ := Kd.R_slice hr2; subst e9; have HB2 := am (below_step HB.out hb2); have HBw := am hb2; have H12 := am (Kd.R_below H1.out hb2); have HS2 := am (Kd.S_below HS.out hb2); clear hr2 hb2) | ((with_reducible refine gate_builtin (b := .append) (xs := #[.tmp 17, .tmp 21]) rfl ?_); at_builtin; refine Kd.S_append k40 (w0 := w0) w0.heap.size rfl (.tmp 17) (.tmp 21) 23 40 (.agg #[(.int .i64 0), (.slice none 0 0)]) 32 rfl Try.underlying23 info40 rfl zq34 zq11 v xs (⟨a0, l1⟩ : S40) [.int .i64 a0, .slice A1 l1.length c1] (fun k => P k ∨ Pd k ∨ w.heap.size ≤ k) Pd rfl rfl ?aP ?aK ?aF ?aO ?aB ?aS ?aL ?_; (case aP => exact k40_mkM _ _ _ ⟨a0, l1⟩ H12.out); (case aK => exact fun k hk => ⟨.inr (.inl hk), fun e_ => HP1.out k hk (HV.out k e_.symm)⟩); (case aF => exact fun k hk => .inr (.inr (Nat.le_trans HBw.out.size hk))); (case aO => exact Kd.S_mono HS2.out (fun k hk => ⟨.inl hk, fun h_ => HP1.out k h_ hk⟩)); (case aB => exact HB2.out); (case aS => exact below_size HB2.out); (case aL => have := HX.out; omega); intro v3 w3 ho hb hg hat; have HO3 := am ho; have HB3 := am hb; have HK3 := am (Kept.of_grown (S := P) hg (by repeat (first | exact Kept.of_below HBw.out _ | apply Kept.drewN | apply Kept.drew | apply Kept.alloc)) (fun k e_ => .inl (HV.out k e_))); clear ho hb hg hat))
   go_ret
   exact ⟨_, rfl, HO3.out, HB3.out, HK3.out⟩
  ·rw [if_neg c] at h
   have HL := am h
   have HNZ := am c
   have cb : ((ds.length : Int) == 0) = false := beq_eq_false_iff_ne.mpr zq11
   have cd : decide ((ds.length : Int) = 0) = false := decide_eq_false zq11
   clear h c
   go_enter Try.func41, Try.ntmps41
   go_wp2_with (go_at_call 52; (with_reducible refine (impl_descents.calls kd _ _ l2 ds _ ?side1 HC2.out HD.out).mono ?_); (case side1 => exact Kd.F_now H2.out); rintro e w2 ⟨v2, rfl, hr2, hb2⟩; obtain ⟨A9, c9, e9⟩ := Kd.R_slice hr2; subst e9; have HB2 := am (below_step HB.out hb2); have HBw := am hb2; have H12 := am (Kd.R_below H1.out hb2); have HS2 := am (Kd.S_below HS.out hb2); have H22 := am (Kd.F_below H2.out hb2); have HR9 := am hr2; clear hr2 hb2)
   go_loopg [3, 25] ds.length (fun kq v3 v25 w' => ∃ (i : Nat) (xs1 : List S40), v25 = .int .i64 (i : Int) ∧ Aside0 (i + kq = ds.length) ∧ Aside0 (impl_all.lp (fun l1' l2' xs' => impl_all.g d a0 l1' l2' xs') l1 l2 ds kq i xs1 = some ys) ∧ Aside0 (Kd.S k40 40 w' w0.heap.size (fun k => P k ∨ w2.heap.size ≤ k) v3 xs1) ∧ Aside0 (Kept w2 w' P) ∧ Aside0 (Below w0.heap.size w0 w'))
   case atStart => exact ⟨0, xs, rfl, ⟨zq11⟩, HL, ⟨Kd.S_mono HS2.out (fun k hk => .inl hk)⟩, ⟨Kept.refl _ _⟩, ⟨HB2.out⟩⟩
   case round =>
    have HSZ2 := am HBw.out.size
    clear HB2 HS2
    obtain ⟨i, xs1, rfl, HI, HA, HO, HK, HB3⟩ := hrel
    have HR9' := am (Kd.R_step (Kd.R_tight rfl HR9.out) (fun k hk hlt => HK.out.2 k hlt (fun hp => by have h1_ := HPw.out k hp; have h2_ := Kd.R_base HR9.out k hk.symm; omega)))
    cases gk with
    | zero =>
     have H := HA.out
     simp only [impl_all.lp, Option.some.injEq] at H
     subst H
     have HI0 := HI.out
     have ct : decide ((i : Int) < (ds.length : Int)) = false := decide_eq_false zq11
     go_wp2
     go_ret
     exact ⟨_, rfl, Kd.S_mono HO.out (fun k hk => hk.elim .inl (fun h_ => .inr (.inr (Nat.le_trans HSZ2.out h_)))), HB3.out, Kept.then_ (Kept.of_below HBw.out P) HK.out (fun k hk => .inl hk)⟩
    | succ k1 =>
     have H := HA.out
     simp only [impl_all.lp] at H
     obtain ⟨cl, hcl, H⟩ := Option.bind_eq_some_iff.1 H
     by_cases hc1 : cl.length < 1000
     case neg => rw [if_neg hc1] at H; cases H
     rw [if_pos hc1] at H
     obtain ⟨q, hq, H⟩ := Option.bind_eq_some_iff.1 H
     obtain ⟨ys1, hg, H⟩ := Option.bind_eq_some_iff.1 H
     have HI0 := HI.out
     have p9 : (0 : Int) ≤ (i : Int) := zq11
     have q9 : (i : Int) < ds.length := zq11
     have ct : decide ((i : Int) < (ds.length : Int)) = true := decide_eq_true q9
     obtain ⟨ad9, e9, hx9⟩ := Kd.at_int (Kd.R_reads' HR9'.out).2.2 (i : Int) p9 q9
     subst e9
     simp only [Int.toNat_natCast] at hx9
     obtain ⟨y5, ny5⟩ : ∃ y, y = cl ++ [rd ds (i : Int)] := ⟨_, rfl⟩
     rw [← ny5] at hg
     have NY := am ny5
     clear ny5
     have HCL := am hcl
     have HQ := am hq
     have HG := am hg
     have HT := am H
     have HC1 := am hc1
     have H13 := am (Kd.F_kept (Kd.R_F H12.out) HK.out HP1.out)
     have H23 := am (Kd.F_kept H22.out HK.out HP2.out)
     have HL1 : Aside0 (l1.length ≤ c1) := am (Kd.R_reads' H12.out).2.1
     clear hcl hq hg H hc1
     have p9' := eq_true p9
     have q9' := eq_true q9
     have HMX := am (Kd.F_max (Kd.R_F HR9'.out))
     go_wp2_with (first | (go_at_call 48; (with_reducible refine (slices_Clone_int_int.calls _ _ l1 cl _ ?side1 HL1.out HCL.out).mono ?_); (case side1 => exact Kd.F_now H13.out); rintro e w4 ⟨v4, rfl, hr4, hb4⟩; obtain ⟨A4, c4, e4⟩ := Kd.R_slice hr4; subst e4; have HR4 := am hr4; have HB4 := am hb4; clear hr4 hb4) | ((with_reducible refine gate_builtin (b := .append) (xs := #[.tmp 31, .tmp 33]) rfl ?_); at_builtin; refine Kd.R_append (Kd.int .i64) (w0 := wr) wr.heap.size rfl (.tmp 31) (.tmp 33) 22 3 (.int .i64 0) 8 rfl Try.underlying22 info3 rfl zq34 zq11 (.slice A4 cl.length c4) cl (rd ds (i : Int)) [.int .i64 (rd ds (i : Int))] (fun _ => True) (fun _ => False) rfl rfl ?aP (fun _ hk => hk.elim) ?aF ?aO ?aB ?aS ?aL ?_; (case aP => exact rfl); (case aF => exact (fun _ _ => trivial)); (case aO => first | exact HR4.out | exact Kd.R_mono HR4.out (fun _ _ => trivial)); (case aB => exact HB4.out); (case aS => exact HB4.out.size); (case aL => have := HC1.out; omega); intro v5 w5 ho hb hg5 hat; rw [← NY.out] at ho; obtain ⟨A5, c5, e5⟩ := Kd.R_slice ho; subst e5; have HR5 := am ho; have HB5 := am hb; clear ho hb hg5 hat) | (go_at_call 53; (with_reducible refine (impl_exchanged.calls _ _ l2 (rd ds (i : Int)) q _ ?side1 HC2.out HQ.out).mono ?_); (case side1 => exact Kd.F_now (Kd.F_below H23.out HB5.out)); rintro e w6 ⟨v6, rfl, hr6, hb6⟩; obtain ⟨A6, c6, e6⟩ := Kd.R_slice hr6; subst e6; have HR6 := am hr6; have HB6 := am (below_step HB5.out hb6); have HR56 := am (Kd.R_below HR5.out hb6); have HZ5 := am HB5.out.size; clear hr6 hb6) | (go_at_call 41; (with_reducible refine (impl_all.calls_g d a0 (fun k => some k = (Value.slice A5 y5.length c5).ownBlock) A5 c5 y5 (fun k => some k = (Value.slice A6 q.length c6).ownBlock) A6 c6 q (fun k => (P k ∨ w2.heap.size ≤ k) ∧ k < wr.heap.size) _ xs1 ys1 w0 _ ?r1 ?r2 ?r3 ?r4 ?r5 ?r6 ?r7 ?r8 HG.out).mono ?_); (case r1 => exact below_step HB3.out HB6.out); (case r2 => exact Kd.R_lower (Kd.R_tight rfl HR56.out) HB3.out.size); (case r3 => exact fun k hk hp => by have h1_ := Kd.R_base HR56.out k hk.symm; have h2_ := hp.2; omega); (case r4 => exact Kd.R_F (Kd.R_tight rfl HR6.out)); (case r5 => exact (Kd.R_reads' HR6.out).2.1); (case r6 => exact fun k hk hp => by have h1_ := Kd.R_base HR6.out k hk.symm; have h2_ := hp.2; have h3_ := HZ5.out; omega); (case r7 => exact Kd.S_below (Kd.S_mono (Kd.S_bound HO.out) (fun k hk => ⟨hk.1, hk.2.2.1⟩)) HB6.out); (case r8 => exact fun k hk => Nat.lt_of_lt_of_le hk.2 HB6.out.size); rintro e w7 ⟨v7, rfl, hs7, hb7, hk7⟩; have HO7 := am (Kd.S_mono (ok' := fun k => P k ∨ w2.heap.size ≤ k) hs7 (fun k hk => hk.elim (fun h_ => h_.1) (fun h_ => h_.elim (fun h_ => .inr (Nat.le_trans HK.out.1 (Kd.R_base HR56.out k h_.symm))) (fun h_ => .inr (Nat.le_trans HK.out.1 (Nat.le_trans HB6.out.size h_)))))); have HB7 := am hb7; have HK7 := am (Kept.then_ (Kept.below HK.out HB6.out) hk7 (fun k hk => hk.1)); clear hs7 hb7 hk7))
     go_roundg k1
     case measure => omega
     case rel => exact ⟨i + 1, ys1, (by have h_ := HMX.out; first | rfl | (simp; done) | (simp [wrap64]; omega)), ⟨zq11⟩, HT, HO7, HK7, HB7⟩
/-! ### impl_listed: function 27 -/
open Classical in
noncomputable def impl_listed.ev {α : Type} (g : Nat → Option α) : Option α := if h : ∃ k r, g k = some r then g h.choose else none
theorem impl_listed.ev_some {α : Type} {g : Nat → Option α} {r : α} (h : impl_listed.ev g = some r) : ∃ k, g k = some r := by
 unfold impl_listed.ev at h
 split at h
 ·exact ⟨_, h⟩
 ·cases h
noncomputable def impl_listed.f (l0 : List Int) : Option ((List S40) × Bool) := (impl_listed.ev fun k => impl_isCounted.f k l0).bind fun t => if t = true then ((impl_counter_count.f l0).bind fun r => if r > 800 then some ([], false) else (impl_listed.ev fun d => impl_all.g d (l0.length : Int) [] l0 []).bind fun x => some (x, true)) else some ([], false)
theorem impl_listed.all0 (d : Nat) (a0 : Int) (A0 : Option Addr) (c0 : Nat) (l0 : List Int) (ys : List S40) (w0 w : World) (hB : Below w0.heap.size w0 w) (h2 : Kd.C (Kd.int .i64) w A0 l0.length l0) (hc0 : l0.length ≤ c0) (h : impl_all.g d a0 [] l0 [] = some ys) :
  Calls Try.prog 41 #[.int .i64 a0, .slice none 0 0, .slice A0 l0.length c0, .slice none 0 0] w fun e w' => ∃ v0_ : Value, e = .returned v0_ ∧ Kd.S k40 40 w' w0.heap.size (fun _ => True) v0_ ys ∧ Below w0.heap.size w0 w' := by
 have := impl_all.calls_g d a0 (fun _ => False) none 0 [] (fun k => k < w.heap.size) A0 c0 l0 (fun _ => False) (.slice none 0 0) [] ys w0 w hB (Kd.R_nil _ _ _ _ _) (fun _ h_ => h_.elim) (Kd.C_F (Kd.heap_int .i64) h2) hc0 (fun _ _ h_ => h_) (Kd.S_nil _ _ _ _ _) (fun _ h_ => h_.elim) h
 refine this.mono ?_
 rintro e w' ⟨v, rfl, hs, hb, _⟩
 exact ⟨v, rfl, Kd.S_mono hs (fun _ _ => trivial), hb⟩
theorem impl_listed.calls (A0 : Option Addr) (c0 : Nat) (l0 : List Int) (r1 : List S40) (r2 : Bool) (w : World) (hr0 : Kd.C (Kd.int .i64) w A0 l0.length l0) (hc0 : l0.length ≤ c0) (h : impl_listed.f l0 = some (r1, r2)) :
  Calls Try.prog 27 #[.slice A0 l0.length c0] w fun e w' => ∃ v0_ : Value, e = .returned (.tuple #[v0_, .bool r2]) ∧ Kd.S k40 40 w' w.heap.size (fun _ => True) v0_ r1 ∧ Below w.heap.size w w' := by
 have HR0 := am hr0
 have HC0 := am hc0
 clear hr0 hc0
 unfold impl_listed.f at h
 obtain ⟨t, ht, h⟩ := Option.bind_eq_some_iff.1 h
 obtain ⟨kt, ht⟩ := impl_listed.ev_some ht
 have HT := am ht
 clear ht
 cases t with
 | false =>
  rw [if_neg zq34] at h
  simp only [Option.some.injEq, Prod.mk.injEq] at h
  obtain ⟨rfl, rfl⟩ := h
  go_enter Try.func27, Try.ntmps27
  go_wp2_with (go_at_call 39; (with_reducible refine (impl_isCounted.calls kt _ _ l0 false _ ?side1 HC0.out HT.out).mono ?_); (case side1 => exact HR0.out); rintro e w' ⟨rfl, ⟨nd, rfl⟩⟩)
  go_ret2
  exact ⟨_, rfl, Kd.S_nil _ _ _ _ _, pw_below_drewN (Below.refl _ _) nd⟩
 | true =>
  rw [if_pos rfl] at h
  obtain ⟨r, hr, h⟩ := Option.bind_eq_some_iff.1 h
  have HRR := am hr
  clear hr
  have hmm := @run_makeMap Try.prog
  by_cases c : r > 800
  ·rw [if_pos c] at h
   simp only [Option.some.injEq, Prod.mk.injEq] at h
   obtain ⟨rfl, rfl⟩ := h
   have cb : decide (800 < r) = true := decide_eq_true c
   go_enter Try.func27, Try.ntmps27
   go_wp2_with (first | (go_at_call 39; (with_reducible refine (impl_isCounted.calls kt _ _ l0 true _ ?side1 HC0.out HT.out).mono ?_); (case side1 => exact HR0.out); rintro e w' ⟨rfl, ⟨nd, rfl⟩⟩) | (go_at_call 40; (with_reducible refine (impl_counter_count.calls w.heap.size 0 _ _ l0 r w _ ?side1 (Nat.le_refl _) ?side2 zq34 ?side3 HC0.out HRR.out).mono ?_); (case side1 => exact zq22); (case side2 => exact impl_counter_count.Mem.made _); (case side3 => exact Kd.C_kept_came (Kd.heap_int .i64) HR0.out zq22 (fun k_ h_ => by rw [h_]; exact Nat.le_refl _)); rintro e w3 ⟨rfl, hm3, hb3, hk3⟩; have HB3 := am hb3; clear hm3 hb3 hk3))
   go_ret2
   exact ⟨_, rfl, Kd.S_nil _ _ _ _ _, HB3.out⟩
  ·rw [if_neg c] at h
   obtain ⟨x, hx, h⟩ := Option.bind_eq_some_iff.1 h
   simp only [Option.some.injEq, Prod.mk.injEq] at h
   obtain ⟨rfl, rfl⟩ := h
   obtain ⟨kx, hx⟩ := impl_listed.ev_some hx
   have HX := am hx
   clear hx
   have cb : decide (800 < r) = false := decide_eq_false c
   go_enter Try.func27, Try.ntmps27
   go_wp2_with (first | (go_at_call 39; (with_reducible refine (impl_isCounted.calls kt _ _ l0 true _ ?side1 HC0.out HT.out).mono ?_); (case side1 => exact HR0.out); rintro e w' ⟨rfl, ⟨nd, rfl⟩⟩) | (go_at_call 40; (with_reducible refine (impl_counter_count.calls w.heap.size 0 _ _ l0 r w _ ?side1 (Nat.le_refl _) ?side2 zq34 ?side3 HC0.out HRR.out).mono ?_); (case side1 => exact zq22); (case side2 => exact impl_counter_count.Mem.made _); (case side3 => exact Kd.C_kept_came (Kd.heap_int .i64) HR0.out zq22 (fun k_ h_ => by rw [h_]; exact Nat.le_refl _)); rintro e w3 ⟨rfl, hm3, hb3, hk3⟩; have HB3 := am hb3; clear hm3 hb3 hk3) | (go_at_call 41; (with_reducible refine (impl_listed.all0 kx _ _ _ l0 x w _ ?side1 ?side2 HC0.out HX.out).mono ?_); (case side1 => repeat (first | exact HB3.out | apply below_alloc | apply pw_below_drewN | apply below_drew1)); (case side2 => exact Kd.C_below HR0.out HB3.out); rintro e w4 ⟨v4, rfl, hr4, hb4⟩; have HR4 := am hr4; have HB4 := am hb4; clear hr4 hb4))
   go_ret2
   exact ⟨_, rfl, HR4.out, HB4.out⟩
/-! ### slices_Equal_int_int: function 28 -/
def slices_Equal_int_int.l0 : Nat → List Int → List Int → Int → Int → Option (Bool)
 | 0, _, _, _, _ => none
 | k + 1, x0, x1, x12, x13 => if x13 < x12 then (if 0 ≤ x13 then (if x13 < (x0.length : Int) then (if x13 < (x1.length : Int) then (if (rd x0 x13) = (rd x1 x13) then (slices_Equal_int_int.l0 k x0 x1 x12 (wrap64 (x13 + 1))) else (some false)) else (none)) else (none)) else (none)) else (some true)
def slices_Equal_int_int.f (k : Nat) (l0 : List Int) (l1 : List Int) : Option (Bool) := if (l0.length : Int) = (l1.length : Int) then (slices_Equal_int_int.l0 k l0 l1 (l0.length : Int) 0) else (some false)
theorem slices_Equal_int_int.mono_l : ∀ k, (∀ y0 y1 y2 y3, LeO (slices_Equal_int_int.l0 k y0 y1 y2 y3) (slices_Equal_int_int.l0 (k + 1) y0 y1 y2 y3))
 | 0 => fun _ _ _ _ r h => by simp [slices_Equal_int_int.l0] at h
 | k + 1 => by
  have ih0 := slices_Equal_int_int.mono_l k
  ·intro y0 y1 y2 y3
   unfold slices_Equal_int_int.l0
   repeat' first | (with_reducible first | exact ih0 _ _ _ _ | exact LeO.refl _ | exact LeO.none _ | refine LeO.ite ?_ ?_ | refine LeO.bind ?_ (fun _ => ?_))
theorem slices_Equal_int_int.mono : ∀ a0 a1 k, LeO (slices_Equal_int_int.f k a0 a1) (slices_Equal_int_int.f (k + 1) a0 a1) := by
 intro a0 a1 k
 have ih0 := slices_Equal_int_int.mono_l k
 unfold slices_Equal_int_int.f
 repeat' first | (with_reducible first | exact ih0 _ _ _ _ | exact LeO.refl _ | exact LeO.none _ | refine LeO.ite ?_ ?_ | refine LeO.bind ?_ (fun _ => ?_))
theorem slices_Equal_int_int.calls (k : Nat) (A0 : Option Addr) (c0 : Nat) (l0 : List Int) (A1 : Option Addr) (c1 : Nat) (l1 : List Int) (r : Bool) (w : World) (hr0 : Kd.C (Kd.int .i64) w A0 l0.length l0) (hc0 : l0.length ≤ c0) (hr1 : Kd.C (Kd.int .i64) w A1 l1.length l1) (hc1 : l1.length ≤ c1) (h : slices_Equal_int_int.f k l0 l1 = some r) :
  Calls Try.prog 28 #[.slice A0 l0.length c0, .slice A1 l1.length c1] w fun e w' => e = .returned (.bool r) ∧ Drawn0 w w' := by
 have HR0 := am hr0
 have HC0 := am hc0
 clear hr0 hc0
 have HR1 := am hr1
 have HC1 := am hc1
 clear hr1 hc1
 have H : (if (l0.length : Int) = (l1.length : Int) then (slices_Equal_int_int.l0 k l0 l1 (l0.length : Int) 0) else (some false)) = some r := h
 clear h
 by_cases c3 : (l0.length : Int) = (l1.length : Int)
 ·rw [if_pos c3] at H
  have c3b0 : ((l0.length : Int) == (l1.length : Int)) = true := beq_iff_eq.mpr c3
  have c3b1 : ((l0.length : Int) != (l1.length : Int)) = false := bne_eq_false_iff_eq.mpr c3
  have c3b2 : (l0.length == l1.length) = true := zq61
  clear c3
  have H' := am H
  clear H
  go_enter Try.func28, Try.ntmps28
  go_wp2
  repeat (go_quiet (fail); try go_wp2)
  go_loopg [13] k (fun kq v13 w' => ∃ (x13_1 : Int), v13 = .int .i64 x13_1 ∧ Aside0 (slices_Equal_int_int.l0 kq l0 l1 (l0.length : Int) x13_1 = some r) ∧ Aside0 (kq ≤ k) ∧ Drawn0 w w')
  case atStart => exact ⟨(0), zq2, H', ⟨Nat.le_refl _⟩, zq4⟩
  case round =>
   clear H'
   try clear c1
   try clear c2
   try clear p2
   try clear c3
   try clear c3b0
   try clear c3b1
   try clear c3b2
   obtain ⟨x13_1, rfl, HA, HK1, ⟨m1, rfl⟩⟩ := hrel
   cases gk with
   | zero => exact absurd HA.out (by simp [slices_Equal_int_int.l0])
   | succ k1 =>
    have H := HA.out
    clear HA
    simp only [slices_Equal_int_int.l0] at H
    by_cases c4 : x13_1 < (l0.length : Int)
    ·rw [if_pos c4] at H
     have c4b0 : decide (x13_1 < (l0.length : Int)) = true := decide_eq_true c4
     clear c4
     by_cases c5 : 0 ≤ x13_1
     ·rw [if_pos c5] at H
      have c5b0 : decide (0 ≤ x13_1) = true := decide_eq_true c5
      clear c5
      by_cases c6 : x13_1 < (l0.length : Int)
      ·rw [if_pos c6] at H
       have c6b0 : decide (x13_1 < (l0.length : Int)) = true := decide_eq_true c6
       clear c6
       by_cases c7 : x13_1 < (l1.length : Int)
       ·rw [if_pos c7] at H
        have c7b0 : decide (x13_1 < (l1.length : Int)) = true := decide_eq_true c7
        clear c7
        by_cases c8 : (rd l0 x13_1) = (rd l1 x13_1)
        ·rw [if_pos c8] at H
         have c8b0 : ((rd l0 x13_1) == (rd l1 x13_1)) = true := beq_iff_eq.mpr c8
         have c8b1 : ((rd l0 x13_1) != (rd l1 x13_1)) = false := bne_eq_false_iff_eq.mpr c8
         clear c8
         have H' := am H
         clear H
         have p248 : 0 ≤ (x13_1 : Int) := of_decide_eq_true zq0
         have q248 : x13_1 < (l0.length : Int) := of_decide_eq_true zq0
         obtain ⟨ad248, e248, hx248_0⟩ := Kd.at_int HR0.out x13_1 p248 q248
         cases e248
         replace p248 := eq_true p248
         replace q248 := eq_true q248
         have p249 : 0 ≤ (x13_1 : Int) := of_decide_eq_true zq0
         have q249 : x13_1 < (l1.length : Int) := of_decide_eq_true zq0
         obtain ⟨ad249, e249, hx249_0⟩ := Kd.at_int HR1.out x13_1 p249 q249
         cases e249
         replace p249 := eq_true p249
         replace q249 := eq_true q249
         go_wp2
         repeat (go_quiet (fail); try go_wp2)
         go_roundg k1
         case measure => have := HK1.out; omega
         case rel => exact ⟨(wrap64 (x13_1 + 1)), zq2, H', ⟨zq27⟩, zq4⟩
        ·rw [if_neg c8] at H
         have c8b0 : ((rd l0 x13_1) == (rd l1 x13_1)) = false := beq_eq_false_iff_ne.mpr c8
         have c8b1 : ((rd l0 x13_1) != (rd l1 x13_1)) = true := bne_iff_ne.mpr c8
         obtain rfl := Option.some.inj H
         have p248 : 0 ≤ (x13_1 : Int) := of_decide_eq_true zq0
         have q248 : x13_1 < (l0.length : Int) := of_decide_eq_true zq0
         obtain ⟨ad248, e248, hx248_0⟩ := Kd.at_int HR0.out x13_1 p248 q248
         cases e248
         replace p248 := eq_true p248
         replace q248 := eq_true q248
         have p249 : 0 ≤ (x13_1 : Int) := of_decide_eq_true zq0
         have q249 : x13_1 < (l1.length : Int) := of_decide_eq_true zq0
         obtain ⟨ad249, e249, hx249_0⟩ := Kd.at_int HR1.out x13_1 p249 q249
         cases e249
         replace p249 := eq_true p249
         replace q249 := eq_true q249
         go_wp2
         repeat (go_quiet (fail); try go_wp2)
         go_ret
         exact ⟨zq2, zq4⟩
       ·rw [if_neg c7] at H
        exact absurd H zq25
      ·rw [if_neg c6] at H
       exact absurd H zq25
     ·rw [if_neg c5] at H
      exact absurd H zq25
    ·rw [if_neg c4] at H
     have c4b0 : decide (x13_1 < (l0.length : Int)) = false := decide_eq_false c4
     clear c4
     obtain rfl := Option.some.inj H
     go_wp2
     repeat (go_quiet (fail); try go_wp2)
     go_ret
     exact ⟨zq2, zq4⟩
 ·rw [if_neg c3] at H
  have c3b0 : ((l0.length : Int) == (l1.length : Int)) = false := beq_eq_false_iff_ne.mpr c3
  have c3b1 : ((l0.length : Int) != (l1.length : Int)) = true := bne_iff_ne.mpr c3
  have c3b2 : (l0.length == l1.length) = false := zq61
  obtain rfl := Option.some.inj H
  go_enter Try.func28, Try.ntmps28
  go_wp2
  repeat (go_quiet (fail); try go_wp2)
  go_ret
  exact ⟨zq2, zq4⟩
end
end Go.Proofs.Ytlmiiijjjcddkaa.PKa
