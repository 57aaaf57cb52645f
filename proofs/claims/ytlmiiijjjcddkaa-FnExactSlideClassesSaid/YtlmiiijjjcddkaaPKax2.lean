-- Written for this claim by a program of this session (myprint.py) over the kit's printer.
import Derived.Test.YtlmiiijjjcddkaaPKax0
import Derived.Test.YtlmiiijjjcddkaaPKax1
namespace Go.Proofs.Ytlmiiijjjcddkaa.PKa
noncomputable section
open Go.RowKit Go.Proofs.YtlmiiijjjcddkaaW.PrintWords Go.Proofs.YtlmiiijjjcddkaaW.PrintLast Go.Proofs.YtlmiiijjjcddkaaW.PrintMore
attribute [local go_sem] max2_int min2_int max_two min_two max_three min_three max_four min_four   -- for this text's walks alone
set_option maxHeartbeats 8000000
set_option maxRecDepth 100000
set_option linter.unusedVariables false
set_option linter.unusedSimpArgs false
theorem pRq2 {α : Type} {d : Kd α} {e base : Nat} {ok : Nat → Prop} {v : Value} {xs : List α} {w W : World} (h0 : Aside0 (Kd.R d e w base ok v xs)) (hp : Kd.R d e W base ok v xs := by (with_reducible repeat (first | apply Kd.R_alloc | apply Kd.R_drewN | apply Kd.R_drew)); exact Aside0.out (by with_reducible assumption)) : Kd.R d e W base ok v xs := hp
theorem pKq2 {g : Nat} {o : Obj} {w W : World} (h0 : Aside0 (w.heap[g]? = some o)) (hp : W.heap[g]? = some o := by (with_reducible repeat (first | refine blk_drewN ?_ _ | refine blk_drew ?_ | refine blk_alloc ?_ _)); exact Aside0.out (by with_reducible assumption)) : W.heap[g]? = some o := hp
theorem pBq2 {b : Nat} {w0 w W : World} (h0 : Aside0 (Below b w0 w)) (hp : Below b w0 W := by repeat (first | (with_reducible first | exact Aside0.out (by assumption) | apply below_alloc | apply pw_below_drewN | apply below_drew1 | refine below_set ?_ (Aside0.out (by assumption))))) : Below b w0 W := hp
/-! ### spec_lsLess: function 38 -/
mutual
def spec_lsLess.l0 : Nat → List Int → List Int → Int → Option (Bool)
 | 0, _, _, _ => none
 | k + 1, x0, x1, x5 => if x5 < (x0.length : Int) then (spec_lsLess.j1 k x0 x1 x5 (decide (x5 < (x1.length : Int)))) else (spec_lsLess.j1 k x0 x1 x5 false)
def spec_lsLess.j1 : Nat → List Int → List Int → Int → Bool → Option (Bool)
 | 0, _, _, _, _ => none
 | k + 1, x0, x1, x5, x15 => if x15 = true then (if 0 ≤ x5 then (if x5 < (x0.length : Int) then (if x5 < (x1.length : Int) then (if (rd x0 x5) = (rd x1 x5) then (spec_lsLess.l0 k x0 x1 (wrap64 (x5 + 1))) else (some (decide ((rd x0 x5) < (rd x1 x5))))) else (none)) else (none)) else (none)) else (some (decide ((x0.length : Int) < (x1.length : Int))))
end
def spec_lsLess.f (k : Nat) (l0 : List Int) (l1 : List Int) : Option (Bool) := spec_lsLess.l0 k l0 l1 0
theorem spec_lsLess.mono_l : ∀ k, (∀ y0 y1 y2, LeO (spec_lsLess.l0 k y0 y1 y2) (spec_lsLess.l0 (k + 1) y0 y1 y2)) ∧ (∀ y0 y1 y2 y3, LeO (spec_lsLess.j1 k y0 y1 y2 y3) (spec_lsLess.j1 (k + 1) y0 y1 y2 y3))
 | 0 => ⟨fun _ _ _ r h => by simp [spec_lsLess.l0] at h, fun _ _ _ _ r h => by simp [spec_lsLess.j1] at h⟩
 | k + 1 => by
  obtain ⟨ih0, ih1⟩ := spec_lsLess.mono_l k
  refine ⟨?_, ?_⟩
  ·intro y0 y1 y2
   unfold spec_lsLess.l0
   repeat' first | (with_reducible first | exact ih0 _ _ _ | exact ih1 _ _ _ _ | exact LeO.refl _ | exact LeO.none _ | refine LeO.ite ?_ ?_ | refine LeO.bind ?_ (fun _ => ?_))
  ·intro y0 y1 y2 y3
   unfold spec_lsLess.j1
   repeat' first | (with_reducible first | exact ih0 _ _ _ | exact ih1 _ _ _ _ | exact LeO.refl _ | exact LeO.none _ | refine LeO.ite ?_ ?_ | refine LeO.bind ?_ (fun _ => ?_))
theorem spec_lsLess.mono : ∀ a0 a1 k, LeO (spec_lsLess.f k a0 a1) (spec_lsLess.f (k + 1) a0 a1) := by
 intro a0 a1 k
 obtain ⟨ih0, ih1⟩ := spec_lsLess.mono_l k
 unfold spec_lsLess.f
 repeat' first | (with_reducible first | exact ih0 _ _ _ | exact ih1 _ _ _ _ | exact LeO.refl _ | exact LeO.none _ | refine LeO.ite ?_ ?_ | refine LeO.bind ?_ (fun _ => ?_))
theorem spec_lsLess.calls (k : Nat) (A0 : Option Addr) (c0 : Nat) (l0 : List Int) (A1 : Option Addr) (c1 : Nat) (l1 : List Int) (r : Bool) (w : World) (hr0 : Kd.C (Kd.int .i64) w A0 l0.length l0) (hc0 : l0.length ≤ c0) (hr1 : Kd.C (Kd.int .i64) w A1 l1.length l1) (hc1 : l1.length ≤ c1) (h : spec_lsLess.f k l0 l1 = some r) :
  Calls Try.prog 38 #[.slice A0 l0.length c0, .slice A1 l1.length c1] w fun e w' => e = .returned (.bool r) ∧ Drawn0 w w' := by
 have HR0 := am hr0
 have HC0 := am hc0
 clear hr0 hc0
 have HR1 := am hr1
 have HC1 := am hc1
 clear hr1 hc1
 have H : (spec_lsLess.l0 k l0 l1 0) = some r := h
 clear h
 have H' := am H
 clear H
 go_enter Try.func38, Try.ntmps38
 go_wp2
 repeat (go_quiet (fail); try go_wp2)
 go_loopg [5] k (fun kq v5 w' => ∃ (x5_1 : Int), v5 = .int .i64 x5_1 ∧ Aside0 (spec_lsLess.l0 kq l0 l1 x5_1 = some r) ∧ Aside0 (kq ≤ k) ∧ Drawn0 w w')
 case atStart => exact ⟨(0), zq2, H', ⟨Nat.le_refl _⟩, zq4⟩
 case round =>
  clear H'
  try clear c1
  try clear p2
  obtain ⟨x5_1, rfl, HA, HK1, ⟨m1, rfl⟩⟩ := hrel
  cases gk with
  | zero => exact absurd HA.out (by simp [spec_lsLess.l0])
  | succ k1 =>
   have H := HA.out
   clear HA
   simp only [spec_lsLess.l0] at H
   have HC3 := am H
   clear H
   go_upto_region 2 with (fail)
   repeat (go_quiet (fail); go_upto_region 2 with (fail))
   go_cut [15] (fun v15 wc => ∃ (kq : Nat) (x15_2 : Bool), v15 = .bool x15_2 ∧ Aside0 (spec_lsLess.j1 kq l0 l1 x5_1 x15_2 = some r) ∧ Aside0 (kq ≤ k1) ∧ Drawn0 w wc)
   case first =>
    have H := HC3.out
    clear HC3
    by_cases c4 : x5_1 < (l0.length : Int)
    ·rw [if_pos c4] at H
     have c4b0 : decide (x5_1 < (l0.length : Int)) = true := decide_eq_true c4
     clear c4
     (first | rw [c4b0] | (simp only [i64_w, i32_w]; rw [c4b0]) | skip)
     have H' := am H
     clear H
     go_wp2
     repeat (go_quiet (fail); try go_wp2)
     go_meet
     case rel => exact ⟨_, (decide (x5_1 < (l1.length : Int))), zq2, H', ⟨by have := HK1.out; first | omega | exact Nat.le_refl _⟩, zq4⟩
    ·rw [if_neg c4] at H
     have c4b0 : decide (x5_1 < (l0.length : Int)) = false := decide_eq_false c4
     clear c4
     (first | rw [c4b0] | (simp only [i64_w, i32_w]; rw [c4b0]) | skip)
     have H' := am H
     clear H
     go_wp2
     repeat (go_quiet (fail); try go_wp2)
     go_meet
     case rel => exact ⟨_, (false), zq2, H', ⟨by have := HK1.out; first | omega | exact Nat.le_refl _⟩, zq4⟩
   case rest =>
    clear HC3
    try clear c1
    try clear p2
    try clear c3
    try clear c4
    try clear c4b0
    try clear p2
    obtain ⟨kq, x15_2, rfl, HA, HJ2, ⟨mc2, rfl⟩⟩ := hcut
    cases kq with
    | zero => exact absurd HA.out (by simp [spec_lsLess.j1])
    | succ kj2 =>
     have H := HA.out
     clear HA
     simp only [spec_lsLess.j1] at H
     by_cases c5 : x15_2 = true
     ·subst c5
      rw [if_pos rfl] at H
      by_cases c6 : 0 ≤ x5_1
      ·rw [if_pos c6] at H
       have c6b0 : decide (0 ≤ x5_1) = true := decide_eq_true c6
       clear c6
       by_cases c7 : x5_1 < (l0.length : Int)
       ·rw [if_pos c7] at H
        have c7b0 : decide (x5_1 < (l0.length : Int)) = true := decide_eq_true c7
        clear c7
        by_cases c8 : x5_1 < (l1.length : Int)
        ·rw [if_pos c8] at H
         have c8b0 : decide (x5_1 < (l1.length : Int)) = true := decide_eq_true c8
         clear c8
         by_cases c9 : (rd l0 x5_1) = (rd l1 x5_1)
         ·rw [if_pos c9] at H
          have c9b0 : ((rd l0 x5_1) == (rd l1 x5_1)) = true := beq_iff_eq.mpr c9
          have c9b1 : ((rd l0 x5_1) != (rd l1 x5_1)) = false := bne_eq_false_iff_eq.mpr c9
          clear c9
          have H' := am H
          clear H
          have p155 : 0 ≤ (x5_1 : Int) := of_decide_eq_true zq0
          have q155 : x5_1 < (l0.length : Int) := of_decide_eq_true zq0
          obtain ⟨ad155, e155, hx155_0⟩ := Kd.at_int HR0.out x5_1 p155 q155
          cases e155
          replace p155 := eq_true p155
          replace q155 := eq_true q155
          have p156 : 0 ≤ (x5_1 : Int) := of_decide_eq_true zq0
          have q156 : x5_1 < (l1.length : Int) := of_decide_eq_true zq0
          obtain ⟨ad156, e156, hx156_0⟩ := Kd.at_int HR1.out x5_1 p156 q156
          cases e156
          replace p156 := eq_true p156
          replace q156 := eq_true q156
          go_wp2
          repeat (go_quiet (fail); try go_wp2)
          go_roundg kj2
          case measure => have := HK1.out; have := HJ2.out; omega
          case rel => exact ⟨(wrap64 (x5_1 + 1)), zq2, H', ⟨by have := HK1.out; have := HJ2.out; omega⟩, zq4⟩
         ·rw [if_neg c9] at H
          have c9b0 : ((rd l0 x5_1) == (rd l1 x5_1)) = false := beq_eq_false_iff_ne.mpr c9
          have c9b1 : ((rd l0 x5_1) != (rd l1 x5_1)) = true := bne_iff_ne.mpr c9
          obtain rfl := Option.some.inj H
          have p155 : 0 ≤ (x5_1 : Int) := of_decide_eq_true zq0
          have q155 : x5_1 < (l0.length : Int) := of_decide_eq_true zq0
          obtain ⟨ad155, e155, hx155_0⟩ := Kd.at_int HR0.out x5_1 p155 q155
          cases e155
          replace p155 := eq_true p155
          replace q155 := eq_true q155
          have p156 : 0 ≤ (x5_1 : Int) := of_decide_eq_true zq0
          have q156 : x5_1 < (l1.length : Int) := of_decide_eq_true zq0
          obtain ⟨ad156, e156, hx156_0⟩ := Kd.at_int HR1.out x5_1 p156 q156
          cases e156
          replace p156 := eq_true p156
          replace q156 := eq_true q156
          have p157 : 0 ≤ (x5_1 : Int) := of_decide_eq_true zq0
          have q157 : x5_1 < (l0.length : Int) := of_decide_eq_true zq0
          obtain ⟨ad157, e157, hx157_0⟩ := Kd.at_int HR0.out x5_1 p157 q157
          obtain rfl : ad155 = ad157 := (by injection e157)
          replace p157 := eq_true p157
          replace q157 := eq_true q157
          have p158 : 0 ≤ (x5_1 : Int) := of_decide_eq_true zq0
          have q158 : x5_1 < (l1.length : Int) := of_decide_eq_true zq0
          obtain ⟨ad158, e158, hx158_0⟩ := Kd.at_int HR1.out x5_1 p158 q158
          obtain rfl : ad156 = ad158 := (by injection e158)
          replace p158 := eq_true p158
          replace q158 := eq_true q158
          go_wp2
          repeat (go_quiet (fail); try go_wp2)
          go_ret
          exact ⟨zq2, zq4⟩
        ·rw [if_neg c8] at H
         exact absurd H zq25
       ·rw [if_neg c7] at H
        exact absurd H zq25
      ·rw [if_neg c6] at H
       exact absurd H zq25
     ·replace c5 := Bool.eq_false_iff.mpr c5
      subst c5
      rw [if_neg (show ¬ (false = true) by decide)] at H
      obtain rfl := Option.some.inj H
      go_wp2
      repeat (go_quiet (fail); try go_wp2)
      go_ret
      exact ⟨zq2, zq4⟩
/-! ### spec_alPlace: function 26 -/
def spec_alPlace.l0 : Nat → List (List Int) → List Int → Int → Int → Option (Int)
 | 0, _, _, _, _ => none
 | k + 1, x0, x1, x5, x6 => if x5 < x6 then (if 0 ≤ (wrap64 (Int.tdiv (wrap64 (x5 + x6)) 2)) then (if (wrap64 (Int.tdiv (wrap64 (x5 + x6)) 2)) < (x0.length : Int) then ((spec_lsLess.f k (rd_L1 x0 (wrap64 (Int.tdiv (wrap64 (x5 + x6)) 2))) x1).bind fun t160 => (if t160 = true then (spec_alPlace.l0 k x0 x1 (wrap64 ((wrap64 (Int.tdiv (wrap64 (x5 + x6)) 2)) + 1)) x6) else (spec_alPlace.l0 k x0 x1 x5 (wrap64 (Int.tdiv (wrap64 (x5 + x6)) 2))))) else (none)) else (none)) else (some x5)
def spec_alPlace.f (k : Nat) (l0 : List (List Int)) (l1 : List Int) : Option (Int) := spec_alPlace.l0 k l0 l1 0 (wrap64 ((l0.length : Int) - 1))
theorem spec_alPlace.mono_l : ∀ k, (∀ y0 y1 y2 y3, LeO (spec_alPlace.l0 k y0 y1 y2 y3) (spec_alPlace.l0 (k + 1) y0 y1 y2 y3))
 | 0 => fun _ _ _ _ r h => by simp [spec_alPlace.l0] at h
 | k + 1 => by
  have ih0 := spec_alPlace.mono_l k
  ·intro y0 y1 y2 y3
   unfold spec_alPlace.l0
   repeat' first | (with_reducible first | exact ih0 _ _ _ _ | exact spec_lsLess.mono _ _ _ | exact LeO.refl _ | exact LeO.none _ | refine LeO.ite ?_ ?_ | refine LeO.bind ?_ (fun _ => ?_))
theorem spec_alPlace.mono : ∀ a0 a1 k, LeO (spec_alPlace.f k a0 a1) (spec_alPlace.f (k + 1) a0 a1) := by
 intro a0 a1 k
 have ih0 := spec_alPlace.mono_l k
 unfold spec_alPlace.f
 repeat' first | (with_reducible first | exact ih0 _ _ _ _ | exact spec_lsLess.mono _ _ _ | exact LeO.refl _ | exact LeO.none _ | refine LeO.ite ?_ ?_ | refine LeO.bind ?_ (fun _ => ?_))
theorem spec_alPlace.calls (k : Nat) (A0 : Option Addr) (c0 : Nat) (l0 : List (List Int)) (A1 : Option Addr) (c1 : Nat) (l1 : List Int) (r : Int) (w : World) (hr0 : Kd.C (Kd.slice 3 (Kd.int .i64)) w A0 l0.length l0) (hc0 : l0.length ≤ c0) (hr1 : Kd.C (Kd.int .i64) w A1 l1.length l1) (hc1 : l1.length ≤ c1) (h : spec_alPlace.f k l0 l1 = some r) :
  Calls Try.prog 26 #[.slice A0 l0.length c0, .slice A1 l1.length c1] w fun e w' => e = .returned (.int .i64 r) ∧ Drawn0 w w' := by
 have HR0 := am hr0
 have HC0 := am hc0
 clear hr0 hc0
 have HR1 := am hr1
 have HC1 := am hc1
 clear hr1 hc1
 have H : (spec_alPlace.l0 k l0 l1 0 (wrap64 ((l0.length : Int) - 1))) = some r := h
 clear h
 have H' := am H
 clear H
 go_enter Try.func26, Try.ntmps26
 go_wp2
 go_loopg [5, 6] k (fun kq v5 v6 w' => ∃ (x5_1 : Int) (x6_1 : Int), v5 = .int .i64 x5_1 ∧ v6 = .int .i64 x6_1 ∧ Aside0 (spec_alPlace.l0 kq l0 l1 x5_1 x6_1 = some r) ∧ Aside0 (kq ≤ k) ∧ Drawn0 w w')
 case atStart => exact ⟨(0), (wrap64 ((l0.length : Int) - 1)), zq2, zq2, H', ⟨Nat.le_refl _⟩, zq4⟩
 case round =>
  clear H'
  try clear c1
  try clear c2
  try clear p2
  obtain ⟨x5_1, x6_1, rfl, rfl, HA, HK1, ⟨m1, rfl⟩⟩ := hrel
  cases gk with
  | zero => exact absurd HA.out (by simp [spec_alPlace.l0])
  | succ k1 =>
   have H := HA.out
   clear HA
   simp only [spec_alPlace.l0] at H
   by_cases c3 : x5_1 < x6_1
   ·rw [if_pos c3] at H
    have c3b0 : decide (x5_1 < x6_1) = true := decide_eq_true c3
    clear c3
    obtain ⟨ji4, hji4⟩ : ∃ j_ : Int, (wrap64 (Int.tdiv (wrap64 (x5_1 + x6_1)) 2)) = j_ := ⟨_, rfl⟩
    replace H : (if 0 ≤ (ji4) then (if (ji4) < (l0.length : Int) then ((spec_lsLess.f k1 (rd_L1 l0 (ji4)) l1).bind fun t160 => (if t160 = true then (spec_alPlace.l0 k1 l0 l1 (wrap64 ((ji4) + 1)) x6_1) else (spec_alPlace.l0 k1 l0 l1 x5_1 ji4))) else (none)) else (none)) = some r := zq85
    have hji4w : (IntKind.i64.wrap (Int.tdiv (wrap64 (x5_1 + x6_1)) 2)) = ji4 := (i64_w _).trans hji4
    by_cases c5 : 0 ≤ (ji4)
    ·rw [if_pos c5] at H
     have c5b0 : decide (0 ≤ (ji4)) = true := decide_eq_true c5
     clear c5
     by_cases c6 : (ji4) < (l0.length : Int)
     ·rw [if_pos c6] at H
      have c6b0 : decide ((ji4) < (l0.length : Int)) = true := decide_eq_true c6
      clear c6
      obtain ⟨t160, A7, H⟩ := zS H
      (try dsimp only at H)
      by_cases c8 : t160 = true
      ·subst c8
       rw [if_pos rfl] at H
       have H' := am H
       clear H
       have p159 : 0 ≤ ((ji4) : Int) := of_decide_eq_true zq0
       have q159 : (ji4) < (l0.length : Int) := of_decide_eq_true zq0
       obtain ⟨ad159, A159_0, c159_0, e159, hx159_0, hl159_0, hi159_0⟩ := at_L1 HR0.out (ji4) p159 q159
       cases e159
       have HR159_0 := am hi159_0
       have HC159_0 := am hl159_0
       clear hi159_0 hl159_0
       replace p159 := eq_true p159
       replace q159 := eq_true q159
       go_wp2_with (first | ((with_reducible refine gate_callee (f := 38) rfl ?_); refine goesL_ (some 23) rfl rfl Try.func38 zq24 rfl #[.slice A159_0 (rd_L1 l0 (ji4)).length c159_0, .slice A1 l1.length c1] rfl zq74 ?_; (with_reducible refine (spec_lsLess.calls k1 _ _ (rd_L1 l0 (ji4)) _ _ l1 true _ ?side1 ?side2 ?side3 ?side4 A7.out).mono ?_); (case side1 => exact zq83); (case side2 => exact HC159_0.out); (case side3 => exact zq90); (case side4 => exact HC1.out); rintro e w' ⟨rfl, ⟨nd, rfl⟩⟩; refine ⟨_, rfl, ?_⟩))
       go_roundg k1
       case measure => have := HK1.out; omega
       case rel => exact ⟨(wrap64 ((ji4) + 1)), (x6_1), (by first | rfl | (simp; done) | (simp only [← hji4] <;> (first | rfl | simp)) | (simp [*]; done)), zq2, H', ⟨zq27⟩, zq4⟩
      ·replace c8 := Bool.eq_false_iff.mpr c8
       subst c8
       rw [if_neg (show ¬ (false = true) by decide)] at H
       have H' := am H
       clear H
       have p159 : 0 ≤ ((ji4) : Int) := of_decide_eq_true zq0
       have q159 : (ji4) < (l0.length : Int) := of_decide_eq_true zq0
       obtain ⟨ad159, A159_0, c159_0, e159, hx159_0, hl159_0, hi159_0⟩ := at_L1 HR0.out (ji4) p159 q159
       cases e159
       have HR159_0 := am hi159_0
       have HC159_0 := am hl159_0
       clear hi159_0 hl159_0
       replace p159 := eq_true p159
       replace q159 := eq_true q159
       go_wp2_with (first | ((with_reducible refine gate_callee (f := 38) rfl ?_); refine goesL_ (some 23) rfl rfl Try.func38 zq24 rfl #[.slice A159_0 (rd_L1 l0 (ji4)).length c159_0, .slice A1 l1.length c1] rfl zq74 ?_; (with_reducible refine (spec_lsLess.calls k1 _ _ (rd_L1 l0 (ji4)) _ _ l1 false _ ?side1 ?side2 ?side3 ?side4 A7.out).mono ?_); (case side1 => exact zq83); (case side2 => exact HC159_0.out); (case side3 => exact zq90); (case side4 => exact HC1.out); rintro e w' ⟨rfl, ⟨nd, rfl⟩⟩; refine ⟨_, rfl, ?_⟩))
       go_roundg k1
       case measure => have := HK1.out; omega
       case rel => exact ⟨(x5_1), (ji4), zq2, (by first | rfl | (simp; done) | (simp only [← hji4] <;> (first | rfl | simp)) | (simp [*]; done)), H', ⟨zq27⟩, zq4⟩
     ·rw [if_neg c6] at H
      exact absurd H zq25
    ·rw [if_neg c5] at H
     exact absurd H zq25
   ·rw [if_neg c3] at H
    have c3b0 : decide (x5_1 < x6_1) = false := decide_eq_false c3
    clear c3
    obtain rfl := Option.some.inj H
    go_wp2
    go_ret
    exact ⟨zq2, zq4⟩
/-! ### spec_alClasses: function 17 -/
mutual
def spec_alClasses.l0 : Nat → List (List Int) → List Int → Int → Int → Option (List Int × List Int)
 | 0, _, _, _, _ => none
 | k + 1, x0, x4, x18, x19 => if x19 < x18 then (if 0 ≤ x19 then (if x19 < (x4.length : Int) then (spec_alClasses.l0 k x0 (x4.set (x19 : Int).toNat (-1)) x18 (wrap64 (x19 + 1))) else (none)) else (none)) else (spec_alClasses.l1 k x0 x4 ([] : List Int) (x0.length : Int) 0)
def spec_alClasses.l1 : Nat → List (List Int) → List Int → List Int → Int → Int → Option (List Int × List Int)
 | 0, _, _, _, _, _ => none
 | k + 1, x0, x4, x5, x27, x28 => if x28 < x27 then (if 0 ≤ x28 then (if x28 < (x4.length : Int) then (if (rd x4 x28) ≥ 0 then (spec_alClasses.l1 k x0 x4 x5 x27 (wrap64 (x28 + 1))) else (spec_alClasses.l2 k x0 (x4.set (x28 : Int).toNat (x5.length : Int)) x5 x28 (([x28] : List Int)) 0 x27 x28)) else (none)) else (none)) else (some (x4, x5))
def spec_alClasses.l2 : Nat → List (List Int) → List Int → List Int → Int → List Int → Int → Int → Int → Option (List Int × List Int)
 | 0, _, _, _, _, _, _, _, _ => none
 | k + 1, x0, x4, x5, x7, x8, x9, x27, x28 => if x9 < (x8.length : Int) then (if 0 ≤ x9 then (if 0 ≤ (rd x8 x9) then (if (rd x8 x9) < (x0.length : Int) then (spec_alClasses.l3 k x0 x4 x5 x7 x8 x9 (rd_L1 x0 (rd x8 x9)) 0 x27 x28) else (none)) else (none)) else (none)) else (if x5.length < 17592186044416 then (spec_alClasses.l1 k x0 x4 (x5 ++ [x7]) x27 (wrap64 (x28 + 1))) else (none))
def spec_alClasses.l3 : Nat → List (List Int) → List Int → List Int → Int → List Int → Int → List Int → Int → Int → Int → Option (List Int × List Int)
 | 0, _, _, _, _, _, _, _, _, _, _ => none
 | k + 1, x0, x4, x5, x7, x8, x9, x10, x11, x27, x28 => if (wrap64 (x11 + 1)) < (x10.length : Int) then (if 0 ≤ x11 then (if x11 < (x10.length : Int) then (if 0 ≤ (wrap64 (x11 + 1)) then ((spec_l1Abs.f (wrap64 ((rd x10 x11) - (rd x10 (wrap64 (x11 + 1)))))).bind fun t177 => (if t177 < 2 then (spec_alClasses.l3 k x0 x4 x5 x7 x8 x9 x10 (wrap64 (x11 + 1)) x27 x28) else ((spec_l1Own.f x10).bind fun t178 => (if x11 < (t178.length : Int) then (if (wrap64 (x11 + 1)) < (t178.length : Int) then ((spec_alPlace.f k x0 ((t178.set (x11 : Int).toNat (rd x10 (wrap64 (x11 + 1)))).set ((wrap64 (x11 + 1)) : Int).toNat (rd x10 x11))).bind fun t185 => (if 0 ≤ t185 then (if t185 < (x4.length : Int) then (if (rd x4 t185) < 0 then (if 0 ≤ x7 then (if x7 < (x4.length : Int) then (if x8.length < 17592186044416 then (spec_alClasses.l3 k x0 (x4.set (t185 : Int).toNat (rd x4 x7)) x5 x7 (x8 ++ [t185]) x9 x10 (wrap64 (x11 + 1)) x27 x28) else (none)) else (none)) else (none)) else (spec_alClasses.l3 k x0 x4 x5 x7 x8 x9 x10 (wrap64 (x11 + 1)) x27 x28)) else (none)) else (none))) else (none)) else (none))))) else (none)) else (none)) else (none)) else (spec_alClasses.l2 k x0 x4 x5 x7 x8 (wrap64 (x9 + 1)) x27 x28)
end
def spec_alClasses.f (k : Nat) (l0 : List (List Int)) : Option (List Int × List Int) := if 0 ≤ (l0.length : Int) then (if ((l0.length : Int) : Int).toNat ≤ 35184372088832 then (spec_alClasses.l0 k l0 (List.replicate ((l0.length : Int) : Int).toNat 0) (l0.length : Int) 0) else (none)) else (none)
theorem spec_alClasses.mono_l : ∀ k, (∀ y0 y1 y2 y3, LeO (spec_alClasses.l0 k y0 y1 y2 y3) (spec_alClasses.l0 (k + 1) y0 y1 y2 y3)) ∧ (∀ y0 y1 y2 y3 y4, LeO (spec_alClasses.l1 k y0 y1 y2 y3 y4) (spec_alClasses.l1 (k + 1) y0 y1 y2 y3 y4)) ∧ (∀ y0 y1 y2 y3 y4 y5 y6 y7, LeO (spec_alClasses.l2 k y0 y1 y2 y3 y4 y5 y6 y7) (spec_alClasses.l2 (k + 1) y0 y1 y2 y3 y4 y5 y6 y7)) ∧ (∀ y0 y1 y2 y3 y4 y5 y6 y7 y8 y9, LeO (spec_alClasses.l3 k y0 y1 y2 y3 y4 y5 y6 y7 y8 y9) (spec_alClasses.l3 (k + 1) y0 y1 y2 y3 y4 y5 y6 y7 y8 y9))
 | 0 => ⟨fun _ _ _ _ r h => by simp [spec_alClasses.l0] at h, fun _ _ _ _ _ r h => by simp [spec_alClasses.l1] at h, fun _ _ _ _ _ _ _ _ r h => by simp [spec_alClasses.l2] at h, fun _ _ _ _ _ _ _ _ _ _ r h => by simp [spec_alClasses.l3] at h⟩
 | k + 1 => by
  obtain ⟨ih0, ih1, ih2, ih3⟩ := spec_alClasses.mono_l k
  refine ⟨?_, ?_, ?_, ?_⟩
  ·intro y0 y1 y2 y3
   unfold spec_alClasses.l0
   repeat' first | (with_reducible first | exact ih0 _ _ _ _ | exact ih1 _ _ _ _ _ | exact ih2 _ _ _ _ _ _ _ _ | exact ih3 _ _ _ _ _ _ _ _ _ _ | exact spec_alPlace.mono _ _ _ | exact LeO.refl _ | exact LeO.none _ | refine LeO.ite ?_ ?_ | refine LeO.bind ?_ (fun _ => ?_))
  ·intro y0 y1 y2 y3 y4
   unfold spec_alClasses.l1
   repeat' first | (with_reducible first | exact ih0 _ _ _ _ | exact ih1 _ _ _ _ _ | exact ih2 _ _ _ _ _ _ _ _ | exact ih3 _ _ _ _ _ _ _ _ _ _ | exact spec_alPlace.mono _ _ _ | exact LeO.refl _ | exact LeO.none _ | refine LeO.ite ?_ ?_ | refine LeO.bind ?_ (fun _ => ?_))
  ·intro y0 y1 y2 y3 y4 y5 y6 y7
   unfold spec_alClasses.l2
   repeat' first | (with_reducible first | exact ih0 _ _ _ _ | exact ih1 _ _ _ _ _ | exact ih2 _ _ _ _ _ _ _ _ | exact ih3 _ _ _ _ _ _ _ _ _ _ | exact spec_alPlace.mono _ _ _ | exact LeO.refl _ | exact LeO.none _ | refine LeO.ite ?_ ?_ | refine LeO.bind ?_ (fun _ => ?_))
  ·intro y0 y1 y2 y3 y4 y5 y6 y7 y8 y9
   unfold spec_alClasses.l3
   repeat' first | (with_reducible first | exact ih0 _ _ _ _ | exact ih1 _ _ _ _ _ | exact ih2 _ _ _ _ _ _ _ _ | exact ih3 _ _ _ _ _ _ _ _ _ _ | exact spec_alPlace.mono _ _ _ | exact LeO.refl _ | exact LeO.none _ | refine LeO.ite ?_ ?_ | refine LeO.bind ?_ (fun _ => ?_))
theorem spec_alClasses.mono : ∀ a0 k, LeO (spec_alClasses.f k a0) (spec_alClasses.f (k + 1) a0) := by
 intro a0 k
 obtain ⟨ih0, ih1, ih2, ih3⟩ := spec_alClasses.mono_l k
 unfold spec_alClasses.f
 repeat' first | (with_reducible first | exact ih0 _ _ _ _ | exact ih1 _ _ _ _ _ | exact ih2 _ _ _ _ _ _ _ _ | exact ih3 _ _ _ _ _ _ _ _ _ _ | exact spec_alPlace.mono _ _ _ | exact LeO.refl _ | exact LeO.none _ | refine LeO.ite ?_ ?_ | refine LeO.bind ?_ (fun _ => ?_))
theorem spec_alClasses.calls (k : Nat) (A0 : Option Addr) (c0 : Nat) (l0 : List (List Int)) (r1 : List Int) (r2 : List Int) (w : World) (hr0 : Kd.C (Kd.slice 3 (Kd.int .i64)) w A0 l0.length l0) (hc0 : l0.length ≤ c0) (h : spec_alClasses.f k l0 = some (r1, r2)) :
  Calls Try.prog 17 #[.slice A0 l0.length c0] w fun e w' => ∃ v0_ v1_ : Value, e = .returned (.tuple #[v0_, v1_]) ∧ Kd.R (Kd.int .i64) 3 w' w.heap.size (fun k_ => some k_ ≠ (v1_ : Value).ownBlock) v0_ r1 ∧ Kd.R (Kd.int .i64) 3 w' w.heap.size (fun k_ => some k_ ≠ (v0_ : Value).ownBlock) v1_ r2 ∧ Below w.heap.size w w' := by
 have HR0 := am hr0
 have HC0 := am hc0
 clear hr0 hc0
 have HB := am (Below.refl w.heap.size w)
 have H : (if 0 ≤ (l0.length : Int) then (if ((l0.length : Int) : Int).toNat ≤ 35184372088832 then (spec_alClasses.l0 k l0 (List.replicate ((l0.length : Int) : Int).toNat 0) (l0.length : Int) 0) else (none)) else (none)) = some (r1, r2) := h
 clear h
 by_cases c2 : 0 ≤ (l0.length : Int)
 ·rw [if_pos c2] at H
  have c2b0 := eq_true c2
  have c2b1 : decide (0 ≤ (l0.length : Int)) = true := decide_eq_true c2
  clear c2
  by_cases c3 : ((l0.length : Int) : Int).toNat ≤ 35184372088832
  ·rw [if_pos c3] at H
   have c3b0 := eq_true c3
   have c3b1 : decide (((l0.length : Int) : Int).toNat ≤ 35184372088832) = true := decide_eq_true c3
   clear c3
   obtain ⟨y161, hy161⟩ : ∃ y_ : List Int, y_ = (List.replicate ((l0.length : Int) : Int).toNat 0) := ⟨_, rfl⟩
   replace H : (spec_alClasses.l0 k l0 y161 (l0.length : Int) 0) = some (r1, r2) := by first | (rw [hy161]; exact zH) | exact zH
   have Ny161 := am hy161
   clear hy161
   have H' := am H
   clear H
   go_enter Try.func17, Try.ntmps17
   go_wp2_with (first | ((with_reducible refine gate_dst (N := 16) rfl ?_); refine Kd.R_make (Kd.int .i64) _ 3 rfl (N := 16) rfl 22 _ _ rfl (l0.length : Int) rfl rfl Try.underlying22 (.int .i64 0) 8 info3 rfl zq34 zq11 0 (ok := fun _ => True) (okp := fun _ => True) rfl (fun _ hk => hk) trivial (of_decide_eq_true zq0) (Nat.le_trans (Nat.mul_le_mul_right _ (of_decide_eq_true zq0 : (l0.length : Int).toNat ≤ 35184372088832)) zq11) (Below.refl _ _) (Nat.le_refl _) ?_; intro v162 w4 ho5 hb hg_ hnew_; clear hg_ hnew_; (first | rw [← Ny161.out] at ho5 | (simp only [Int.reduceToNat] at ho5; rw [← Ny161.out] at ho5)); have HO163 := am (Kd.R_lower ho5 (below_size (pBq2 HB))); replace HB := am (below_step (pBq2 HB) hb); clear hb ho5))
   repeat (go_quiet (first | ((with_reducible refine gate_dst (N := 16) rfl ?_); refine Kd.R_make (Kd.int .i64) _ 3 rfl (N := 16) rfl 22 _ _ rfl (l0.length : Int) rfl rfl Try.underlying22 (.int .i64 0) 8 info3 rfl zq34 zq11 0 (ok := fun _ => True) (okp := fun _ => True) rfl (fun _ hk => hk) trivial (of_decide_eq_true zq0) (Nat.le_trans (Nat.mul_le_mul_right _ (of_decide_eq_true zq0 : (l0.length : Int).toNat ≤ 35184372088832)) zq11) (Below.refl _ _) (Nat.le_refl _) ?_; intro v162 w4 ho5 hb hg_ hnew_; clear hg_ hnew_; (first | rw [← Ny161.out] at ho5 | (simp only [Int.reduceToNat] at ho5; rw [← Ny161.out] at ho5)); have HO163 := am (Kd.R_lower ho5 (below_size (pBq2 HB))); replace HB := am (below_step (pBq2 HB) hb); clear hb ho5)); try go_wp2_with (first | ((with_reducible refine gate_dst (N := 16) rfl ?_); refine Kd.R_make (Kd.int .i64) _ 3 rfl (N := 16) rfl 22 _ _ rfl (l0.length : Int) rfl rfl Try.underlying22 (.int .i64 0) 8 info3 rfl zq34 zq11 0 (ok := fun _ => True) (okp := fun _ => True) rfl (fun _ hk => hk) trivial (of_decide_eq_true zq0) (Nat.le_trans (Nat.mul_le_mul_right _ (of_decide_eq_true zq0 : (l0.length : Int).toNat ≤ 35184372088832)) zq11) (Below.refl _ _) (Nat.le_refl _) ?_; intro v162 w4 ho5 hb hg_ hnew_; clear hg_ hnew_; (first | rw [← Ny161.out] at ho5 | (simp only [Int.reduceToNat] at ho5; rw [← Ny161.out] at ho5)); have HO163 := am (Kd.R_lower ho5 (below_size (pBq2 HB))); replace HB := am (below_step (pBq2 HB) hb); clear hb ho5)))
   go_loopg [19] k (fun kq v19 w' => ∃ (x4_1 : List Int) (x19_1 : Int), v19 = .int .i64 x19_1 ∧ Aside0 (spec_alClasses.l0 kq l0 x4_1 (l0.length : Int) x19_1 = some (r1, r2)) ∧ Aside0 (kq ≤ k) ∧ Aside0 (Kd.R (Kd.int .i64) 3 w' w.heap.size (fun _ => True) v162 x4_1) ∧ Aside0 (Below w.heap.size w w'))
   case atStart => exact ⟨(y161), (0), zq2, H', ⟨Nat.le_refl _⟩, ⟨by (with_reducible repeat (first | apply Kd.R_alloc | apply Kd.R_drewN | apply Kd.R_drew)); exact HO163.out⟩, ⟨zq1⟩⟩
   case round =>
    clear H'
    try clear c1
    try clear c2
    try clear c2b0
    try clear c2b1
    try clear p2
    try clear c3
    try clear c3b0
    try clear c3b1
    obtain ⟨x4_1, x19_1, rfl, HA, HK1, HO_4, HB⟩ := hrel
    cases gk with
    | zero => exact absurd HA.out (by simp [spec_alClasses.l0])
    | succ k1 =>
     have H := HA.out
     clear HA
     simp only [spec_alClasses.l0] at H
     by_cases c6 : x19_1 < (l0.length : Int)
     ·rw [if_pos c6] at H
      have c6b0 : decide (x19_1 < (l0.length : Int)) = true := decide_eq_true c6
      clear c6
      by_cases c7 : 0 ≤ x19_1
      ·rw [if_pos c7] at H
       have c7b0 : decide (0 ≤ x19_1) = true := decide_eq_true c7
       clear c7
       by_cases c8 : x19_1 < (x4_1.length : Int)
       ·rw [if_pos c8] at H
        have c8b0 : decide (x19_1 < (x4_1.length : Int)) = true := decide_eq_true c8
        clear c8
        obtain ⟨y164, hy164⟩ : ∃ y_ : List Int, y_ = (x4_1.set (x19_1 : Int).toNat (-1)) := ⟨_, rfl⟩
        replace H : (spec_alClasses.l0 k1 l0 y164 (l0.length : Int) (wrap64 (x19_1 + 1))) = some (r1, r2) := by first | (rw [hy164]; exact zH) | exact zH
        have Ny164 := am hy164
        clear hy164
        have H' := am H
        clear H
        have p9 : 0 ≤ (x19_1 : Int) := of_decide_eq_true zq0
        have q9 : (x19_1 : Int) < ((x4_1.length : Int) : Int) := of_decide_eq_true zq0
        obtain ⟨go9, co9, eo9, gb9, gl9, cl9, HG9⟩ := Kd.R_form HO_4.out zq11
        (first | cases eo9 | (injection eo9 with ea_ en_ ec_; (first | subst ea_ | (injection ea_ with ea_; subst ea_)); subst ec_; clear en_))
        have GB9 := am gb9
        have GG9 := am HG9
        clear gb9 gl9 HG9
        obtain ⟨hx9_0, hf9_0⟩ := Kd.R_celln 0 HO_4.out (x19_1 : Int) p9 q9
        replace p9 := eq_true p9
        replace q9 := eq_true q9
        have HP10 := Kd.R_putg HO_4.out (x19_1 : Int) (-1)
        go_wp2_with (first | ((with_reducible refine gate_store (t := 3) (p := 24) rfl ?_); (try (rw [drewN_self wr]; generalize hq_ : World.drewN wr _ = wr; replace HO_4 := am (Kd.R_at hq_ HO_4.out); replace HB := am (below_at hq_ HB.out); clear hq_; (try (have HP10 := Kd.R_putg HO_4.out (x19_1 : Int) (-1))))); refine store_event (t := 3) (p := 24) (v := ?vo_w11) (w1 := (wr.setCell ⟨go9, (x19_1 : Int).toNat, none⟩ (.int .i64 (-1)))) ?hg ?ho ?hn ?hr ?_; (case ho => rfl); (case hg => rfl); (case hn => rfl); (case hr => exact zq10); intro w11 hw; have hg : wr.grownBy w11 (some go9) := (by rw [hw]; exact HP10.2); have hp_ : Kd.R (Kd.int .i64) 3 w11 w.heap.size (fun _ => True) (.slice (some ⟨go9, 0, none⟩) x4_1.length co9) y164 := (by rw [hw, Ny164.out]; exact HP10.1); clear HP10; replace HO_4 := am (hp_); replace HB := am ((zq68 : Below w.heap.size w w11)); clear hg hw hp_))
        repeat (go_quiet (first | ((with_reducible refine gate_store (t := 3) (p := 24) rfl ?_); (try (rw [drewN_self wr]; generalize hq_ : World.drewN wr _ = wr; replace HO_4 := am (Kd.R_at hq_ HO_4.out); replace HB := am (below_at hq_ HB.out); clear hq_; (try (have HP10 := Kd.R_putg HO_4.out (x19_1 : Int) (-1))))); refine store_event (t := 3) (p := 24) (v := ?vo_w11) (w1 := (wr.setCell ⟨go9, (x19_1 : Int).toNat, none⟩ (.int .i64 (-1)))) ?hg ?ho ?hn ?hr ?_; (case ho => rfl); (case hg => rfl); (case hn => rfl); (case hr => exact zq10); intro w11 hw; have hg : wr.grownBy w11 (some go9) := (by rw [hw]; exact HP10.2); have hp_ : Kd.R (Kd.int .i64) 3 w11 w.heap.size (fun _ => True) (.slice (some ⟨go9, 0, none⟩) x4_1.length co9) y164 := (by rw [hw, Ny164.out]; exact HP10.1); clear HP10; replace HO_4 := am (hp_); replace HB := am ((zq68 : Below w.heap.size w w11)); clear hg hw hp_)); try go_wp2_with (first | ((with_reducible refine gate_store (t := 3) (p := 24) rfl ?_); (try (rw [drewN_self wr]; generalize hq_ : World.drewN wr _ = wr; replace HO_4 := am (Kd.R_at hq_ HO_4.out); replace HB := am (below_at hq_ HB.out); clear hq_; (try (have HP10 := Kd.R_putg HO_4.out (x19_1 : Int) (-1))))); refine store_event (t := 3) (p := 24) (v := ?vo_w11) (w1 := (wr.setCell ⟨go9, (x19_1 : Int).toNat, none⟩ (.int .i64 (-1)))) ?hg ?ho ?hn ?hr ?_; (case ho => rfl); (case hg => rfl); (case hn => rfl); (case hr => exact zq10); intro w11 hw; have hg : wr.grownBy w11 (some go9) := (by rw [hw]; exact HP10.2); have hp_ : Kd.R (Kd.int .i64) 3 w11 w.heap.size (fun _ => True) (.slice (some ⟨go9, 0, none⟩) x4_1.length co9) y164 := (by rw [hw, Ny164.out]; exact HP10.1); clear HP10; replace HO_4 := am (hp_); replace HB := am ((zq68 : Below w.heap.size w w11)); clear hg hw hp_)))
        go_roundg k1
        case measure => have := HK1.out; omega
        case rel => exact ⟨(y164), (wrap64 (x19_1 + 1)), zq2, H', ⟨zq27⟩, ⟨zq51⟩, ⟨zq1⟩⟩
       ·rw [if_neg c8] at H
        exact absurd H zq25
      ·rw [if_neg c7] at H
       exact absurd H zq25
     ·rw [if_neg c6] at H
      have c6b0 : decide (x19_1 < (l0.length : Int)) = false := decide_eq_false c6
      clear c6
      have H' := am H
      clear H
      go_wp2
      repeat (go_quiet (fail); try go_wp2)
      go_loopg [5, 28] k1 (fun kq v5 v28 w' => ∃ (x4_2 : List Int) (x5_2 : List Int) (x28_2 : Int), v28 = .int .i64 x28_2 ∧ Aside0 (spec_alClasses.l1 kq l0 x4_2 x5_2 (l0.length : Int) x28_2 = some (r1, r2)) ∧ Aside0 (kq ≤ k1) ∧ Aside0 (Kd.R (Kd.int .i64) 3 w' w.heap.size (fun k_ => some k_ ≠ (v5 : Value).ownBlock) v162 x4_2) ∧ Aside0 (Kd.R (Kd.int .i64) 3 w' w.heap.size (fun k_ => some k_ ≠ (v162 : Value).ownBlock) v5 x5_2) ∧ Aside0 (Below w.heap.size w w'))
      case atStart => exact ⟨(x4_1), (([] : List Int)), (0), zq2, H', ⟨Nat.le_refl _⟩, ⟨by (with_reducible repeat (first | apply Kd.R_alloc | apply Kd.R_drewN | apply Kd.R_drew)); exact Kd.R_mono HO_4.out (fun _ hk => (by simp [Value.ownBlock]))⟩, ⟨by first | exact Kd.R_nil _ _ _ _ _ | exact Kd.N_nil _ _ _ _ _ | exact Kd.V_nil _ _ _ _ _ | exact Kd.Q_nil _ _ _ _ _ | exact Kd.S_nil _ _ _ _ _⟩, ⟨zq1⟩⟩
      case round =>
       clear H'
       try clear c1
       try clear c2
       try clear c2b0
       try clear c2b1
       try clear p2
       try clear c3
       try clear c3b0
       try clear c3b1
       try clear c6
       try clear c6b0
       try clear p6
       try clear c7
       try clear c7b0
       try clear c8
       try clear c8b0
       try clear p9
       try clear q9
       try clear hx9
       try clear hf9
       try clear hx9_0
       try clear p2
       try clear p9
       try clear q9
       obtain ⟨x4_2, x5_2, x28_2, rfl, HA, HK2, HO_4, HO_5, HB⟩ := hrel
       cases gk with
       | zero => exact absurd HA.out (by simp [spec_alClasses.l1])
       | succ k2 =>
        have H := HA.out
        clear HA
        simp only [spec_alClasses.l1] at H
        by_cases c12 : x28_2 < (l0.length : Int)
        ·rw [if_pos c12] at H
         have c12b0 : decide (x28_2 < (l0.length : Int)) = true := decide_eq_true c12
         clear c12
         by_cases c13 : 0 ≤ x28_2
         ·rw [if_pos c13] at H
          have c13b0 : decide (0 ≤ x28_2) = true := decide_eq_true c13
          clear c13
          by_cases c14 : x28_2 < (x4_2.length : Int)
          ·rw [if_pos c14] at H
           have c14b0 : decide (x28_2 < (x4_2.length : Int)) = true := decide_eq_true c14
           clear c14
           by_cases c15 : (rd x4_2 x28_2) ≥ 0
           ·rw [if_pos c15] at H
            have c15b0 : decide (0 ≤ (rd x4_2 x28_2)) = true := decide_eq_true c15
            clear c15
            have H' := am H
            clear H
            obtain ⟨Ao16, co16, eo16⟩ := Kd.R_slice HO_4.out
            subst eo16
            have p165 : 0 ≤ (x28_2 : Int) := of_decide_eq_true zq0
            have q165 : x28_2 < (x4_2.length : Int) := of_decide_eq_true zq0
            obtain ⟨ad165, e165, hx165_0⟩ := Kd.at_int (Kd.R_reads' HO_4.out).2.2 x28_2 p165 q165
            cases e165
            replace p165 := eq_true p165
            replace q165 := eq_true q165
            go_wp2
            repeat (go_quiet (fail); try go_wp2)
            go_roundg k2
            case measure => have := HK1.out; have := HK2.out; omega
            case rel => exact ⟨(x4_2), (x5_2), (wrap64 (x28_2 + 1)), zq2, H', ⟨zq70⟩, ⟨zq51⟩, ⟨by (with_reducible repeat (first | apply Kd.R_alloc | apply Kd.R_drewN | apply Kd.R_drew)); exact HO_5.out⟩, ⟨zq1⟩⟩
           ·rw [if_neg c15] at H
            have c15b0 : decide (0 ≤ (rd x4_2 x28_2)) = false := decide_eq_false c15
            clear c15
            obtain ⟨y166, hy166⟩ : ∃ y_ : List Int, y_ = (x4_2.set (x28_2 : Int).toNat (x5_2.length : Int)) := ⟨_, rfl⟩
            replace H : (spec_alClasses.l2 k2 l0 y166 x5_2 x28_2 (([x28_2] : List Int)) 0 (l0.length : Int) x28_2) = some (r1, r2) := by first | (rw [hy166]; exact zH) | exact zH
            have Ny166 := am hy166
            clear hy166
            obtain ⟨y167, hy167⟩ : ∃ y_ : List Int, y_ = (([x28_2] : List Int)) := ⟨_, rfl⟩
            replace H : (spec_alClasses.l2 k2 l0 y166 x5_2 x28_2 y167 0 (l0.length : Int) x28_2) = some (r1, r2) := by first | (rw [hy167]; exact zH) | exact zH
            have Ny167 := am hy167
            clear hy167
            have H' := am H
            clear H
            obtain ⟨Ao18, co18, eo18⟩ := Kd.R_slice HO_4.out
            subst eo18
            have p165 : 0 ≤ (x28_2 : Int) := of_decide_eq_true zq0
            have q165 : x28_2 < (x4_2.length : Int) := of_decide_eq_true zq0
            obtain ⟨ad165, e165, hx165_0⟩ := Kd.at_int (Kd.R_reads' HO_4.out).2.2 x28_2 p165 q165
            cases e165
            replace p165 := eq_true p165
            replace q165 := eq_true q165
            obtain ⟨Ao19, co19, eo19⟩ := Kd.R_slice HO_5.out
            subst eo19
            have p17 : 0 ≤ (x28_2 : Int) := of_decide_eq_true zq0
            have q17 : (x28_2 : Int) < ((x4_2.length : Int) : Int) := of_decide_eq_true zq0
            obtain ⟨go17, co17, eo17, gb17, gl17, cl17, HG17⟩ := Kd.R_form HO_4.out zq11
            (first | cases eo17 | (injection eo17 with ea_ en_ ec_; (first | subst ea_ | (injection ea_ with ea_; subst ea_)); subst ec_; clear en_))
            have GB17 := am gb17
            have GG17 := am HG17
            clear gb17 gl17 HG17
            (first | simp only [add_plain] at hx165_0 | skip)
            obtain ⟨hx17_0, hf17_0⟩ := Kd.R_celln 0 HO_4.out (x28_2 : Int) p17 q17
            replace p17 := eq_true p17
            replace q17 := eq_true q17
            have HP20 := Kd.R_putg HO_4.out (x28_2 : Int) (x5_2.length : Int)
            go_wp2_with (first | ((with_reducible refine gate_store (t := 3) (p := 40) rfl ?_); (try (rw [drewN_self wr]; generalize hq_ : World.drewN wr _ = wr; replace HO_4 := am (Kd.R_at hq_ HO_4.out); replace HO_5 := am (Kd.R_at hq_ HO_5.out); replace HB := am (below_at hq_ HB.out); clear hq_; (try (have HP20 := Kd.R_putg HO_4.out (x28_2 : Int) (x5_2.length : Int))))); refine store_event (t := 3) (p := 40) (v := ?vo_w21) (w1 := (wr.setCell ⟨go17, (x28_2 : Int).toNat, none⟩ (.int .i64 (x5_2.length : Int)))) ?hg ?ho ?hn ?hr ?_; (case ho => rfl); (case hg => rfl); (case hn => rfl); (case hr => exact zq10); intro w21 hw; have hg : wr.grownBy w21 (some go17) := (by rw [hw]; exact HP20.2); have hp_ : Kd.R (Kd.int .i64) 3 w21 w.heap.size (fun k_ => some k_ ≠ (.slice Ao19 x5_2.length co19 : Value).ownBlock) (.slice (some ⟨go17, 0, none⟩) x4_2.length co18) y166 := (by rw [hw, Ny166.out]; exact HP20.1); clear HP20; replace HO_4 := am (hp_); replace HO_5 := am (Kd.R_after (v := (.slice (some ⟨go17, 0, none⟩) x4_2.length co18)) (v1 := (.slice (some ⟨go17, 0, none⟩) x4_2.length co18)) (ok := (fun _ => True)) zq53 hg (.inl rfl)); replace HB := am ((zq67 : Below w.heap.size w w21)); clear hg hw hp_) | ((with_reducible refine gate_dst (N := 42) rfl ?_); refine Kd.R_lit (Kd.int .i64) _ 3 ?hg (N := 42) ?hd (xs := ([x28_2] : List Int)) (inner := [.int .i64 x28_2]) (ok := fun _ => True) (okp := fun _ => True) ?hr ?hp (fun _ hk => hk) trivial (Below.refl _ _) (Nat.le_refl _) zq25 ?_; (case hd => rfl); (case hg => rfl); (case hr => exact zq10); (case hp => exact zq75); intro v168 w22 ho23 hb hg_ hnew_; clear hg_ hnew_; (first | rw [← Ny167.out] at ho23 | (simp only [Int.reduceToNat] at ho23; rw [← Ny167.out] at ho23)); have HO169 := am (Kd.R_lower (Kd.R_new' (Kd.R_new' ho23 (Kd.R_lt (pRq2 HO_4))) (Kd.R_lt (pRq2 HO_5))) (below_size (pBq2 HB))); replace HO_4 := am (Kd.R_elder' (pRq2 HO_4) (Kd.R_base ho23) hb); replace HO_5 := am (Kd.R_elder' (pRq2 HO_5) (Kd.R_base ho23) hb); replace HB := am (below_step (pBq2 HB) hb); clear hb ho23))
            repeat (go_quiet (first | ((with_reducible refine gate_store (t := 3) (p := 40) rfl ?_); (try (rw [drewN_self wr]; generalize hq_ : World.drewN wr _ = wr; replace HO_4 := am (Kd.R_at hq_ HO_4.out); replace HO_5 := am (Kd.R_at hq_ HO_5.out); replace HB := am (below_at hq_ HB.out); clear hq_; (try (have HP20 := Kd.R_putg HO_4.out (x28_2 : Int) (x5_2.length : Int))))); refine store_event (t := 3) (p := 40) (v := ?vo_w21) (w1 := (wr.setCell ⟨go17, (x28_2 : Int).toNat, none⟩ (.int .i64 (x5_2.length : Int)))) ?hg ?ho ?hn ?hr ?_; (case ho => rfl); (case hg => rfl); (case hn => rfl); (case hr => exact zq10); intro w21 hw; have hg : wr.grownBy w21 (some go17) := (by rw [hw]; exact HP20.2); have hp_ : Kd.R (Kd.int .i64) 3 w21 w.heap.size (fun k_ => some k_ ≠ (.slice Ao19 x5_2.length co19 : Value).ownBlock) (.slice (some ⟨go17, 0, none⟩) x4_2.length co18) y166 := (by rw [hw, Ny166.out]; exact HP20.1); clear HP20; replace HO_4 := am (hp_); replace HO_5 := am (Kd.R_after (v := (.slice (some ⟨go17, 0, none⟩) x4_2.length co18)) (v1 := (.slice (some ⟨go17, 0, none⟩) x4_2.length co18)) (ok := (fun _ => True)) zq53 hg (.inl rfl)); replace HB := am ((zq67 : Below w.heap.size w w21)); clear hg hw hp_) | ((with_reducible refine gate_dst (N := 42) rfl ?_); refine Kd.R_lit (Kd.int .i64) _ 3 ?hg (N := 42) ?hd (xs := ([x28_2] : List Int)) (inner := [.int .i64 x28_2]) (ok := fun _ => True) (okp := fun _ => True) ?hr ?hp (fun _ hk => hk) trivial (Below.refl _ _) (Nat.le_refl _) zq25 ?_; (case hd => rfl); (case hg => rfl); (case hr => exact zq10); (case hp => exact zq75); intro v168 w22 ho23 hb hg_ hnew_; clear hg_ hnew_; (first | rw [← Ny167.out] at ho23 | (simp only [Int.reduceToNat] at ho23; rw [← Ny167.out] at ho23)); have HO169 := am (Kd.R_lower (Kd.R_new' (Kd.R_new' ho23 (Kd.R_lt (pRq2 HO_4))) (Kd.R_lt (pRq2 HO_5))) (below_size (pBq2 HB))); replace HO_4 := am (Kd.R_elder' (pRq2 HO_4) (Kd.R_base ho23) hb); replace HO_5 := am (Kd.R_elder' (pRq2 HO_5) (Kd.R_base ho23) hb); replace HB := am (below_step (pBq2 HB) hb); clear hb ho23)); try go_wp2_with (first | ((with_reducible refine gate_store (t := 3) (p := 40) rfl ?_); (try (rw [drewN_self wr]; generalize hq_ : World.drewN wr _ = wr; replace HO_4 := am (Kd.R_at hq_ HO_4.out); replace HO_5 := am (Kd.R_at hq_ HO_5.out); replace HB := am (below_at hq_ HB.out); clear hq_; (try (have HP20 := Kd.R_putg HO_4.out (x28_2 : Int) (x5_2.length : Int))))); refine store_event (t := 3) (p := 40) (v := ?vo_w21) (w1 := (wr.setCell ⟨go17, (x28_2 : Int).toNat, none⟩ (.int .i64 (x5_2.length : Int)))) ?hg ?ho ?hn ?hr ?_; (case ho => rfl); (case hg => rfl); (case hn => rfl); (case hr => exact zq10); intro w21 hw; have hg : wr.grownBy w21 (some go17) := (by rw [hw]; exact HP20.2); have hp_ : Kd.R (Kd.int .i64) 3 w21 w.heap.size (fun k_ => some k_ ≠ (.slice Ao19 x5_2.length co19 : Value).ownBlock) (.slice (some ⟨go17, 0, none⟩) x4_2.length co18) y166 := (by rw [hw, Ny166.out]; exact HP20.1); clear HP20; replace HO_4 := am (hp_); replace HO_5 := am (Kd.R_after (v := (.slice (some ⟨go17, 0, none⟩) x4_2.length co18)) (v1 := (.slice (some ⟨go17, 0, none⟩) x4_2.length co18)) (ok := (fun _ => True)) zq53 hg (.inl rfl)); replace HB := am ((zq67 : Below w.heap.size w w21)); clear hg hw hp_) | ((with_reducible refine gate_dst (N := 42) rfl ?_); refine Kd.R_lit (Kd.int .i64) _ 3 ?hg (N := 42) ?hd (xs := ([x28_2] : List Int)) (inner := [.int .i64 x28_2]) (ok := fun _ => True) (okp := fun _ => True) ?hr ?hp (fun _ hk => hk) trivial (Below.refl _ _) (Nat.le_refl _) zq25 ?_; (case hd => rfl); (case hg => rfl); (case hr => exact zq10); (case hp => exact zq75); intro v168 w22 ho23 hb hg_ hnew_; clear hg_ hnew_; (first | rw [← Ny167.out] at ho23 | (simp only [Int.reduceToNat] at ho23; rw [← Ny167.out] at ho23)); have HO169 := am (Kd.R_lower (Kd.R_new' (Kd.R_new' ho23 (Kd.R_lt (pRq2 HO_4))) (Kd.R_lt (pRq2 HO_5))) (below_size (pBq2 HB))); replace HO_4 := am (Kd.R_elder' (pRq2 HO_4) (Kd.R_base ho23) hb); replace HO_5 := am (Kd.R_elder' (pRq2 HO_5) (Kd.R_base ho23) hb); replace HB := am (below_step (pBq2 HB) hb); clear hb ho23)))
            go_loopg [8, 9] k2 (fun kq v8 v9 w' => ∃ (x4_3 : List Int) (x5_3 : List Int) (x8_3 : List Int) (x9_3 : Int), v9 = .int .i64 x9_3 ∧ Aside0 (spec_alClasses.l2 kq l0 x4_3 x5_3 x28_2 x8_3 x9_3 (l0.length : Int) x28_2 = some (r1, r2)) ∧ Aside0 (kq ≤ k2) ∧ Aside0 (Kd.R (Kd.int .i64) 3 w' w.heap.size (fun k_ => some k_ ≠ ((.slice Ao19 x5_2.length co19) : Value).ownBlock ∧ some k_ ≠ (v8 : Value).ownBlock) (.slice (some ⟨go17, 0, none⟩) x4_2.length co18) x4_3) ∧ Aside0 (Kd.R (Kd.int .i64) 3 w' w.heap.size (fun k_ => some k_ ≠ ((.slice (some ⟨go17, 0, none⟩) x4_2.length co18) : Value).ownBlock ∧ some k_ ≠ (v8 : Value).ownBlock) (.slice Ao19 x5_2.length co19) x5_3) ∧ Aside0 (Kd.R (Kd.int .i64) 3 w' w.heap.size (fun k_ => some k_ ≠ ((.slice (some ⟨go17, 0, none⟩) x4_2.length co18) : Value).ownBlock ∧ some k_ ≠ ((.slice Ao19 x5_2.length co19) : Value).ownBlock) v8 x8_3) ∧ Aside0 (Below w.heap.size w w'))
            case atStart => exact ⟨(y166), (x5_2), (y167), (0), zq2, H', ⟨Nat.le_refl _⟩, ⟨zq51⟩, ⟨by (with_reducible repeat (first | apply Kd.R_alloc | apply Kd.R_drewN | apply Kd.R_drew)); exact Kd.R_mono HO_5.out (fun _ hk => ⟨hk.1.2, hk.2⟩)⟩, ⟨by (with_reducible repeat (first | apply Kd.R_alloc | apply Kd.R_drewN | apply Kd.R_drew)); exact Kd.R_mono HO169.out (fun _ hk => ⟨hk.1.2, hk.2⟩)⟩, ⟨zq1⟩⟩
            case round =>
             clear H'
             try clear c1
             try clear p1
             try clear q1
             try clear hx1
             try clear hf1
             try clear c2
             try clear c2b0
             try clear c2b1
             try clear p2
             try clear c3
             try clear c3b0
             try clear c3b1
             try clear c6
             try clear c6b0
             try clear p6
             try clear c7
             try clear c7b0
             try clear c8
             try clear c8b0
             try clear p9
             try clear q9
             try clear hx9
             try clear hf9
             try clear c12
             try clear c12b0
             try clear c13
             try clear c13b0
             try clear c14
             try clear c14b0
             try clear c15
             try clear c15b0
             try clear p16
             try clear q16
             try clear hx16
             try clear c17
             try clear p17
             try clear q17
             try clear hx17
             try clear hf17
             try clear hx165_0
             try clear hx17_0
             try clear hx9_0
             try clear p165
             try clear p17
             try clear p2
             try clear p6
             try clear p9
             try clear q165
             try clear q17
             try clear q9
             obtain ⟨x4_3, x5_3, x8_3, x9_3, rfl, HA, HK3, HO_4, HO_5, HO_8, HB⟩ := hrel
             have hl4_3 := (Kd.R_reads' HO_4.out).1
             rw [hl4_3] at HO_4
             (try simp only [hl4_3])
             (try simp only [hl4_3] at HO_5)
             (try simp only [hl4_3] at HO_8)
             have hl5_3 := (Kd.R_reads' HO_5.out).1
             rw [hl5_3] at HO_5
             (try simp only [hl5_3])
             (try simp only [hl5_3] at HO_4)
             (try simp only [hl5_3] at HO_8)
             cases gk with
             | zero => exact absurd HA.out (by simp [spec_alClasses.l2])
             | succ k3 =>
              have H := HA.out
              clear HA
              simp only [spec_alClasses.l2] at H
              by_cases c24 : x9_3 < (x8_3.length : Int)
              ·rw [if_pos c24] at H
               have c24b0 : decide (x9_3 < (x8_3.length : Int)) = true := decide_eq_true c24
               clear c24
               by_cases c25 : 0 ≤ x9_3
               ·rw [if_pos c25] at H
                have c25b0 : decide (0 ≤ x9_3) = true := decide_eq_true c25
                clear c25
                by_cases c26 : 0 ≤ (rd x8_3 x9_3)
                ·rw [if_pos c26] at H
                 have c26b0 : decide (0 ≤ (rd x8_3 x9_3)) = true := decide_eq_true c26
                 clear c26
                 by_cases c27 : (rd x8_3 x9_3) < (l0.length : Int)
                 ·rw [if_pos c27] at H
                  have c27b0 : decide ((rd x8_3 x9_3) < (l0.length : Int)) = true := decide_eq_true c27
                  clear c27
                  have H' := am H
                  clear H
                  obtain ⟨Ao28, co28, eo28⟩ := Kd.R_slice HO_8.out
                  subst eo28
                  have p173 : 0 ≤ (x9_3 : Int) := of_decide_eq_true zq0
                  have q173 : x9_3 < (x8_3.length : Int) := of_decide_eq_true zq0
                  obtain ⟨ad173, e173, hx173_0⟩ := Kd.at_int (Kd.R_reads' HO_8.out).2.2 x9_3 p173 q173
                  cases e173
                  replace p173 := eq_true p173
                  replace q173 := eq_true q173
                  have p174 : 0 ≤ ((rd x8_3 x9_3) : Int) := of_decide_eq_true zq0
                  have q174 : (rd x8_3 x9_3) < (l0.length : Int) := of_decide_eq_true zq0
                  obtain ⟨ad174, A174_0, c174_0, e174, hx174_0, hl174_0, hi174_0⟩ := at_L1 HR0.out (rd x8_3 x9_3) p174 q174
                  cases e174
                  replace hx174_0 := (HB.out.cell (World.block_lt_of_cell? w _ hx174_0)).trans hx174_0
                  have HR174_0 := am hi174_0
                  have HC174_0 := am hl174_0
                  clear hi174_0 hl174_0
                  replace p174 := eq_true p174
                  replace q174 := eq_true q174
                  go_wp2
                  repeat (go_quiet (fail); try go_wp2)
                  go_loopg [8, 11] k3 (fun kq v8 v11 w' => ∃ (x4_4 : List Int) (x5_4 : List Int) (x8_4 : List Int) (x11_4 : Int), v11 = .int .i64 x11_4 ∧ Aside0 (spec_alClasses.l3 kq l0 x4_4 x5_4 x28_2 x8_4 x9_3 (rd_L1 l0 (rd x8_3 x9_3)) x11_4 (l0.length : Int) x28_2 = some (r1, r2)) ∧ Aside0 (kq ≤ k3) ∧ Aside0 (Kd.R (Kd.int .i64) 3 w' w.heap.size (fun k_ => some k_ ≠ ((.slice Ao19 x5_3.length co19) : Value).ownBlock ∧ some k_ ≠ (v8 : Value).ownBlock) (.slice (some ⟨go17, 0, none⟩) x4_3.length co18) x4_4) ∧ Aside0 (Kd.R (Kd.int .i64) 3 w' w.heap.size (fun k_ => some k_ ≠ ((.slice (some ⟨go17, 0, none⟩) x4_3.length co18) : Value).ownBlock ∧ some k_ ≠ (v8 : Value).ownBlock) (.slice Ao19 x5_3.length co19) x5_4) ∧ Aside0 (Kd.R (Kd.int .i64) 3 w' w.heap.size (fun k_ => some k_ ≠ ((.slice (some ⟨go17, 0, none⟩) x4_3.length co18) : Value).ownBlock ∧ some k_ ≠ ((.slice Ao19 x5_3.length co19) : Value).ownBlock) v8 x8_4) ∧ Aside0 (Below w.heap.size w w'))
                  case atStart => exact ⟨(x4_3), (x5_3), (x8_3), (0), zq2, H', ⟨Nat.le_refl _⟩, ⟨by (try simp only [hl4_3]); (try simp only [hl5_3]); (with_reducible repeat (first | apply Kd.R_alloc | apply Kd.R_drewN | apply Kd.R_drew)); exact HO_4.out⟩, ⟨by (try simp only [hl4_3]); (try simp only [hl5_3]); (with_reducible repeat (first | apply Kd.R_alloc | apply Kd.R_drewN | apply Kd.R_drew)); exact HO_5.out⟩, ⟨by (try simp only [hl4_3]); (try simp only [hl5_3]); (with_reducible repeat (first | apply Kd.R_alloc | apply Kd.R_drewN | apply Kd.R_drew)); exact HO_8.out⟩, ⟨zq1⟩⟩
                  case round =>
                   clear H'
                   try clear c1
                   try clear p1
                   try clear q1
                   try clear hx1
                   try clear hf1
                   try clear c2
                   try clear c2b0
                   try clear c2b1
                   try clear p2
                   try clear c3
                   try clear c3b0
                   try clear c3b1
                   try clear c6
                   try clear c6b0
                   try clear p6
                   try clear c7
                   try clear c7b0
                   try clear c8
                   try clear c8b0
                   try clear p9
                   try clear q9
                   try clear hx9
                   try clear hf9
                   try clear c12
                   try clear c12b0
                   try clear c13
                   try clear c13b0
                   try clear c14
                   try clear c14b0
                   try clear c15
                   try clear c15b0
                   try clear p16
                   try clear q16
                   try clear hx16
                   try clear c17
                   try clear p17
                   try clear q17
                   try clear hx17
                   try clear hf17
                   try clear c24
                   try clear c24b0
                   try clear c25
                   try clear c25b0
                   try clear c26
                   try clear c26b0
                   try clear c27
                   try clear c27b0
                   try clear hx165_0
                   try clear hx173_0
                   try clear hx174_0
                   try clear hx17_0
                   try clear hx9_0
                   try clear p1
                   try clear p16
                   try clear p165
                   try clear p17
                   try clear p173
                   try clear p174
                   try clear p2
                   try clear p6
                   try clear p9
                   try clear q1
                   try clear q16
                   try clear q165
                   try clear q17
                   try clear q173
                   try clear q174
                   try clear q9
                   obtain ⟨x4_4, x5_4, x8_4, x11_4, rfl, HA, HK4, HO_4, HO_5, HO_8, HB⟩ := hrel
                   have hl4_4 := (Kd.R_reads' HO_4.out).1
                   rw [hl4_4] at HO_4
                   (try simp only [hl4_4])
                   (try simp only [hl4_4] at HO_5)
                   (try simp only [hl4_4] at HO_8)
                   have hl5_4 := (Kd.R_reads' HO_5.out).1
                   rw [hl5_4] at HO_5
                   (try simp only [hl5_4])
                   (try simp only [hl5_4] at HO_4)
                   (try simp only [hl5_4] at HO_8)
                   cases gk with
                   | zero => exact absurd HA.out (by simp [spec_alClasses.l3])
                   | succ k4 =>
                    have H := HA.out
                    clear HA
                    simp only [spec_alClasses.l3] at H
                    by_cases c29 : (wrap64 (x11_4 + 1)) < ((rd_L1 l0 (rd x8_3 x9_3)).length : Int)
                    ·rw [if_pos c29] at H
                     have c29b0 : decide ((wrap64 (x11_4 + 1)) < ((rd_L1 l0 (rd x8_3 x9_3)).length : Int)) = true := decide_eq_true c29
                     clear c29
                     by_cases c30 : 0 ≤ x11_4
                     ·rw [if_pos c30] at H
                      have c30b0 : decide (0 ≤ x11_4) = true := decide_eq_true c30
                      clear c30
                      by_cases c31 : x11_4 < ((rd_L1 l0 (rd x8_3 x9_3)).length : Int)
                      ·rw [if_pos c31] at H
                       have c31b0 : decide (x11_4 < ((rd_L1 l0 (rd x8_3 x9_3)).length : Int)) = true := decide_eq_true c31
                       clear c31
                       obtain ⟨ji32, hji32⟩ : ∃ j_ : Int, (wrap64 (x11_4 + 1)) = j_ := ⟨_, rfl⟩
                       replace H : (if 0 ≤ (ji32) then ((spec_l1Abs.f (wrap64 ((rd (rd_L1 l0 (rd x8_3 x9_3)) x11_4) - (rd (rd_L1 l0 (rd x8_3 x9_3)) (ji32))))).bind fun t177 => (if t177 < 2 then (spec_alClasses.l3 k4 l0 x4_4 x5_4 x28_2 x8_4 x9_3 (rd_L1 l0 (rd x8_3 x9_3)) ji32 (l0.length : Int) x28_2) else ((spec_l1Own.f (rd_L1 l0 (rd x8_3 x9_3))).bind fun t178 => (if x11_4 < (t178.length : Int) then (if (ji32) < (t178.length : Int) then ((spec_alPlace.f k4 l0 ((t178.set (x11_4 : Int).toNat (rd (rd_L1 l0 (rd x8_3 x9_3)) (ji32))).set ((ji32) : Int).toNat (rd (rd_L1 l0 (rd x8_3 x9_3)) x11_4))).bind fun t185 => (if 0 ≤ t185 then (if t185 < (x4_4.length : Int) then (if (rd x4_4 t185) < 0 then (if 0 ≤ x28_2 then (if x28_2 < (x4_4.length : Int) then (if x8_4.length < 17592186044416 then (spec_alClasses.l3 k4 l0 (x4_4.set (t185 : Int).toNat (rd x4_4 x28_2)) x5_4 x28_2 (x8_4 ++ [t185]) x9_3 (rd_L1 l0 (rd x8_3 x9_3)) ji32 (l0.length : Int) x28_2) else (none)) else (none)) else (none)) else (spec_alClasses.l3 k4 l0 x4_4 x5_4 x28_2 x8_4 x9_3 (rd_L1 l0 (rd x8_3 x9_3)) ji32 (l0.length : Int) x28_2)) else (none)) else (none))) else (none)) else (none))))) else (none)) = some (r1, r2) := by first | (rw [hji32] at H; exact H) | (simp only [hji32] at H ⊢; exact H)
                       (try rw [hji32] at c29b0)
                       have hji32w : (IntKind.i64.wrap (x11_4 + 1)) = ji32 := (i64_w _).trans hji32
                       by_cases c33 : 0 ≤ (ji32)
                       ·rw [if_pos c33] at H
                        have c33b0 : decide (0 ≤ (ji32)) = true := decide_eq_true c33
                        clear c33
                        obtain ⟨t177, A34, H⟩ := zS H
                        (try dsimp only at H)
                        by_cases c35 : t177 < 2
                        ·rw [if_pos c35] at H
                         have c35b0 : decide (t177 < 2) = true := decide_eq_true c35
                         clear c35
                         have H' := am H
                         clear H
                         have p175 : 0 ≤ (x11_4 : Int) := of_decide_eq_true zq0
                         have q175 : x11_4 < ((rd_L1 l0 (rd x8_3 x9_3)).length : Int) := of_decide_eq_true zq0
                         obtain ⟨ad175, e175, hx175_0⟩ := Kd.at_int HR174_0.out x11_4 p175 q175
                         cases e175
                         replace hx175_0 := (HB.out.cell (World.block_lt_of_cell? w _ hx175_0)).trans hx175_0
                         replace p175 := eq_true p175
                         replace q175 := eq_true q175
                         have p176 : 0 ≤ ((ji32) : Int) := of_decide_eq_true zq0
                         have q176 : (ji32) < ((rd_L1 l0 (rd x8_3 x9_3)).length : Int) := of_decide_eq_true zq0
                         obtain ⟨ad176, e176, hx176_0⟩ := Kd.at_int HR174_0.out (ji32) p176 q176
                         obtain rfl : ad175 = ad176 := (by injection e176)
                         replace hx176_0 := (HB.out.cell (World.block_lt_of_cell? w _ hx176_0)).trans hx176_0
                         replace p176 := eq_true p176
                         replace q176 := eq_true q176
                         go_wp2_with (first | (go_at_call 24; (with_reducible refine (spec_l1Abs.calls (wrap64 ((rd (rd_L1 l0 (rd x8_3 x9_3)) x11_4) - (rd (rd_L1 l0 (rd x8_3 x9_3)) (ji32)))) t177 _ A34.out).mono ?_); rintro e w' ⟨rfl, ⟨nd, rfl⟩⟩; (try first | exact ⟨rfl, _, World.drewN_drewN _ _ _⟩ | exact ⟨rfl, _, Eq.trans (World.drewN_drewN _ _ _) (congrArg (World.drewN _) (Nat.add_assoc _ _ _))⟩)))
                         repeat (go_quiet (first | (go_at_call 24; (with_reducible refine (spec_l1Abs.calls (wrap64 ((rd (rd_L1 l0 (rd x8_3 x9_3)) x11_4) - (rd (rd_L1 l0 (rd x8_3 x9_3)) (ji32)))) t177 _ A34.out).mono ?_); rintro e w' ⟨rfl, ⟨nd, rfl⟩⟩; (try first | exact ⟨rfl, _, World.drewN_drewN _ _ _⟩ | exact ⟨rfl, _, Eq.trans (World.drewN_drewN _ _ _) (congrArg (World.drewN _) (Nat.add_assoc _ _ _))⟩))); try go_wp2_with (first | (go_at_call 24; (with_reducible refine (spec_l1Abs.calls (wrap64 ((rd (rd_L1 l0 (rd x8_3 x9_3)) x11_4) - (rd (rd_L1 l0 (rd x8_3 x9_3)) (ji32)))) t177 _ A34.out).mono ?_); rintro e w' ⟨rfl, ⟨nd, rfl⟩⟩; (try first | exact ⟨rfl, _, World.drewN_drewN _ _ _⟩ | exact ⟨rfl, _, Eq.trans (World.drewN_drewN _ _ _) (congrArg (World.drewN _) (Nat.add_assoc _ _ _))⟩))))
                         (try simp only [← hl4_4, ← hl5_4])
                         go_roundg k4
                         case measure => have := HK1.out; have := HK2.out; have := HK3.out; have := HK4.out; omega
                         case rel => exact ⟨(x4_4), (x5_4), (x8_4), (ji32), zq69, H', ⟨zq62⟩, ⟨zq66⟩, ⟨zq65⟩, ⟨zq64⟩, ⟨zq1⟩⟩
                        ·rw [if_neg c35] at H
                         have c35b0 : decide (t177 < 2) = false := decide_eq_false c35
                         clear c35
                         obtain ⟨t178, A36, H⟩ := zS H
                         (try dsimp only at H)
                         by_cases c37 : x11_4 < (t178.length : Int)
                         ·rw [if_pos c37] at H
                          have c37b0 : decide (x11_4 < (t178.length : Int)) = true := decide_eq_true c37
                          clear c37
                          obtain ⟨y182, hy182⟩ : ∃ y_ : List Int, y_ = (t178.set (x11_4 : Int).toNat (rd (rd_L1 l0 (rd x8_3 x9_3)) (ji32))) := ⟨_, rfl⟩
                          replace H : (if (ji32) < (t178.length : Int) then ((spec_alPlace.f k4 l0 (y182.set ((ji32) : Int).toNat (rd (rd_L1 l0 (rd x8_3 x9_3)) x11_4))).bind fun t185 => (if 0 ≤ t185 then (if t185 < (x4_4.length : Int) then (if (rd x4_4 t185) < 0 then (if 0 ≤ x28_2 then (if x28_2 < (x4_4.length : Int) then (if x8_4.length < 17592186044416 then (spec_alClasses.l3 k4 l0 (x4_4.set (t185 : Int).toNat (rd x4_4 x28_2)) x5_4 x28_2 (x8_4 ++ [t185]) x9_3 (rd_L1 l0 (rd x8_3 x9_3)) ji32 (l0.length : Int) x28_2) else (none)) else (none)) else (none)) else (spec_alClasses.l3 k4 l0 x4_4 x5_4 x28_2 x8_4 x9_3 (rd_L1 l0 (rd x8_3 x9_3)) ji32 (l0.length : Int) x28_2)) else (none)) else (none))) else (none)) = some (r1, r2) := by first | (rw [hy182]; exact zH) | exact zH
                          have Ny182 := am hy182
                          clear hy182
                          by_cases c39 : (ji32) < (t178.length : Int)
                          ·rw [if_pos c39] at H
                           have c39b0 : decide ((ji32) < (t178.length : Int)) = true := decide_eq_true c39
                           clear c39
                           obtain ⟨y184, hy184⟩ : ∃ y_ : List Int, y_ = (y182.set ((ji32) : Int).toNat (rd (rd_L1 l0 (rd x8_3 x9_3)) x11_4)) := ⟨_, rfl⟩
                           replace H : ((spec_alPlace.f k4 l0 y184).bind fun t185 => (if 0 ≤ t185 then (if t185 < (x4_4.length : Int) then (if (rd x4_4 t185) < 0 then (if 0 ≤ x28_2 then (if x28_2 < (x4_4.length : Int) then (if x8_4.length < 17592186044416 then (spec_alClasses.l3 k4 l0 (x4_4.set (t185 : Int).toNat (rd x4_4 x28_2)) x5_4 x28_2 (x8_4 ++ [t185]) x9_3 (rd_L1 l0 (rd x8_3 x9_3)) ji32 (l0.length : Int) x28_2) else (none)) else (none)) else (none)) else (spec_alClasses.l3 k4 l0 x4_4 x5_4 x28_2 x8_4 x9_3 (rd_L1 l0 (rd x8_3 x9_3)) ji32 (l0.length : Int) x28_2)) else (none)) else (none))) = some (r1, r2) := by first | (rw [hy184]; exact zH) | exact zH
                           have Ny184 := am hy184
                           clear hy184
                           obtain ⟨t185, A41, H⟩ := zS H
                           (try dsimp only at H)
                           by_cases c42 : 0 ≤ t185
                           ·rw [if_pos c42] at H
                            have c42b0 : decide (0 ≤ t185) = true := decide_eq_true c42
                            clear c42
                            by_cases c43 : t185 < (x4_4.length : Int)
                            ·rw [if_pos c43] at H
                             have c43b0 : decide (t185 < (x4_4.length : Int)) = true := decide_eq_true c43
                             clear c43
                             by_cases c44 : (rd x4_4 t185) < 0
                             ·rw [if_pos c44] at H
                              have c44b0 : decide ((rd x4_4 t185) < 0) = true := decide_eq_true c44
                              clear c44
                              by_cases c45 : 0 ≤ x28_2
                              ·rw [if_pos c45] at H
                               have c45b0 : decide (0 ≤ x28_2) = true := decide_eq_true c45
                               clear c45
                               by_cases c46 : x28_2 < (x4_4.length : Int)
                               ·rw [if_pos c46] at H
                                have c46b0 : decide (x28_2 < (x4_4.length : Int)) = true := decide_eq_true c46
                                clear c46
                                obtain ⟨y188, hy188⟩ : ∃ y_ : List Int, y_ = (x4_4.set (t185 : Int).toNat (rd x4_4 x28_2)) := ⟨_, rfl⟩
                                replace H : (if x8_4.length < 17592186044416 then (spec_alClasses.l3 k4 l0 y188 x5_4 x28_2 (x8_4 ++ [t185]) x9_3 (rd_L1 l0 (rd x8_3 x9_3)) ji32 (l0.length : Int) x28_2) else (none)) = some (r1, r2) := by first | (rw [hy188]; exact zH) | exact zH
                                have Ny188 := am hy188
                                clear hy188
                                by_cases c48 : x8_4.length < 17592186044416
                                ·rw [if_pos c48] at H
                                 have LMc48 := am c48
                                 clear c48
                                 obtain ⟨y189, hy189⟩ : ∃ y_ : List Int, y_ = (x8_4 ++ [t185]) := ⟨_, rfl⟩
                                 replace H : (spec_alClasses.l3 k4 l0 y188 x5_4 x28_2 y189 x9_3 (rd_L1 l0 (rd x8_3 x9_3)) ji32 (l0.length : Int) x28_2) = some (r1, r2) := by first | (rw [hy189]; exact zH) | exact zH
                                 have Ny189 := am hy189
                                 clear hy189
                                 have H' := am H
                                 clear H
                                 have p175 : 0 ≤ (x11_4 : Int) := of_decide_eq_true zq0
                                 have q175 : x11_4 < ((rd_L1 l0 (rd x8_3 x9_3)).length : Int) := of_decide_eq_true zq0
                                 obtain ⟨ad175, e175, hx175_0⟩ := Kd.at_int HR174_0.out x11_4 p175 q175
                                 cases e175
                                 replace hx175_0 := (HB.out.cell (World.block_lt_of_cell? w _ hx175_0)).trans hx175_0
                                 replace p175 := eq_true p175
                                 replace q175 := eq_true q175
                                 have p176 : 0 ≤ ((ji32) : Int) := of_decide_eq_true zq0
                                 have q176 : (ji32) < ((rd_L1 l0 (rd x8_3 x9_3)).length : Int) := of_decide_eq_true zq0
                                 obtain ⟨ad176, e176, hx176_0⟩ := Kd.at_int HR174_0.out (ji32) p176 q176
                                 obtain rfl : ad175 = ad176 := (by injection e176)
                                 replace hx176_0 := (HB.out.cell (World.block_lt_of_cell? w _ hx176_0)).trans hx176_0
                                 replace p176 := eq_true p176
                                 replace q176 := eq_true q176
                                 go_wp2_with (first | (go_at_call 24; (with_reducible refine (spec_l1Abs.calls (wrap64 ((rd (rd_L1 l0 (rd x8_3 x9_3)) x11_4) - (rd (rd_L1 l0 (rd x8_3 x9_3)) (ji32)))) t177 _ A34.out).mono ?_); rintro e w' ⟨rfl, ⟨nd, rfl⟩⟩; (try first | exact ⟨rfl, _, World.drewN_drewN _ _ _⟩ | exact ⟨rfl, _, Eq.trans (World.drewN_drewN _ _ _) (congrArg (World.drewN _) (Nat.add_assoc _ _ _))⟩)) | (go_at_call 25; (with_reducible refine (spec_l1Own.calls _ _ (rd_L1 l0 (rd x8_3 x9_3)) t178 _ ?side1 ?side2 A36.out).mono ?_); (case side1 => exact zq18); (case side2 => exact HC174_0.out); rintro e w49 ⟨v179, rfl, ho0, hb⟩; have HO180 := am (Kd.R_lower (Kd.R_new' (Kd.R_new' (Kd.R_new' ho0 (Kd.R_lt (pRq2 HO_4))) (Kd.R_lt (pRq2 HO_5))) (Kd.R_lt (pRq2 HO_8))) (below_size (pBq2 HB))); replace HO_4 := am (Kd.R_elder' (pRq2 HO_4) (Kd.R_base ho0) hb); replace HO_5 := am (Kd.R_elder' (pRq2 HO_5) (Kd.R_base ho0) hb); replace HO_8 := am (Kd.R_elder' (pRq2 HO_8) (Kd.R_base ho0) hb); replace HB := am (below_step (pBq2 HB) hb); (try clear hb hk ho0); have p181 : 0 ≤ ((ji32) : Int) := of_decide_eq_true zq0; have q181 : (ji32) < ((rd_L1 l0 (rd x8_3 x9_3)).length : Int) := of_decide_eq_true zq0; obtain ⟨ad181, e181, hx181_0⟩ := Kd.at_int HR174_0.out (ji32) p181 q181; obtain rfl : ad175 = ad181 := (by injection e181); replace hx181_0 := (HB.out.cell (World.block_lt_of_cell? w _ hx181_0)).trans hx181_0; replace p181 := eq_true p181; replace q181 := eq_true q181; have p38 : 0 ≤ (x11_4 : Int) := of_decide_eq_true zq0; have q38 : (x11_4 : Int) < ((t178.length : Int) : Int) := of_decide_eq_true zq0; obtain ⟨go38, co38, eo38, gb38, gl38, cl38, HG38⟩ := Kd.R_form HO180.out zq11; (first | cases eo38 | (injection eo38 with ea_ en_ ec_; (first | subst ea_ | (injection ea_ with ea_; subst ea_)); subst ec_; clear en_)); have GB38 := am gb38; have GG38 := am HG38; clear gb38 gl38 HG38; obtain ⟨hx38_0, hf38_0⟩ := Kd.R_celln 0 HO180.out (x11_4 : Int) p38 q38; replace p38 := eq_true p38; replace q38 := eq_true q38; have n_ := am (Kd.R_mono (ok' := (fun k_ => some k_ ≠ (.slice (some ⟨go17, 0, none⟩) x4_4.length co18 : Value).ownBlock ∧ some k_ ≠ (.slice Ao19 x5_4.length co19 : Value).ownBlock ∧ some k_ ≠ (u8 : Value).ownBlock)) HO180.out (fun k_ hk => ⟨hk.1.1.2, ⟨hk.1.2, hk.2⟩⟩)); clear HO180; have HO180 := n_; clear n_; obtain ⟨hy50_, hz50_⟩ := Kd.R_celln 0 HO180.out (x11_4 : Int) (of_decide_eq_true zq0) (of_decide_eq_true zq0); have HP50 := Kd.R_putg HO180.out (x11_4 : Int) (rd (rd_L1 l0 (rd x8_3 x9_3)) (ji32))) | ((with_reducible refine gate_store (t := 3) (p := 84) rfl ?_); (try (rw [drewN_self w49]; generalize hq_ : World.drewN w49 _ = w49; replace HO_4 := am (Kd.R_at hq_ HO_4.out); replace HO_5 := am (Kd.R_at hq_ HO_5.out); replace HO_8 := am (Kd.R_at hq_ HO_8.out); replace HO180 := am (Kd.R_at hq_ HO180.out); replace HB := am (below_at hq_ HB.out); clear hq_; (try (have n_ := am (Kd.R_mono (ok' := (fun k_ => some k_ ≠ (.slice (some ⟨go17, 0, none⟩) x4_4.length co18 : Value).ownBlock ∧ some k_ ≠ (.slice Ao19 x5_4.length co19 : Value).ownBlock ∧ some k_ ≠ (u8 : Value).ownBlock)) HO180.out (fun k_ hk => ⟨hk.1.1.2, ⟨hk.1.2, hk.2⟩⟩)); clear HO180; have HO180 := n_; clear n_)); (try (obtain ⟨hy50_, hz50_⟩ := Kd.R_celln 0 HO180.out (x11_4 : Int) (of_decide_eq_true zq0) (of_decide_eq_true zq0))); (try (have HP50 := Kd.R_putg HO180.out (x11_4 : Int) (rd (rd_L1 l0 (rd x8_3 x9_3)) (ji32)))))); refine store_event (t := 3) (p := 84) (v := ?vo_w51) (w1 := (w49.setCell ⟨go38, (x11_4 : Int).toNat, none⟩ (.int .i64 (rd (rd_L1 l0 (rd x8_3 x9_3)) (ji32))))) ?hg ?ho ?hn ?hr ?_; (case ho => rfl); (case hg => rfl); (case hn => rfl); (case hr => exact zq10); intro w51 hw; have hg : w49.grownBy w51 (some go38) := (by rw [hw]; exact HP50.2); have hp_ : Kd.R (Kd.int .i64) 3 w51 w.heap.size (fun k_ => some k_ ≠ (.slice (some ⟨go17, 0, none⟩) x4_4.length co18 : Value).ownBlock ∧ some k_ ≠ (.slice Ao19 x5_4.length co19 : Value).ownBlock ∧ some k_ ≠ (u8 : Value).ownBlock) (.slice (some ⟨go38, 0, none⟩) t178.length co38) y182 := (by rw [hw, Ny182.out]; exact HP50.1); clear HP50; replace HO_4 := am (Kd.R_after (v := (.slice (some ⟨go38, 0, none⟩) t178.length co38)) (v1 := (.slice (some ⟨go38, 0, none⟩) t178.length co38)) (ok := (fun k_ => some k_ ≠ (.slice Ao19 x5_4.length co19 : Value).ownBlock ∧ some k_ ≠ (u8 : Value).ownBlock)) (pRq2 HO_4) hg (.inl rfl)); replace HO_5 := am (Kd.R_after (v := (.slice (some ⟨go38, 0, none⟩) t178.length co38)) (v1 := (.slice (some ⟨go38, 0, none⟩) t178.length co38)) (ok := (fun k_ => some k_ ≠ (.slice (some ⟨go17, 0, none⟩) x4_4.length co18 : Value).ownBlock ∧ some k_ ≠ (u8 : Value).ownBlock)) (pRq2 HO_5) hg (.inl rfl)); replace HO_8 := am (Kd.R_after (v := (.slice (some ⟨go38, 0, none⟩) t178.length co38)) (v1 := (.slice (some ⟨go38, 0, none⟩) t178.length co38)) (ok := (fun k_ => some k_ ≠ (.slice (some ⟨go17, 0, none⟩) x4_4.length co18 : Value).ownBlock ∧ some k_ ≠ (.slice Ao19 x5_4.length co19 : Value).ownBlock)) (pRq2 HO_8) hg (.inl rfl)); replace HO180 := am (hp_); replace HB := am ((zq33 : Below w.heap.size w w51)); clear hg hw hp_; have p183 : 0 ≤ (x11_4 : Int) := of_decide_eq_true zq0; have q183 : x11_4 < ((rd_L1 l0 (rd x8_3 x9_3)).length : Int) := of_decide_eq_true zq0; obtain ⟨ad183, e183, hx183_0⟩ := Kd.at_int HR174_0.out x11_4 p183 q183; obtain rfl : ad175 = ad183 := (by injection e183); replace hx183_0 := (HB.out.cell (World.block_lt_of_cell? w _ hx183_0)).trans hx183_0; replace p183 := eq_true p183; replace q183 := eq_true q183; have p40 : 0 ≤ ((ji32) : Int) := of_decide_eq_true zq0; have q40 : ((ji32) : Int) < ((t178.length : Int) : Int) := of_decide_eq_true zq0; obtain ⟨hx40_0, hf40_0⟩ := Kd.R_celln 0 HO180.out ((ji32) : Int) p40 q40; replace p40 := eq_true p40; replace q40 := eq_true q40; obtain ⟨hy52_, hz52_⟩ := Kd.R_celln 0 HO180.out ((ji32) : Int) (of_decide_eq_true zq0) (of_decide_eq_true zq0); have HP52 := Kd.R_putg HO180.out ((ji32) : Int) (rd (rd_L1 l0 (rd x8_3 x9_3)) x11_4)) | ((with_reducible refine gate_store (t := 3) (p := 92) rfl ?_); (try (rw [drewN_self w51]; generalize hq_ : World.drewN w51 _ = w51; replace HO_4 := am (Kd.R_at hq_ HO_4.out); replace HO_5 := am (Kd.R_at hq_ HO_5.out); replace HO_8 := am (Kd.R_at hq_ HO_8.out); replace HO180 := am (Kd.R_at hq_ HO180.out); replace HB := am (below_at hq_ HB.out); clear hq_; (try (obtain ⟨hy52_, hz52_⟩ := Kd.R_celln 0 HO180.out ((ji32) : Int) (of_decide_eq_true zq0) (of_decide_eq_true zq0))); (try (have HP52 := Kd.R_putg HO180.out ((ji32) : Int) (rd (rd_L1 l0 (rd x8_3 x9_3)) x11_4))))); refine store_event (t := 3) (p := 92) (v := ?vo_w53) (w1 := (w51.setCell ⟨go38, ((ji32) : Int).toNat, none⟩ (.int .i64 (rd (rd_L1 l0 (rd x8_3 x9_3)) x11_4)))) ?hg ?ho ?hn ?hr ?_; (case ho => rfl); (case hg => rfl); (case hn => rfl); (case hr => exact zq10); intro w53 hw; have hg : w51.grownBy w53 (some go38) := (by rw [hw]; exact HP52.2); have hp_ : Kd.R (Kd.int .i64) 3 w53 w.heap.size (fun k_ => some k_ ≠ (.slice (some ⟨go17, 0, none⟩) x4_4.length co18 : Value).ownBlock ∧ some k_ ≠ (.slice Ao19 x5_4.length co19 : Value).ownBlock ∧ some k_ ≠ (u8 : Value).ownBlock) (.slice (some ⟨go38, 0, none⟩) t178.length co38) y184 := (by rw [hw, Ny184.out]; exact HP52.1); clear HP52; replace HO_4 := am (Kd.R_after (v := (.slice (some ⟨go38, 0, none⟩) t178.length co38)) (v1 := (.slice (some ⟨go38, 0, none⟩) t178.length co38)) (ok := (fun k_ => some k_ ≠ (.slice Ao19 x5_4.length co19 : Value).ownBlock ∧ some k_ ≠ (u8 : Value).ownBlock)) (pRq2 HO_4) hg (.inl rfl)); replace HO_5 := am (Kd.R_after (v := (.slice (some ⟨go38, 0, none⟩) t178.length co38)) (v1 := (.slice (some ⟨go38, 0, none⟩) t178.length co38)) (ok := (fun k_ => some k_ ≠ (.slice (some ⟨go17, 0, none⟩) x4_4.length co18 : Value).ownBlock ∧ some k_ ≠ (u8 : Value).ownBlock)) (pRq2 HO_5) hg (.inl rfl)); replace HO_8 := am (Kd.R_after (v := (.slice (some ⟨go38, 0, none⟩) t178.length co38)) (v1 := (.slice (some ⟨go38, 0, none⟩) t178.length co38)) (ok := (fun k_ => some k_ ≠ (.slice (some ⟨go17, 0, none⟩) x4_4.length co18 : Value).ownBlock ∧ some k_ ≠ (.slice Ao19 x5_4.length co19 : Value).ownBlock)) (pRq2 HO_8) hg (.inl rfl)); replace HO180 := am (hp_); replace HB := am ((zq33 : Below w.heap.size w w53)); clear hg hw hp_) | (go_at_call 26; refine calls_of_args (args' := #[.slice (some ad174) l0.length c0, .slice (some ⟨go38, 0, none⟩) y184.length co38]) zq30 ?_; (with_reducible refine (spec_alPlace.calls k4 _ _ l0 _ _ y184 t185 _ ?side1 ?side2 ?side3 ?side4 A41.out).mono ?_); (case side1 => exact zq8); (case side2 => exact HC0.out); (case side3 => exact zq21); (case side4 => exact zq32); rintro e w' ⟨rfl, ⟨nd, rfl⟩⟩; (try first | exact ⟨rfl, _, World.drewN_drewN _ _ _⟩ | exact ⟨rfl, _, Eq.trans (World.drewN_drewN _ _ _) (congrArg (World.drewN _) (Nat.add_assoc _ _ _))⟩); have p186 : 0 ≤ (t185 : Int) := of_decide_eq_true zq0; have q186 : t185 < (x4_4.length : Int) := of_decide_eq_true zq0; obtain ⟨ad186, e186, hx186_0⟩ := Kd.at_int (Kd.R_reads' HO_4.out).2.2 t185 p186 q186; obtain rfl : (⟨go17, 0, none⟩ : Addr) = ad186 := (by injection e186); (first | simp only [add_plain] at hx186_0 | simp only [add_at] at hx186_0 | simp only [Addr.add, Nat.zero_add] at hx186_0 | skip); replace p186 := eq_true p186; replace q186 := eq_true q186; have p187 : 0 ≤ (x28_2 : Int) := of_decide_eq_true zq0; have q187 : x28_2 < (x4_4.length : Int) := of_decide_eq_true zq0; obtain ⟨ad187, e187, hx187_0⟩ := Kd.at_int (Kd.R_reads' HO_4.out).2.2 x28_2 p187 q187; obtain rfl : (⟨go17, 0, none⟩ : Addr) = ad187 := (by injection e187); (first | simp only [add_plain] at hx187_0 | simp only [add_at] at hx187_0 | simp only [Addr.add, Nat.zero_add] at hx187_0 | skip); replace p187 := eq_true p187; replace q187 := eq_true q187; have p47 : 0 ≤ (t185 : Int) := of_decide_eq_true zq0; have q47 : (t185 : Int) < ((x4_4.length : Int) : Int) := of_decide_eq_true zq0; obtain ⟨hx47_0, hf47_0⟩ := Kd.R_celln 0 HO_4.out (t185 : Int) p47 q47; replace p47 := eq_true p47; replace q47 := eq_true q47; have n_ := am (Kd.R_mono (ok' := (fun k_ => some k_ ≠ (.slice Ao19 x5_4.length co19 : Value).ownBlock ∧ some k_ ≠ (u8 : Value).ownBlock ∧ some k_ ≠ (.slice (some ⟨go38, 0, none⟩) t178.length co38 : Value).ownBlock)) HO_4.out (fun k_ hk => ⟨hk.1.1, ⟨hk.1.2, hk.2⟩⟩)); clear HO_4; have HO_4 := n_; clear n_; obtain ⟨hy54_, hz54_⟩ := Kd.R_celln 0 HO_4.out (t185 : Int) (of_decide_eq_true zq0) (of_decide_eq_true zq0); have HP54 := Kd.R_putg HO_4.out (t185 : Int) (rd x4_4 x28_2)) | ((with_reducible refine gate_store (t := 3) (p := 107) rfl ?_); (try (rw [drewN_self w53]; generalize hq_ : World.drewN w53 _ = w53; replace HO_4 := am (Kd.R_at hq_ HO_4.out); replace HO_5 := am (Kd.R_at hq_ HO_5.out); replace HO_8 := am (Kd.R_at hq_ HO_8.out); replace HO180 := am (Kd.R_at hq_ HO180.out); replace HB := am (below_at hq_ HB.out); clear hq_; (try (have n_ := am (Kd.R_mono (ok' := (fun k_ => some k_ ≠ (.slice Ao19 x5_4.length co19 : Value).ownBlock ∧ some k_ ≠ (u8 : Value).ownBlock ∧ some k_ ≠ (.slice (some ⟨go38, 0, none⟩) t178.length co38 : Value).ownBlock)) HO_4.out (fun k_ hk => ⟨hk.1.1, ⟨hk.1.2, hk.2⟩⟩)); clear HO_4; have HO_4 := n_; clear n_)); (try (obtain ⟨hy54_, hz54_⟩ := Kd.R_celln 0 HO_4.out (t185 : Int) (of_decide_eq_true zq0) (of_decide_eq_true zq0))); (try (have HP54 := Kd.R_putg HO_4.out (t185 : Int) (rd x4_4 x28_2))))); refine store_event (t := 3) (p := 107) (v := ?vo_w55) (w1 := (w53.setCell ⟨go17, (t185 : Int).toNat, none⟩ (.int .i64 (rd x4_4 x28_2)))) ?hg ?ho ?hn ?hr ?_; (case ho => rfl); (case hg => rfl); (case hn => rfl); (case hr => exact zq10); intro w55 hw; have hg : w53.grownBy w55 (some go17) := (by rw [hw]; exact HP54.2); have hp_ : Kd.R (Kd.int .i64) 3 w55 w.heap.size (fun k_ => some k_ ≠ (.slice Ao19 x5_4.length co19 : Value).ownBlock ∧ some k_ ≠ (u8 : Value).ownBlock ∧ some k_ ≠ (.slice (some ⟨go38, 0, none⟩) t178.length co38 : Value).ownBlock) (.slice (some ⟨go17, 0, none⟩) x4_4.length co18) y188 := (by rw [hw, Ny188.out]; exact HP54.1); clear HP54; replace HO_4 := am (hp_); replace HO_5 := am (Kd.R_after (v := (.slice (some ⟨go17, 0, none⟩) x4_4.length co18)) (v1 := (.slice (some ⟨go17, 0, none⟩) x4_4.length co18)) (ok := (fun k_ => some k_ ≠ (u8 : Value).ownBlock ∧ some k_ ≠ (.slice (some ⟨go38, 0, none⟩) t178.length co38 : Value).ownBlock)) zq49 hg (.inl rfl)); replace HO_8 := am (Kd.R_after (v := (.slice (some ⟨go17, 0, none⟩) x4_4.length co18)) (v1 := (.slice (some ⟨go17, 0, none⟩) x4_4.length co18)) (ok := (fun k_ => some k_ ≠ (.slice Ao19 x5_4.length co19 : Value).ownBlock ∧ some k_ ≠ (.slice (some ⟨go38, 0, none⟩) t178.length co38 : Value).ownBlock)) zq46 hg (.inl rfl)); replace HO180 := am (Kd.R_after (v := (.slice (some ⟨go17, 0, none⟩) x4_4.length co18)) (v1 := (.slice (some ⟨go17, 0, none⟩) x4_4.length co18)) (ok := (fun k_ => some k_ ≠ (.slice Ao19 x5_4.length co19 : Value).ownBlock ∧ some k_ ≠ (u8 : Value).ownBlock)) zq44 hg (.inl rfl)); replace HB := am ((zq67 : Below w.heap.size w w55)); clear hg hw hp_) | ((with_reducible refine gate_builtin (b := .append) (xs := #[.tmp 108, .tmp 110]) rfl ?_); at_builtin; refine Kd.R_append (Kd.int .i64) (w0 := w) w.heap.size rfl (.tmp 108) (.tmp 110) 22 3 (.int .i64 0) 8 rfl Try.underlying22 info3 rfl zq34 zq11 u8 x8_4 t185 [.int .i64 t185] (fun k_ => some k_ ≠ (.slice (some ⟨go17, 0, none⟩) x4_4.length co18 : Value).ownBlock ∧ some k_ ≠ (.slice Ao19 x5_4.length co19 : Value).ownBlock ∧ some k_ ≠ (.slice (some ⟨go38, 0, none⟩) t178.length co38 : Value).ownBlock) (fun _ => False) rfl rfl ?aP (fun _ hk => hk.elim) ?aF ?aO ?aB ?aS ?aL ?_; (case aP => exact rfl); (case aB => exact (pBq2 HB)); (case aF => exact zq59); (case aO => exact zq47); (case aS => exact (below_size (pBq2 HB))); (case aL => have := LMc48.out; omega); intro v190 w56 ho hb hg hat; rw [← Ny189.out] at ho; have HO191 := am (ho); replace HO_4 := am (Kd.R_after (ok := (fun k_ => some k_ ≠ (.slice Ao19 x5_4.length co19 : Value).ownBlock ∧ some k_ ≠ (.slice (some ⟨go38, 0, none⟩) t178.length co38 : Value).ownBlock)) zq50 hg hat); replace HO_5 := am (Kd.R_after (ok := (fun k_ => some k_ ≠ (.slice (some ⟨go17, 0, none⟩) x4_4.length co18 : Value).ownBlock ∧ some k_ ≠ (.slice (some ⟨go38, 0, none⟩) t178.length co38 : Value).ownBlock)) zq48 hg hat); replace HO180 := am (Kd.R_after (ok := (fun k_ => some k_ ≠ (.slice (some ⟨go17, 0, none⟩) x4_4.length co18 : Value).ownBlock ∧ some k_ ≠ (.slice Ao19 x5_4.length co19 : Value).ownBlock)) zq45 hg hat); replace HB := am (hb); clear HO_8; clear ho hb hg hat))
                                 repeat (go_quiet (first | (go_at_call 24; (with_reducible refine (spec_l1Abs.calls (wrap64 ((rd (rd_L1 l0 (rd x8_3 x9_3)) x11_4) - (rd (rd_L1 l0 (rd x8_3 x9_3)) (ji32)))) t177 _ A34.out).mono ?_); rintro e w' ⟨rfl, ⟨nd, rfl⟩⟩; (try first | exact ⟨rfl, _, World.drewN_drewN _ _ _⟩ | exact ⟨rfl, _, Eq.trans (World.drewN_drewN _ _ _) (congrArg (World.drewN _) (Nat.add_assoc _ _ _))⟩)) | (go_at_call 25; (with_reducible refine (spec_l1Own.calls _ _ (rd_L1 l0 (rd x8_3 x9_3)) t178 _ ?side1 ?side2 A36.out).mono ?_); (case side1 => exact zq18); (case side2 => exact HC174_0.out); rintro e w49 ⟨v179, rfl, ho0, hb⟩; have HO180 := am (Kd.R_lower (Kd.R_new' (Kd.R_new' (Kd.R_new' ho0 (Kd.R_lt (pRq2 HO_4))) (Kd.R_lt (pRq2 HO_5))) (Kd.R_lt (pRq2 HO_8))) (below_size (pBq2 HB))); replace HO_4 := am (Kd.R_elder' (pRq2 HO_4) (Kd.R_base ho0) hb); replace HO_5 := am (Kd.R_elder' (pRq2 HO_5) (Kd.R_base ho0) hb); replace HO_8 := am (Kd.R_elder' (pRq2 HO_8) (Kd.R_base ho0) hb); replace HB := am (below_step (pBq2 HB) hb); (try clear hb hk ho0); have p181 : 0 ≤ ((ji32) : Int) := of_decide_eq_true zq0; have q181 : (ji32) < ((rd_L1 l0 (rd x8_3 x9_3)).length : Int) := of_decide_eq_true zq0; obtain ⟨ad181, e181, hx181_0⟩ := Kd.at_int HR174_0.out (ji32) p181 q181; obtain rfl : ad175 = ad181 := (by injection e181); replace hx181_0 := (HB.out.cell (World.block_lt_of_cell? w _ hx181_0)).trans hx181_0; replace p181 := eq_true p181; replace q181 := eq_true q181; have p38 : 0 ≤ (x11_4 : Int) := of_decide_eq_true zq0; have q38 : (x11_4 : Int) < ((t178.length : Int) : Int) := of_decide_eq_true zq0; obtain ⟨go38, co38, eo38, gb38, gl38, cl38, HG38⟩ := Kd.R_form HO180.out zq11; (first | cases eo38 | (injection eo38 with ea_ en_ ec_; (first | subst ea_ | (injection ea_ with ea_; subst ea_)); subst ec_; clear en_)); have GB38 := am gb38; have GG38 := am HG38; clear gb38 gl38 HG38; obtain ⟨hx38_0, hf38_0⟩ := Kd.R_celln 0 HO180.out (x11_4 : Int) p38 q38; replace p38 := eq_true p38; replace q38 := eq_true q38; have n_ := am (Kd.R_mono (ok' := (fun k_ => some k_ ≠ (.slice (some ⟨go17, 0, none⟩) x4_4.length co18 : Value).ownBlock ∧ some k_ ≠ (.slice Ao19 x5_4.length co19 : Value).ownBlock ∧ some k_ ≠ (u8 : Value).ownBlock)) HO180.out (fun k_ hk => ⟨hk.1.1.2, ⟨hk.1.2, hk.2⟩⟩)); clear HO180; have HO180 := n_; clear n_; obtain ⟨hy50_, hz50_⟩ := Kd.R_celln 0 HO180.out (x11_4 : Int) (of_decide_eq_true zq0) (of_decide_eq_true zq0); have HP50 := Kd.R_putg HO180.out (x11_4 : Int) (rd (rd_L1 l0 (rd x8_3 x9_3)) (ji32))) | ((with_reducible refine gate_store (t := 3) (p := 84) rfl ?_); (try (rw [drewN_self w49]; generalize hq_ : World.drewN w49 _ = w49; replace HO_4 := am (Kd.R_at hq_ HO_4.out); replace HO_5 := am (Kd.R_at hq_ HO_5.out); replace HO_8 := am (Kd.R_at hq_ HO_8.out); replace HO180 := am (Kd.R_at hq_ HO180.out); replace HB := am (below_at hq_ HB.out); clear hq_; (try (have n_ := am (Kd.R_mono (ok' := (fun k_ => some k_ ≠ (.slice (some ⟨go17, 0, none⟩) x4_4.length co18 : Value).ownBlock ∧ some k_ ≠ (.slice Ao19 x5_4.length co19 : Value).ownBlock ∧ some k_ ≠ (u8 : Value).ownBlock)) HO180.out (fun k_ hk => ⟨hk.1.1.2, ⟨hk.1.2, hk.2⟩⟩)); clear HO180; have HO180 := n_; clear n_)); (try (obtain ⟨hy50_, hz50_⟩ := Kd.R_celln 0 HO180.out (x11_4 : Int) (of_decide_eq_true zq0) (of_decide_eq_true zq0))); (try (have HP50 := Kd.R_putg HO180.out (x11_4 : Int) (rd (rd_L1 l0 (rd x8_3 x9_3)) (ji32)))))); refine store_event (t := 3) (p := 84) (v := ?vo_w51) (w1 := (w49.setCell ⟨go38, (x11_4 : Int).toNat, none⟩ (.int .i64 (rd (rd_L1 l0 (rd x8_3 x9_3)) (ji32))))) ?hg ?ho ?hn ?hr ?_; (case ho => rfl); (case hg => rfl); (case hn => rfl); (case hr => exact zq10); intro w51 hw; have hg : w49.grownBy w51 (some go38) := (by rw [hw]; exact HP50.2); have hp_ : Kd.R (Kd.int .i64) 3 w51 w.heap.size (fun k_ => some k_ ≠ (.slice (some ⟨go17, 0, none⟩) x4_4.length co18 : Value).ownBlock ∧ some k_ ≠ (.slice Ao19 x5_4.length co19 : Value).ownBlock ∧ some k_ ≠ (u8 : Value).ownBlock) (.slice (some ⟨go38, 0, none⟩) t178.length co38) y182 := (by rw [hw, Ny182.out]; exact HP50.1); clear HP50; replace HO_4 := am (Kd.R_after (v := (.slice (some ⟨go38, 0, none⟩) t178.length co38)) (v1 := (.slice (some ⟨go38, 0, none⟩) t178.length co38)) (ok := (fun k_ => some k_ ≠ (.slice Ao19 x5_4.length co19 : Value).ownBlock ∧ some k_ ≠ (u8 : Value).ownBlock)) (pRq2 HO_4) hg (.inl rfl)); replace HO_5 := am (Kd.R_after (v := (.slice (some ⟨go38, 0, none⟩) t178.length co38)) (v1 := (.slice (some ⟨go38, 0, none⟩) t178.length co38)) (ok := (fun k_ => some k_ ≠ (.slice (some ⟨go17, 0, none⟩) x4_4.length co18 : Value).ownBlock ∧ some k_ ≠ (u8 : Value).ownBlock)) (pRq2 HO_5) hg (.inl rfl)); replace HO_8 := am (Kd.R_after (v := (.slice (some ⟨go38, 0, none⟩) t178.length co38)) (v1 := (.slice (some ⟨go38, 0, none⟩) t178.length co38)) (ok := (fun k_ => some k_ ≠ (.slice (some ⟨go17, 0, none⟩) x4_4.length co18 : Value).ownBlock ∧ some k_ ≠ (.slice Ao19 x5_4.length co19 : Value).ownBlock)) (pRq2 HO_8) hg (.inl rfl)); replace HO180 := am (hp_); replace HB := am ((zq33 : Below w.heap.size w w51)); clear hg hw hp_; have p183 : 0 ≤ (x11_4 : Int) := of_decide_eq_true zq0; have q183 : x11_4 < ((rd_L1 l0 (rd x8_3 x9_3)).length : Int) := of_decide_eq_true zq0; obtain ⟨ad183, e183, hx183_0⟩ := Kd.at_int HR174_0.out x11_4 p183 q183; obtain rfl : ad175 = ad183 := (by injection e183); replace hx183_0 := (HB.out.cell (World.block_lt_of_cell? w _ hx183_0)).trans hx183_0; replace p183 := eq_true p183; replace q183 := eq_true q183; have p40 : 0 ≤ ((ji32) : Int) := of_decide_eq_true zq0; have q40 : ((ji32) : Int) < ((t178.length : Int) : Int) := of_decide_eq_true zq0; obtain ⟨hx40_0, hf40_0⟩ := Kd.R_celln 0 HO180.out ((ji32) : Int) p40 q40; replace p40 := eq_true p40; replace q40 := eq_true q40; obtain ⟨hy52_, hz52_⟩ := Kd.R_celln 0 HO180.out ((ji32) : Int) (of_decide_eq_true zq0) (of_decide_eq_true zq0); have HP52 := Kd.R_putg HO180.out ((ji32) : Int) (rd (rd_L1 l0 (rd x8_3 x9_3)) x11_4)) | ((with_reducible refine gate_store (t := 3) (p := 92) rfl ?_); (try (rw [drewN_self w51]; generalize hq_ : World.drewN w51 _ = w51; replace HO_4 := am (Kd.R_at hq_ HO_4.out); replace HO_5 := am (Kd.R_at hq_ HO_5.out); replace HO_8 := am (Kd.R_at hq_ HO_8.out); replace HO180 := am (Kd.R_at hq_ HO180.out); replace HB := am (below_at hq_ HB.out); clear hq_; (try (obtain ⟨hy52_, hz52_⟩ := Kd.R_celln 0 HO180.out ((ji32) : Int) (of_decide_eq_true zq0) (of_decide_eq_true zq0))); (try (have HP52 := Kd.R_putg HO180.out ((ji32) : Int) (rd (rd_L1 l0 (rd x8_3 x9_3)) x11_4))))); refine store_event (t := 3) (p := 92) (v := ?vo_w53) (w1 := (w51.setCell ⟨go38, ((ji32) : Int).toNat, none⟩ (.int .i64 (rd (rd_L1 l0 (rd x8_3 x9_3)) x11_4)))) ?hg ?ho ?hn ?hr ?_; (case ho => rfl); (case hg => rfl); (case hn => rfl); (case hr => exact zq10); intro w53 hw; have hg : w51.grownBy w53 (some go38) := (by rw [hw]; exact HP52.2); have hp_ : Kd.R (Kd.int .i64) 3 w53 w.heap.size (fun k_ => some k_ ≠ (.slice (some ⟨go17, 0, none⟩) x4_4.length co18 : Value).ownBlock ∧ some k_ ≠ (.slice Ao19 x5_4.length co19 : Value).ownBlock ∧ some k_ ≠ (u8 : Value).ownBlock) (.slice (some ⟨go38, 0, none⟩) t178.length co38) y184 := (by rw [hw, Ny184.out]; exact HP52.1); clear HP52; replace HO_4 := am (Kd.R_after (v := (.slice (some ⟨go38, 0, none⟩) t178.length co38)) (v1 := (.slice (some ⟨go38, 0, none⟩) t178.length co38)) (ok := (fun k_ => some k_ ≠ (.slice Ao19 x5_4.length co19 : Value).ownBlock ∧ some k_ ≠ (u8 : Value).ownBlock)) (pRq2 HO_4) hg (.inl rfl)); replace HO_5 := am (Kd.R_after (v := (.slice (some ⟨go38, 0, none⟩) t178.length co38)) (v1 := (.slice (some ⟨go38, 0, none⟩) t178.length co38)) (ok := (fun k_ => some k_ ≠ (.slice (some ⟨go17, 0, none⟩) x4_4.length co18 : Value).ownBlock ∧ some k_ ≠ (u8 : Value).ownBlock)) (pRq2 HO_5) hg (.inl rfl)); replace HO_8 := am (Kd.R_after (v := (.slice (some ⟨go38, 0, none⟩) t178.length co38)) (v1 := (.slice (some ⟨go38, 0, none⟩) t178.length co38)) (ok := (fun k_ => some k_ ≠ (.slice (some ⟨go17, 0, none⟩) x4_4.length co18 : Value).ownBlock ∧ some k_ ≠ (.slice Ao19 x5_4.length co19 : Value).ownBlock)) (pRq2 HO_8) hg (.inl rfl)); replace HO180 := am (hp_); replace HB := am ((zq33 : Below w.heap.size w w53)); clear hg hw hp_) | (go_at_call 26; refine calls_of_args (args' := #[.slice (some ad174) l0.length c0, .slice (some ⟨go38, 0, none⟩) y184.length co38]) zq30 ?_; (with_reducible refine (spec_alPlace.calls k4 _ _ l0 _ _ y184 t185 _ ?side1 ?side2 ?side3 ?side4 A41.out).mono ?_); (case side1 => exact zq8); (case side2 => exact HC0.out); (case side3 => exact zq21); (case side4 => exact zq32); rintro e w' ⟨rfl, ⟨nd, rfl⟩⟩; (try first | exact ⟨rfl, _, World.drewN_drewN _ _ _⟩ | exact ⟨rfl, _, Eq.trans (World.drewN_drewN _ _ _) (congrArg (World.drewN _) (Nat.add_assoc _ _ _))⟩); have p186 : 0 ≤ (t185 : Int) := of_decide_eq_true zq0; have q186 : t185 < (x4_4.length : Int) := of_decide_eq_true zq0; obtain ⟨ad186, e186, hx186_0⟩ := Kd.at_int (Kd.R_reads' HO_4.out).2.2 t185 p186 q186; obtain rfl : (⟨go17, 0, none⟩ : Addr) = ad186 := (by injection e186); (first | simp only [add_plain] at hx186_0 | simp only [add_at] at hx186_0 | simp only [Addr.add, Nat.zero_add] at hx186_0 | skip); replace p186 := eq_true p186; replace q186 := eq_true q186; have p187 : 0 ≤ (x28_2 : Int) := of_decide_eq_true zq0; have q187 : x28_2 < (x4_4.length : Int) := of_decide_eq_true zq0; obtain ⟨ad187, e187, hx187_0⟩ := Kd.at_int (Kd.R_reads' HO_4.out).2.2 x28_2 p187 q187; obtain rfl : (⟨go17, 0, none⟩ : Addr) = ad187 := (by injection e187); (first | simp only [add_plain] at hx187_0 | simp only [add_at] at hx187_0 | simp only [Addr.add, Nat.zero_add] at hx187_0 | skip); replace p187 := eq_true p187; replace q187 := eq_true q187; have p47 : 0 ≤ (t185 : Int) := of_decide_eq_true zq0; have q47 : (t185 : Int) < ((x4_4.length : Int) : Int) := of_decide_eq_true zq0; obtain ⟨hx47_0, hf47_0⟩ := Kd.R_celln 0 HO_4.out (t185 : Int) p47 q47; replace p47 := eq_true p47; replace q47 := eq_true q47; have n_ := am (Kd.R_mono (ok' := (fun k_ => some k_ ≠ (.slice Ao19 x5_4.length co19 : Value).ownBlock ∧ some k_ ≠ (u8 : Value).ownBlock ∧ some k_ ≠ (.slice (some ⟨go38, 0, none⟩) t178.length co38 : Value).ownBlock)) HO_4.out (fun k_ hk => ⟨hk.1.1, ⟨hk.1.2, hk.2⟩⟩)); clear HO_4; have HO_4 := n_; clear n_; obtain ⟨hy54_, hz54_⟩ := Kd.R_celln 0 HO_4.out (t185 : Int) (of_decide_eq_true zq0) (of_decide_eq_true zq0); have HP54 := Kd.R_putg HO_4.out (t185 : Int) (rd x4_4 x28_2)) | ((with_reducible refine gate_store (t := 3) (p := 107) rfl ?_); (try (rw [drewN_self w53]; generalize hq_ : World.drewN w53 _ = w53; replace HO_4 := am (Kd.R_at hq_ HO_4.out); replace HO_5 := am (Kd.R_at hq_ HO_5.out); replace HO_8 := am (Kd.R_at hq_ HO_8.out); replace HO180 := am (Kd.R_at hq_ HO180.out); replace HB := am (below_at hq_ HB.out); clear hq_; (try (have n_ := am (Kd.R_mono (ok' := (fun k_ => some k_ ≠ (.slice Ao19 x5_4.length co19 : Value).ownBlock ∧ some k_ ≠ (u8 : Value).ownBlock ∧ some k_ ≠ (.slice (some ⟨go38, 0, none⟩) t178.length co38 : Value).ownBlock)) HO_4.out (fun k_ hk => ⟨hk.1.1, ⟨hk.1.2, hk.2⟩⟩)); clear HO_4; have HO_4 := n_; clear n_)); (try (obtain ⟨hy54_, hz54_⟩ := Kd.R_celln 0 HO_4.out (t185 : Int) (of_decide_eq_true zq0) (of_decide_eq_true zq0))); (try (have HP54 := Kd.R_putg HO_4.out (t185 : Int) (rd x4_4 x28_2))))); refine store_event (t := 3) (p := 107) (v := ?vo_w55) (w1 := (w53.setCell ⟨go17, (t185 : Int).toNat, none⟩ (.int .i64 (rd x4_4 x28_2)))) ?hg ?ho ?hn ?hr ?_; (case ho => rfl); (case hg => rfl); (case hn => rfl); (case hr => exact zq10); intro w55 hw; have hg : w53.grownBy w55 (some go17) := (by rw [hw]; exact HP54.2); have hp_ : Kd.R (Kd.int .i64) 3 w55 w.heap.size (fun k_ => some k_ ≠ (.slice Ao19 x5_4.length co19 : Value).ownBlock ∧ some k_ ≠ (u8 : Value).ownBlock ∧ some k_ ≠ (.slice (some ⟨go38, 0, none⟩) t178.length co38 : Value).ownBlock) (.slice (some ⟨go17, 0, none⟩) x4_4.length co18) y188 := (by rw [hw, Ny188.out]; exact HP54.1); clear HP54; replace HO_4 := am (hp_); replace HO_5 := am (Kd.R_after (v := (.slice (some ⟨go17, 0, none⟩) x4_4.length co18)) (v1 := (.slice (some ⟨go17, 0, none⟩) x4_4.length co18)) (ok := (fun k_ => some k_ ≠ (u8 : Value).ownBlock ∧ some k_ ≠ (.slice (some ⟨go38, 0, none⟩) t178.length co38 : Value).ownBlock)) zq49 hg (.inl rfl)); replace HO_8 := am (Kd.R_after (v := (.slice (some ⟨go17, 0, none⟩) x4_4.length co18)) (v1 := (.slice (some ⟨go17, 0, none⟩) x4_4.length co18)) (ok := (fun k_ => some k_ ≠ (.slice Ao19 x5_4.length co19 : Value).ownBlock ∧ some k_ ≠ (.slice (some ⟨go38, 0, none⟩) t178.length co38 : Value).ownBlock)) zq46 hg (.inl rfl)); replace HO180 := am (Kd.R_after (v := (.slice (some ⟨go17, 0, none⟩) x4_4.length co18)) (v1 := (.slice (some ⟨go17, 0, none⟩) x4_4.length co18)) (ok := (fun k_ => some k_ ≠ (.slice Ao19 x5_4.length co19 : Value).ownBlock ∧ some k_ ≠ (u8 : Value).ownBlock)) zq44 hg (.inl rfl)); replace HB := am ((zq67 : Below w.heap.size w w55)); clear hg hw hp_) | ((with_reducible refine gate_builtin (b := .append) (xs := #[.tmp 108, .tmp 110]) rfl ?_); at_builtin; refine Kd.R_append (Kd.int .i64) (w0 := w) w.heap.size rfl (.tmp 108) (.tmp 110) 22 3 (.int .i64 0) 8 rfl Try.underlying22 info3 rfl zq34 zq11 u8 x8_4 t185 [.int .i64 t185] (fun k_ => some k_ ≠ (.slice (some ⟨go17, 0, none⟩) x4_4.length co18 : Value).ownBlock ∧ some k_ ≠ (.slice Ao19 x5_4.length co19 : Value).ownBlock ∧ some k_ ≠ (.slice (some ⟨go38, 0, none⟩) t178.length co38 : Value).ownBlock) (fun _ => False) rfl rfl ?aP (fun _ hk => hk.elim) ?aF ?aO ?aB ?aS ?aL ?_; (case aP => exact rfl); (case aB => exact (pBq2 HB)); (case aF => exact zq59); (case aO => exact zq47); (case aS => exact (below_size (pBq2 HB))); (case aL => have := LMc48.out; omega); intro v190 w56 ho hb hg hat; rw [← Ny189.out] at ho; have HO191 := am (ho); replace HO_4 := am (Kd.R_after (ok := (fun k_ => some k_ ≠ (.slice Ao19 x5_4.length co19 : Value).ownBlock ∧ some k_ ≠ (.slice (some ⟨go38, 0, none⟩) t178.length co38 : Value).ownBlock)) zq50 hg hat); replace HO_5 := am (Kd.R_after (ok := (fun k_ => some k_ ≠ (.slice (some ⟨go17, 0, none⟩) x4_4.length co18 : Value).ownBlock ∧ some k_ ≠ (.slice (some ⟨go38, 0, none⟩) t178.length co38 : Value).ownBlock)) zq48 hg hat); replace HO180 := am (Kd.R_after (ok := (fun k_ => some k_ ≠ (.slice (some ⟨go17, 0, none⟩) x4_4.length co18 : Value).ownBlock ∧ some k_ ≠ (.slice Ao19 x5_4.length co19 : Value).ownBlock)) zq45 hg hat); replace HB := am (hb); clear HO_8; clear ho hb hg hat)); try go_wp2_with (first | (go_at_call 24; (with_reducible refine (spec_l1Abs.calls (wrap64 ((rd (rd_L1 l0 (rd x8_3 x9_3)) x11_4) - (rd (rd_L1 l0 (rd x8_3 x9_3)) (ji32)))) t177 _ A34.out).mono ?_); rintro e w' ⟨rfl, ⟨nd, rfl⟩⟩; (try first | exact ⟨rfl, _, World.drewN_drewN _ _ _⟩ | exact ⟨rfl, _, Eq.trans (World.drewN_drewN _ _ _) (congrArg (World.drewN _) (Nat.add_assoc _ _ _))⟩)) | (go_at_call 25; (with_reducible refine (spec_l1Own.calls _ _ (rd_L1 l0 (rd x8_3 x9_3)) t178 _ ?side1 ?side2 A36.out).mono ?_); (case side1 => exact zq18); (case side2 => exact HC174_0.out); rintro e w49 ⟨v179, rfl, ho0, hb⟩; have HO180 := am (Kd.R_lower (Kd.R_new' (Kd.R_new' (Kd.R_new' ho0 (Kd.R_lt (pRq2 HO_4))) (Kd.R_lt (pRq2 HO_5))) (Kd.R_lt (pRq2 HO_8))) (below_size (pBq2 HB))); replace HO_4 := am (Kd.R_elder' (pRq2 HO_4) (Kd.R_base ho0) hb); replace HO_5 := am (Kd.R_elder' (pRq2 HO_5) (Kd.R_base ho0) hb); replace HO_8 := am (Kd.R_elder' (pRq2 HO_8) (Kd.R_base ho0) hb); replace HB := am (below_step (pBq2 HB) hb); (try clear hb hk ho0); have p181 : 0 ≤ ((ji32) : Int) := of_decide_eq_true zq0; have q181 : (ji32) < ((rd_L1 l0 (rd x8_3 x9_3)).length : Int) := of_decide_eq_true zq0; obtain ⟨ad181, e181, hx181_0⟩ := Kd.at_int HR174_0.out (ji32) p181 q181; obtain rfl : ad175 = ad181 := (by injection e181); replace hx181_0 := (HB.out.cell (World.block_lt_of_cell? w _ hx181_0)).trans hx181_0; replace p181 := eq_true p181; replace q181 := eq_true q181; have p38 : 0 ≤ (x11_4 : Int) := of_decide_eq_true zq0; have q38 : (x11_4 : Int) < ((t178.length : Int) : Int) := of_decide_eq_true zq0; obtain ⟨go38, co38, eo38, gb38, gl38, cl38, HG38⟩ := Kd.R_form HO180.out zq11; (first | cases eo38 | (injection eo38 with ea_ en_ ec_; (first | subst ea_ | (injection ea_ with ea_; subst ea_)); subst ec_; clear en_)); have GB38 := am gb38; have GG38 := am HG38; clear gb38 gl38 HG38; obtain ⟨hx38_0, hf38_0⟩ := Kd.R_celln 0 HO180.out (x11_4 : Int) p38 q38; replace p38 := eq_true p38; replace q38 := eq_true q38; have n_ := am (Kd.R_mono (ok' := (fun k_ => some k_ ≠ (.slice (some ⟨go17, 0, none⟩) x4_4.length co18 : Value).ownBlock ∧ some k_ ≠ (.slice Ao19 x5_4.length co19 : Value).ownBlock ∧ some k_ ≠ (u8 : Value).ownBlock)) HO180.out (fun k_ hk => ⟨hk.1.1.2, ⟨hk.1.2, hk.2⟩⟩)); clear HO180; have HO180 := n_; clear n_; obtain ⟨hy50_, hz50_⟩ := Kd.R_celln 0 HO180.out (x11_4 : Int) (of_decide_eq_true zq0) (of_decide_eq_true zq0); have HP50 := Kd.R_putg HO180.out (x11_4 : Int) (rd (rd_L1 l0 (rd x8_3 x9_3)) (ji32))) | ((with_reducible refine gate_store (t := 3) (p := 84) rfl ?_); (try (rw [drewN_self w49]; generalize hq_ : World.drewN w49 _ = w49; replace HO_4 := am (Kd.R_at hq_ HO_4.out); replace HO_5 := am (Kd.R_at hq_ HO_5.out); replace HO_8 := am (Kd.R_at hq_ HO_8.out); replace HO180 := am (Kd.R_at hq_ HO180.out); replace HB := am (below_at hq_ HB.out); clear hq_; (try (have n_ := am (Kd.R_mono (ok' := (fun k_ => some k_ ≠ (.slice (some ⟨go17, 0, none⟩) x4_4.length co18 : Value).ownBlock ∧ some k_ ≠ (.slice Ao19 x5_4.length co19 : Value).ownBlock ∧ some k_ ≠ (u8 : Value).ownBlock)) HO180.out (fun k_ hk => ⟨hk.1.1.2, ⟨hk.1.2, hk.2⟩⟩)); clear HO180; have HO180 := n_; clear n_)); (try (obtain ⟨hy50_, hz50_⟩ := Kd.R_celln 0 HO180.out (x11_4 : Int) (of_decide_eq_true zq0) (of_decide_eq_true zq0))); (try (have HP50 := Kd.R_putg HO180.out (x11_4 : Int) (rd (rd_L1 l0 (rd x8_3 x9_3)) (ji32)))))); refine store_event (t := 3) (p := 84) (v := ?vo_w51) (w1 := (w49.setCell ⟨go38, (x11_4 : Int).toNat, none⟩ (.int .i64 (rd (rd_L1 l0 (rd x8_3 x9_3)) (ji32))))) ?hg ?ho ?hn ?hr ?_; (case ho => rfl); (case hg => rfl); (case hn => rfl); (case hr => exact zq10); intro w51 hw; have hg : w49.grownBy w51 (some go38) := (by rw [hw]; exact HP50.2); have hp_ : Kd.R (Kd.int .i64) 3 w51 w.heap.size (fun k_ => some k_ ≠ (.slice (some ⟨go17, 0, none⟩) x4_4.length co18 : Value).ownBlock ∧ some k_ ≠ (.slice Ao19 x5_4.length co19 : Value).ownBlock ∧ some k_ ≠ (u8 : Value).ownBlock) (.slice (some ⟨go38, 0, none⟩) t178.length co38) y182 := (by rw [hw, Ny182.out]; exact HP50.1); clear HP50; replace HO_4 := am (Kd.R_after (v := (.slice (some ⟨go38, 0, none⟩) t178.length co38)) (v1 := (.slice (some ⟨go38, 0, none⟩) t178.length co38)) (ok := (fun k_ => some k_ ≠ (.slice Ao19 x5_4.length co19 : Value).ownBlock ∧ some k_ ≠ (u8 : Value).ownBlock)) (pRq2 HO_4) hg (.inl rfl)); replace HO_5 := am (Kd.R_after (v := (.slice (some ⟨go38, 0, none⟩) t178.length co38)) (v1 := (.slice (some ⟨go38, 0, none⟩) t178.length co38)) (ok := (fun k_ => some k_ ≠ (.slice (some ⟨go17, 0, none⟩) x4_4.length co18 : Value).ownBlock ∧ some k_ ≠ (u8 : Value).ownBlock)) (pRq2 HO_5) hg (.inl rfl)); replace HO_8 := am (Kd.R_after (v := (.slice (some ⟨go38, 0, none⟩) t178.length co38)) (v1 := (.slice (some ⟨go38, 0, none⟩) t178.length co38)) (ok := (fun k_ => some k_ ≠ (.slice (some ⟨go17, 0, none⟩) x4_4.length co18 : Value).ownBlock ∧ some k_ ≠ (.slice Ao19 x5_4.length co19 : Value).ownBlock)) (pRq2 HO_8) hg (.inl rfl)); replace HO180 := am (hp_); replace HB := am ((zq33 : Below w.heap.size w w51)); clear hg hw hp_; have p183 : 0 ≤ (x11_4 : Int) := of_decide_eq_true zq0; have q183 : x11_4 < ((rd_L1 l0 (rd x8_3 x9_3)).length : Int) := of_decide_eq_true zq0; obtain ⟨ad183, e183, hx183_0⟩ := Kd.at_int HR174_0.out x11_4 p183 q183; obtain rfl : ad175 = ad183 := (by injection e183); replace hx183_0 := (HB.out.cell (World.block_lt_of_cell? w _ hx183_0)).trans hx183_0; replace p183 := eq_true p183; replace q183 := eq_true q183; have p40 : 0 ≤ ((ji32) : Int) := of_decide_eq_true zq0; have q40 : ((ji32) : Int) < ((t178.length : Int) : Int) := of_decide_eq_true zq0; obtain ⟨hx40_0, hf40_0⟩ := Kd.R_celln 0 HO180.out ((ji32) : Int) p40 q40; replace p40 := eq_true p40; replace q40 := eq_true q40; obtain ⟨hy52_, hz52_⟩ := Kd.R_celln 0 HO180.out ((ji32) : Int) (of_decide_eq_true zq0) (of_decide_eq_true zq0); have HP52 := Kd.R_putg HO180.out ((ji32) : Int) (rd (rd_L1 l0 (rd x8_3 x9_3)) x11_4)) | ((with_reducible refine gate_store (t := 3) (p := 92) rfl ?_); (try (rw [drewN_self w51]; generalize hq_ : World.drewN w51 _ = w51; replace HO_4 := am (Kd.R_at hq_ HO_4.out); replace HO_5 := am (Kd.R_at hq_ HO_5.out); replace HO_8 := am (Kd.R_at hq_ HO_8.out); replace HO180 := am (Kd.R_at hq_ HO180.out); replace HB := am (below_at hq_ HB.out); clear hq_; (try (obtain ⟨hy52_, hz52_⟩ := Kd.R_celln 0 HO180.out ((ji32) : Int) (of_decide_eq_true zq0) (of_decide_eq_true zq0))); (try (have HP52 := Kd.R_putg HO180.out ((ji32) : Int) (rd (rd_L1 l0 (rd x8_3 x9_3)) x11_4))))); refine store_event (t := 3) (p := 92) (v := ?vo_w53) (w1 := (w51.setCell ⟨go38, ((ji32) : Int).toNat, none⟩ (.int .i64 (rd (rd_L1 l0 (rd x8_3 x9_3)) x11_4)))) ?hg ?ho ?hn ?hr ?_; (case ho => rfl); (case hg => rfl); (case hn => rfl); (case hr => exact zq10); intro w53 hw; have hg : w51.grownBy w53 (some go38) := (by rw [hw]; exact HP52.2); have hp_ : Kd.R (Kd.int .i64) 3 w53 w.heap.size (fun k_ => some k_ ≠ (.slice (some ⟨go17, 0, none⟩) x4_4.length co18 : Value).ownBlock ∧ some k_ ≠ (.slice Ao19 x5_4.length co19 : Value).ownBlock ∧ some k_ ≠ (u8 : Value).ownBlock) (.slice (some ⟨go38, 0, none⟩) t178.length co38) y184 := (by rw [hw, Ny184.out]; exact HP52.1); clear HP52; replace HO_4 := am (Kd.R_after (v := (.slice (some ⟨go38, 0, none⟩) t178.length co38)) (v1 := (.slice (some ⟨go38, 0, none⟩) t178.length co38)) (ok := (fun k_ => some k_ ≠ (.slice Ao19 x5_4.length co19 : Value).ownBlock ∧ some k_ ≠ (u8 : Value).ownBlock)) (pRq2 HO_4) hg (.inl rfl)); replace HO_5 := am (Kd.R_after (v := (.slice (some ⟨go38, 0, none⟩) t178.length co38)) (v1 := (.slice (some ⟨go38, 0, none⟩) t178.length co38)) (ok := (fun k_ => some k_ ≠ (.slice (some ⟨go17, 0, none⟩) x4_4.length co18 : Value).ownBlock ∧ some k_ ≠ (u8 : Value).ownBlock)) (pRq2 HO_5) hg (.inl rfl)); replace HO_8 := am (Kd.R_after (v := (.slice (some ⟨go38, 0, none⟩) t178.length co38)) (v1 := (.slice (some ⟨go38, 0, none⟩) t178.length co38)) (ok := (fun k_ => some k_ ≠ (.slice (some ⟨go17, 0, none⟩) x4_4.length co18 : Value).ownBlock ∧ some k_ ≠ (.slice Ao19 x5_4.length co19 : Value).ownBlock)) (pRq2 HO_8) hg (.inl rfl)); replace HO180 := am (hp_); replace HB := am ((zq33 : Below w.heap.size w w53)); clear hg hw hp_) | (go_at_call 26; refine calls_of_args (args' := #[.slice (some ad174) l0.length c0, .slice (some ⟨go38, 0, none⟩) y184.length co38]) zq30 ?_; (with_reducible refine (spec_alPlace.calls k4 _ _ l0 _ _ y184 t185 _ ?side1 ?side2 ?side3 ?side4 A41.out).mono ?_); (case side1 => exact zq8); (case side2 => exact HC0.out); (case side3 => exact zq21); (case side4 => exact zq32); rintro e w' ⟨rfl, ⟨nd, rfl⟩⟩; (try first | exact ⟨rfl, _, World.drewN_drewN _ _ _⟩ | exact ⟨rfl, _, Eq.trans (World.drewN_drewN _ _ _) (congrArg (World.drewN _) (Nat.add_assoc _ _ _))⟩); have p186 : 0 ≤ (t185 : Int) := of_decide_eq_true zq0; have q186 : t185 < (x4_4.length : Int) := of_decide_eq_true zq0; obtain ⟨ad186, e186, hx186_0⟩ := Kd.at_int (Kd.R_reads' HO_4.out).2.2 t185 p186 q186; obtain rfl : (⟨go17, 0, none⟩ : Addr) = ad186 := (by injection e186); (first | simp only [add_plain] at hx186_0 | simp only [add_at] at hx186_0 | simp only [Addr.add, Nat.zero_add] at hx186_0 | skip); replace p186 := eq_true p186; replace q186 := eq_true q186; have p187 : 0 ≤ (x28_2 : Int) := of_decide_eq_true zq0; have q187 : x28_2 < (x4_4.length : Int) := of_decide_eq_true zq0; obtain ⟨ad187, e187, hx187_0⟩ := Kd.at_int (Kd.R_reads' HO_4.out).2.2 x28_2 p187 q187; obtain rfl : (⟨go17, 0, none⟩ : Addr) = ad187 := (by injection e187); (first | simp only [add_plain] at hx187_0 | simp only [add_at] at hx187_0 | simp only [Addr.add, Nat.zero_add] at hx187_0 | skip); replace p187 := eq_true p187; replace q187 := eq_true q187; have p47 : 0 ≤ (t185 : Int) := of_decide_eq_true zq0; have q47 : (t185 : Int) < ((x4_4.length : Int) : Int) := of_decide_eq_true zq0; obtain ⟨hx47_0, hf47_0⟩ := Kd.R_celln 0 HO_4.out (t185 : Int) p47 q47; replace p47 := eq_true p47; replace q47 := eq_true q47; have n_ := am (Kd.R_mono (ok' := (fun k_ => some k_ ≠ (.slice Ao19 x5_4.length co19 : Value).ownBlock ∧ some k_ ≠ (u8 : Value).ownBlock ∧ some k_ ≠ (.slice (some ⟨go38, 0, none⟩) t178.length co38 : Value).ownBlock)) HO_4.out (fun k_ hk => ⟨hk.1.1, ⟨hk.1.2, hk.2⟩⟩)); clear HO_4; have HO_4 := n_; clear n_; obtain ⟨hy54_, hz54_⟩ := Kd.R_celln 0 HO_4.out (t185 : Int) (of_decide_eq_true zq0) (of_decide_eq_true zq0); have HP54 := Kd.R_putg HO_4.out (t185 : Int) (rd x4_4 x28_2)) | ((with_reducible refine gate_store (t := 3) (p := 107) rfl ?_); (try (rw [drewN_self w53]; generalize hq_ : World.drewN w53 _ = w53; replace HO_4 := am (Kd.R_at hq_ HO_4.out); replace HO_5 := am (Kd.R_at hq_ HO_5.out); replace HO_8 := am (Kd.R_at hq_ HO_8.out); replace HO180 := am (Kd.R_at hq_ HO180.out); replace HB := am (below_at hq_ HB.out); clear hq_; (try (have n_ := am (Kd.R_mono (ok' := (fun k_ => some k_ ≠ (.slice Ao19 x5_4.length co19 : Value).ownBlock ∧ some k_ ≠ (u8 : Value).ownBlock ∧ some k_ ≠ (.slice (some ⟨go38, 0, none⟩) t178.length co38 : Value).ownBlock)) HO_4.out (fun k_ hk => ⟨hk.1.1, ⟨hk.1.2, hk.2⟩⟩)); clear HO_4; have HO_4 := n_; clear n_)); (try (obtain ⟨hy54_, hz54_⟩ := Kd.R_celln 0 HO_4.out (t185 : Int) (of_decide_eq_true zq0) (of_decide_eq_true zq0))); (try (have HP54 := Kd.R_putg HO_4.out (t185 : Int) (rd x4_4 x28_2))))); refine store_event (t := 3) (p := 107) (v := ?vo_w55) (w1 := (w53.setCell ⟨go17, (t185 : Int).toNat, none⟩ (.int .i64 (rd x4_4 x28_2)))) ?hg ?ho ?hn ?hr ?_; (case ho => rfl); (case hg => rfl); (case hn => rfl); (case hr => exact zq10); intro w55 hw; have hg : w53.grownBy w55 (some go17) := (by rw [hw]; exact HP54.2); have hp_ : Kd.R (Kd.int .i64) 3 w55 w.heap.size (fun k_ => some k_ ≠ (.slice Ao19 x5_4.length co19 : Value).ownBlock ∧ some k_ ≠ (u8 : Value).ownBlock ∧ some k_ ≠ (.slice (some ⟨go38, 0, none⟩) t178.length co38 : Value).ownBlock) (.slice (some ⟨go17, 0, none⟩) x4_4.length co18) y188 := (by rw [hw, Ny188.out]; exact HP54.1); clear HP54; replace HO_4 := am (hp_); replace HO_5 := am (Kd.R_after (v := (.slice (some ⟨go17, 0, none⟩) x4_4.length co18)) (v1 := (.slice (some ⟨go17, 0, none⟩) x4_4.length co18)) (ok := (fun k_ => some k_ ≠ (u8 : Value).ownBlock ∧ some k_ ≠ (.slice (some ⟨go38, 0, none⟩) t178.length co38 : Value).ownBlock)) zq49 hg (.inl rfl)); replace HO_8 := am (Kd.R_after (v := (.slice (some ⟨go17, 0, none⟩) x4_4.length co18)) (v1 := (.slice (some ⟨go17, 0, none⟩) x4_4.length co18)) (ok := (fun k_ => some k_ ≠ (.slice Ao19 x5_4.length co19 : Value).ownBlock ∧ some k_ ≠ (.slice (some ⟨go38, 0, none⟩) t178.length co38 : Value).ownBlock)) zq46 hg (.inl rfl)); replace HO180 := am (Kd.R_after (v := (.slice (some ⟨go17, 0, none⟩) x4_4.length co18)) (v1 := (.slice (some ⟨go17, 0, none⟩) x4_4.length co18)) (ok := (fun k_ => some k_ ≠ (.slice Ao19 x5_4.length co19 : Value).ownBlock ∧ some k_ ≠ (u8 : Value).ownBlock)) zq44 hg (.inl rfl)); replace HB := am ((zq67 : Below w.heap.size w w55)); clear hg hw hp_) | ((with_reducible refine gate_builtin (b := .append) (xs := #[.tmp 108, .tmp 110]) rfl ?_); at_builtin; refine Kd.R_append (Kd.int .i64) (w0 := w) w.heap.size rfl (.tmp 108) (.tmp 110) 22 3 (.int .i64 0) 8 rfl Try.underlying22 info3 rfl zq34 zq11 u8 x8_4 t185 [.int .i64 t185] (fun k_ => some k_ ≠ (.slice (some ⟨go17, 0, none⟩) x4_4.length co18 : Value).ownBlock ∧ some k_ ≠ (.slice Ao19 x5_4.length co19 : Value).ownBlock ∧ some k_ ≠ (.slice (some ⟨go38, 0, none⟩) t178.length co38 : Value).ownBlock) (fun _ => False) rfl rfl ?aP (fun _ hk => hk.elim) ?aF ?aO ?aB ?aS ?aL ?_; (case aP => exact rfl); (case aB => exact (pBq2 HB)); (case aF => exact zq59); (case aO => exact zq47); (case aS => exact (below_size (pBq2 HB))); (case aL => have := LMc48.out; omega); intro v190 w56 ho hb hg hat; rw [← Ny189.out] at ho; have HO191 := am (ho); replace HO_4 := am (Kd.R_after (ok := (fun k_ => some k_ ≠ (.slice Ao19 x5_4.length co19 : Value).ownBlock ∧ some k_ ≠ (.slice (some ⟨go38, 0, none⟩) t178.length co38 : Value).ownBlock)) zq50 hg hat); replace HO_5 := am (Kd.R_after (ok := (fun k_ => some k_ ≠ (.slice (some ⟨go17, 0, none⟩) x4_4.length co18 : Value).ownBlock ∧ some k_ ≠ (.slice (some ⟨go38, 0, none⟩) t178.length co38 : Value).ownBlock)) zq48 hg hat); replace HO180 := am (Kd.R_after (ok := (fun k_ => some k_ ≠ (.slice (some ⟨go17, 0, none⟩) x4_4.length co18 : Value).ownBlock ∧ some k_ ≠ (.slice Ao19 x5_4.length co19 : Value).ownBlock)) zq45 hg hat); replace HB := am (hb); clear HO_8; clear ho hb hg hat)))
                                 (try simp only [← hl4_4, ← hl5_4])
                                 go_roundg k4
                                 case measure => have := HK1.out; have := HK2.out; have := HK3.out; have := HK4.out; omega
                                 case rel => exact ⟨(y188), (x5_4), (y189), (ji32), zq69, H', ⟨zq62⟩, ⟨by (try simp only [hl4_3]); (try simp only [hl5_3]); (try simp only [hl4_4]); (try simp only [hl5_4]); (with_reducible repeat (first | apply Kd.R_alloc | apply Kd.R_drewN | apply Kd.R_drew)); exact Kd.R_mono HO_4.out (fun _ hk => ⟨hk.1.1, hk.2⟩)⟩, ⟨by (try simp only [hl4_3]); (try simp only [hl5_3]); (try simp only [hl4_4]); (try simp only [hl5_4]); (with_reducible repeat (first | apply Kd.R_alloc | apply Kd.R_drewN | apply Kd.R_drew)); exact Kd.R_mono HO_5.out (fun _ hk => ⟨hk.1.1, hk.2⟩)⟩, ⟨by (try simp only [hl4_3]); (try simp only [hl5_3]); (try simp only [hl4_4]); (try simp only [hl5_4]); (with_reducible repeat (first | apply Kd.R_alloc | apply Kd.R_drewN | apply Kd.R_drew)); exact Kd.R_mono HO191.out (fun _ hk => ⟨hk.1, hk.2.1⟩)⟩, ⟨zq1⟩⟩
                                ·rw [if_neg c48] at H
                                 exact absurd H zq25
                               ·rw [if_neg c46] at H
                                exact absurd H zq25
                              ·rw [if_neg c45] at H
                               exact absurd H zq25
                             ·rw [if_neg c44] at H
                              have c44b0 : decide ((rd x4_4 t185) < 0) = false := decide_eq_false c44
                              clear c44
                              have H' := am H
                              clear H
                              have p175 : 0 ≤ (x11_4 : Int) := of_decide_eq_true zq0
                              have q175 : x11_4 < ((rd_L1 l0 (rd x8_3 x9_3)).length : Int) := of_decide_eq_true zq0
                              obtain ⟨ad175, e175, hx175_0⟩ := Kd.at_int HR174_0.out x11_4 p175 q175
                              cases e175
                              replace hx175_0 := (HB.out.cell (World.block_lt_of_cell? w _ hx175_0)).trans hx175_0
                              replace p175 := eq_true p175
                              replace q175 := eq_true q175
                              have p176 : 0 ≤ ((ji32) : Int) := of_decide_eq_true zq0
                              have q176 : (ji32) < ((rd_L1 l0 (rd x8_3 x9_3)).length : Int) := of_decide_eq_true zq0
                              obtain ⟨ad176, e176, hx176_0⟩ := Kd.at_int HR174_0.out (ji32) p176 q176
                              obtain rfl : ad175 = ad176 := (by injection e176)
                              replace hx176_0 := (HB.out.cell (World.block_lt_of_cell? w _ hx176_0)).trans hx176_0
                              replace p176 := eq_true p176
                              replace q176 := eq_true q176
                              go_wp2_with (first | (go_at_call 24; (with_reducible refine (spec_l1Abs.calls (wrap64 ((rd (rd_L1 l0 (rd x8_3 x9_3)) x11_4) - (rd (rd_L1 l0 (rd x8_3 x9_3)) (ji32)))) t177 _ A34.out).mono ?_); rintro e w' ⟨rfl, ⟨nd, rfl⟩⟩; (try first | exact ⟨rfl, _, World.drewN_drewN _ _ _⟩ | exact ⟨rfl, _, Eq.trans (World.drewN_drewN _ _ _) (congrArg (World.drewN _) (Nat.add_assoc _ _ _))⟩)) | (go_at_call 25; (with_reducible refine (spec_l1Own.calls _ _ (rd_L1 l0 (rd x8_3 x9_3)) t178 _ ?side1 ?side2 A36.out).mono ?_); (case side1 => exact zq18); (case side2 => exact HC174_0.out); rintro e w57 ⟨v179, rfl, ho0, hb⟩; have HO180 := am (Kd.R_lower (Kd.R_new' (Kd.R_new' (Kd.R_new' ho0 (Kd.R_lt (pRq2 HO_4))) (Kd.R_lt (pRq2 HO_5))) (Kd.R_lt (pRq2 HO_8))) (below_size (pBq2 HB))); replace HO_4 := am (Kd.R_elder' (pRq2 HO_4) (Kd.R_base ho0) hb); replace HO_5 := am (Kd.R_elder' (pRq2 HO_5) (Kd.R_base ho0) hb); replace HO_8 := am (Kd.R_elder' (pRq2 HO_8) (Kd.R_base ho0) hb); replace HB := am (below_step (pBq2 HB) hb); (try clear hb hk ho0); have p181 : 0 ≤ ((ji32) : Int) := of_decide_eq_true zq0; have q181 : (ji32) < ((rd_L1 l0 (rd x8_3 x9_3)).length : Int) := of_decide_eq_true zq0; obtain ⟨ad181, e181, hx181_0⟩ := Kd.at_int HR174_0.out (ji32) p181 q181; obtain rfl : ad175 = ad181 := (by injection e181); replace hx181_0 := (HB.out.cell (World.block_lt_of_cell? w _ hx181_0)).trans hx181_0; replace p181 := eq_true p181; replace q181 := eq_true q181; have p38 : 0 ≤ (x11_4 : Int) := of_decide_eq_true zq0; have q38 : (x11_4 : Int) < ((t178.length : Int) : Int) := of_decide_eq_true zq0; obtain ⟨go38, co38, eo38, gb38, gl38, cl38, HG38⟩ := Kd.R_form HO180.out zq11; (first | cases eo38 | (injection eo38 with ea_ en_ ec_; (first | subst ea_ | (injection ea_ with ea_; subst ea_)); subst ec_; clear en_)); have GB38 := am gb38; have GG38 := am HG38; clear gb38 gl38 HG38; obtain ⟨hx38_0, hf38_0⟩ := Kd.R_celln 0 HO180.out (x11_4 : Int) p38 q38; replace p38 := eq_true p38; replace q38 := eq_true q38; have n_ := am (Kd.R_mono (ok' := (fun k_ => some k_ ≠ (.slice (some ⟨go17, 0, none⟩) x4_4.length co18 : Value).ownBlock ∧ some k_ ≠ (.slice Ao19 x5_4.length co19 : Value).ownBlock ∧ some k_ ≠ (u8 : Value).ownBlock)) HO180.out (fun k_ hk => ⟨hk.1.1.2, ⟨hk.1.2, hk.2⟩⟩)); clear HO180; have HO180 := n_; clear n_; obtain ⟨hy58_, hz58_⟩ := Kd.R_celln 0 HO180.out (x11_4 : Int) (of_decide_eq_true zq0) (of_decide_eq_true zq0); have HP58 := Kd.R_putg HO180.out (x11_4 : Int) (rd (rd_L1 l0 (rd x8_3 x9_3)) (ji32))) | ((with_reducible refine gate_store (t := 3) (p := 84) rfl ?_); (try (rw [drewN_self w57]; generalize hq_ : World.drewN w57 _ = w57; replace HO_4 := am (Kd.R_at hq_ HO_4.out); replace HO_5 := am (Kd.R_at hq_ HO_5.out); replace HO_8 := am (Kd.R_at hq_ HO_8.out); replace HO180 := am (Kd.R_at hq_ HO180.out); replace HB := am (below_at hq_ HB.out); clear hq_; (try (have n_ := am (Kd.R_mono (ok' := (fun k_ => some k_ ≠ (.slice (some ⟨go17, 0, none⟩) x4_4.length co18 : Value).ownBlock ∧ some k_ ≠ (.slice Ao19 x5_4.length co19 : Value).ownBlock ∧ some k_ ≠ (u8 : Value).ownBlock)) HO180.out (fun k_ hk => ⟨hk.1.1.2, ⟨hk.1.2, hk.2⟩⟩)); clear HO180; have HO180 := n_; clear n_)); (try (obtain ⟨hy58_, hz58_⟩ := Kd.R_celln 0 HO180.out (x11_4 : Int) (of_decide_eq_true zq0) (of_decide_eq_true zq0))); (try (have HP58 := Kd.R_putg HO180.out (x11_4 : Int) (rd (rd_L1 l0 (rd x8_3 x9_3)) (ji32)))))); refine store_event (t := 3) (p := 84) (v := ?vo_w59) (w1 := (w57.setCell ⟨go38, (x11_4 : Int).toNat, none⟩ (.int .i64 (rd (rd_L1 l0 (rd x8_3 x9_3)) (ji32))))) ?hg ?ho ?hn ?hr ?_; (case ho => rfl); (case hg => rfl); (case hn => rfl); (case hr => exact zq10); intro w59 hw; have hg : w57.grownBy w59 (some go38) := (by rw [hw]; exact HP58.2); have hp_ : Kd.R (Kd.int .i64) 3 w59 w.heap.size (fun k_ => some k_ ≠ (.slice (some ⟨go17, 0, none⟩) x4_4.length co18 : Value).ownBlock ∧ some k_ ≠ (.slice Ao19 x5_4.length co19 : Value).ownBlock ∧ some k_ ≠ (u8 : Value).ownBlock) (.slice (some ⟨go38, 0, none⟩) t178.length co38) y182 := (by rw [hw, Ny182.out]; exact HP58.1); clear HP58; replace HO_4 := am (Kd.R_after (v := (.slice (some ⟨go38, 0, none⟩) t178.length co38)) (v1 := (.slice (some ⟨go38, 0, none⟩) t178.length co38)) (ok := (fun k_ => some k_ ≠ (.slice Ao19 x5_4.length co19 : Value).ownBlock ∧ some k_ ≠ (u8 : Value).ownBlock)) (pRq2 HO_4) hg (.inl rfl)); replace HO_5 := am (Kd.R_after (v := (.slice (some ⟨go38, 0, none⟩) t178.length co38)) (v1 := (.slice (some ⟨go38, 0, none⟩) t178.length co38)) (ok := (fun k_ => some k_ ≠ (.slice (some ⟨go17, 0, none⟩) x4_4.length co18 : Value).ownBlock ∧ some k_ ≠ (u8 : Value).ownBlock)) (pRq2 HO_5) hg (.inl rfl)); replace HO_8 := am (Kd.R_after (v := (.slice (some ⟨go38, 0, none⟩) t178.length co38)) (v1 := (.slice (some ⟨go38, 0, none⟩) t178.length co38)) (ok := (fun k_ => some k_ ≠ (.slice (some ⟨go17, 0, none⟩) x4_4.length co18 : Value).ownBlock ∧ some k_ ≠ (.slice Ao19 x5_4.length co19 : Value).ownBlock)) (pRq2 HO_8) hg (.inl rfl)); replace HO180 := am (hp_); replace HB := am ((zq33 : Below w.heap.size w w59)); clear hg hw hp_; have p183 : 0 ≤ (x11_4 : Int) := of_decide_eq_true zq0; have q183 : x11_4 < ((rd_L1 l0 (rd x8_3 x9_3)).length : Int) := of_decide_eq_true zq0; obtain ⟨ad183, e183, hx183_0⟩ := Kd.at_int HR174_0.out x11_4 p183 q183; obtain rfl : ad175 = ad183 := (by injection e183); replace hx183_0 := (HB.out.cell (World.block_lt_of_cell? w _ hx183_0)).trans hx183_0; replace p183 := eq_true p183; replace q183 := eq_true q183; have p40 : 0 ≤ ((ji32) : Int) := of_decide_eq_true zq0; have q40 : ((ji32) : Int) < ((t178.length : Int) : Int) := of_decide_eq_true zq0; obtain ⟨hx40_0, hf40_0⟩ := Kd.R_celln 0 HO180.out ((ji32) : Int) p40 q40; replace p40 := eq_true p40; replace q40 := eq_true q40; obtain ⟨hy60_, hz60_⟩ := Kd.R_celln 0 HO180.out ((ji32) : Int) (of_decide_eq_true zq0) (of_decide_eq_true zq0); have HP60 := Kd.R_putg HO180.out ((ji32) : Int) (rd (rd_L1 l0 (rd x8_3 x9_3)) x11_4)) | ((with_reducible refine gate_store (t := 3) (p := 92) rfl ?_); (try (rw [drewN_self w59]; generalize hq_ : World.drewN w59 _ = w59; replace HO_4 := am (Kd.R_at hq_ HO_4.out); replace HO_5 := am (Kd.R_at hq_ HO_5.out); replace HO_8 := am (Kd.R_at hq_ HO_8.out); replace HO180 := am (Kd.R_at hq_ HO180.out); replace HB := am (below_at hq_ HB.out); clear hq_; (try (obtain ⟨hy60_, hz60_⟩ := Kd.R_celln 0 HO180.out ((ji32) : Int) (of_decide_eq_true zq0) (of_decide_eq_true zq0))); (try (have HP60 := Kd.R_putg HO180.out ((ji32) : Int) (rd (rd_L1 l0 (rd x8_3 x9_3)) x11_4))))); refine store_event (t := 3) (p := 92) (v := ?vo_w61) (w1 := (w59.setCell ⟨go38, ((ji32) : Int).toNat, none⟩ (.int .i64 (rd (rd_L1 l0 (rd x8_3 x9_3)) x11_4)))) ?hg ?ho ?hn ?hr ?_; (case ho => rfl); (case hg => rfl); (case hn => rfl); (case hr => exact zq10); intro w61 hw; have hg : w59.grownBy w61 (some go38) := (by rw [hw]; exact HP60.2); have hp_ : Kd.R (Kd.int .i64) 3 w61 w.heap.size (fun k_ => some k_ ≠ (.slice (some ⟨go17, 0, none⟩) x4_4.length co18 : Value).ownBlock ∧ some k_ ≠ (.slice Ao19 x5_4.length co19 : Value).ownBlock ∧ some k_ ≠ (u8 : Value).ownBlock) (.slice (some ⟨go38, 0, none⟩) t178.length co38) y184 := (by rw [hw, Ny184.out]; exact HP60.1); clear HP60; replace HO_4 := am (Kd.R_after (v := (.slice (some ⟨go38, 0, none⟩) t178.length co38)) (v1 := (.slice (some ⟨go38, 0, none⟩) t178.length co38)) (ok := (fun k_ => some k_ ≠ (.slice Ao19 x5_4.length co19 : Value).ownBlock ∧ some k_ ≠ (u8 : Value).ownBlock)) (pRq2 HO_4) hg (.inl rfl)); replace HO_5 := am (Kd.R_after (v := (.slice (some ⟨go38, 0, none⟩) t178.length co38)) (v1 := (.slice (some ⟨go38, 0, none⟩) t178.length co38)) (ok := (fun k_ => some k_ ≠ (.slice (some ⟨go17, 0, none⟩) x4_4.length co18 : Value).ownBlock ∧ some k_ ≠ (u8 : Value).ownBlock)) (pRq2 HO_5) hg (.inl rfl)); replace HO_8 := am (Kd.R_after (v := (.slice (some ⟨go38, 0, none⟩) t178.length co38)) (v1 := (.slice (some ⟨go38, 0, none⟩) t178.length co38)) (ok := (fun k_ => some k_ ≠ (.slice (some ⟨go17, 0, none⟩) x4_4.length co18 : Value).ownBlock ∧ some k_ ≠ (.slice Ao19 x5_4.length co19 : Value).ownBlock)) (pRq2 HO_8) hg (.inl rfl)); replace HO180 := am (hp_); replace HB := am ((zq33 : Below w.heap.size w w61)); clear hg hw hp_) | (go_at_call 26; refine calls_of_args (args' := #[.slice (some ad174) l0.length c0, .slice (some ⟨go38, 0, none⟩) y184.length co38]) zq30 ?_; (with_reducible refine (spec_alPlace.calls k4 _ _ l0 _ _ y184 t185 _ ?side1 ?side2 ?side3 ?side4 A41.out).mono ?_); (case side1 => exact zq8); (case side2 => exact HC0.out); (case side3 => exact zq21); (case side4 => exact zq32); rintro e w' ⟨rfl, ⟨nd, rfl⟩⟩; (try first | exact ⟨rfl, _, World.drewN_drewN _ _ _⟩ | exact ⟨rfl, _, Eq.trans (World.drewN_drewN _ _ _) (congrArg (World.drewN _) (Nat.add_assoc _ _ _))⟩); have p186 : 0 ≤ (t185 : Int) := of_decide_eq_true zq0; have q186 : t185 < (x4_4.length : Int) := of_decide_eq_true zq0; obtain ⟨ad186, e186, hx186_0⟩ := Kd.at_int (Kd.R_reads' HO_4.out).2.2 t185 p186 q186; obtain rfl : (⟨go17, 0, none⟩ : Addr) = ad186 := (by injection e186); (first | simp only [add_plain] at hx186_0 | simp only [add_at] at hx186_0 | simp only [Addr.add, Nat.zero_add] at hx186_0 | skip); replace p186 := eq_true p186; replace q186 := eq_true q186))
                              repeat (go_quiet (first | (go_at_call 24; (with_reducible refine (spec_l1Abs.calls (wrap64 ((rd (rd_L1 l0 (rd x8_3 x9_3)) x11_4) - (rd (rd_L1 l0 (rd x8_3 x9_3)) (ji32)))) t177 _ A34.out).mono ?_); rintro e w' ⟨rfl, ⟨nd, rfl⟩⟩; (try first | exact ⟨rfl, _, World.drewN_drewN _ _ _⟩ | exact ⟨rfl, _, Eq.trans (World.drewN_drewN _ _ _) (congrArg (World.drewN _) (Nat.add_assoc _ _ _))⟩)) | (go_at_call 25; (with_reducible refine (spec_l1Own.calls _ _ (rd_L1 l0 (rd x8_3 x9_3)) t178 _ ?side1 ?side2 A36.out).mono ?_); (case side1 => exact zq18); (case side2 => exact HC174_0.out); rintro e w57 ⟨v179, rfl, ho0, hb⟩; have HO180 := am (Kd.R_lower (Kd.R_new' (Kd.R_new' (Kd.R_new' ho0 (Kd.R_lt (pRq2 HO_4))) (Kd.R_lt (pRq2 HO_5))) (Kd.R_lt (pRq2 HO_8))) (below_size (pBq2 HB))); replace HO_4 := am (Kd.R_elder' (pRq2 HO_4) (Kd.R_base ho0) hb); replace HO_5 := am (Kd.R_elder' (pRq2 HO_5) (Kd.R_base ho0) hb); replace HO_8 := am (Kd.R_elder' (pRq2 HO_8) (Kd.R_base ho0) hb); replace HB := am (below_step (pBq2 HB) hb); (try clear hb hk ho0); have p181 : 0 ≤ ((ji32) : Int) := of_decide_eq_true zq0; have q181 : (ji32) < ((rd_L1 l0 (rd x8_3 x9_3)).length : Int) := of_decide_eq_true zq0; obtain ⟨ad181, e181, hx181_0⟩ := Kd.at_int HR174_0.out (ji32) p181 q181; obtain rfl : ad175 = ad181 := (by injection e181); replace hx181_0 := (HB.out.cell (World.block_lt_of_cell? w _ hx181_0)).trans hx181_0; replace p181 := eq_true p181; replace q181 := eq_true q181; have p38 : 0 ≤ (x11_4 : Int) := of_decide_eq_true zq0; have q38 : (x11_4 : Int) < ((t178.length : Int) : Int) := of_decide_eq_true zq0; obtain ⟨go38, co38, eo38, gb38, gl38, cl38, HG38⟩ := Kd.R_form HO180.out zq11; (first | cases eo38 | (injection eo38 with ea_ en_ ec_; (first | subst ea_ | (injection ea_ with ea_; subst ea_)); subst ec_; clear en_)); have GB38 := am gb38; have GG38 := am HG38; clear gb38 gl38 HG38; obtain ⟨hx38_0, hf38_0⟩ := Kd.R_celln 0 HO180.out (x11_4 : Int) p38 q38; replace p38 := eq_true p38; replace q38 := eq_true q38; have n_ := am (Kd.R_mono (ok' := (fun k_ => some k_ ≠ (.slice (some ⟨go17, 0, none⟩) x4_4.length co18 : Value).ownBlock ∧ some k_ ≠ (.slice Ao19 x5_4.length co19 : Value).ownBlock ∧ some k_ ≠ (u8 : Value).ownBlock)) HO180.out (fun k_ hk => ⟨hk.1.1.2, ⟨hk.1.2, hk.2⟩⟩)); clear HO180; have HO180 := n_; clear n_; obtain ⟨hy58_, hz58_⟩ := Kd.R_celln 0 HO180.out (x11_4 : Int) (of_decide_eq_true zq0) (of_decide_eq_true zq0); have HP58 := Kd.R_putg HO180.out (x11_4 : Int) (rd (rd_L1 l0 (rd x8_3 x9_3)) (ji32))) | ((with_reducible refine gate_store (t := 3) (p := 84) rfl ?_); (try (rw [drewN_self w57]; generalize hq_ : World.drewN w57 _ = w57; replace HO_4 := am (Kd.R_at hq_ HO_4.out); replace HO_5 := am (Kd.R_at hq_ HO_5.out); replace HO_8 := am (Kd.R_at hq_ HO_8.out); replace HO180 := am (Kd.R_at hq_ HO180.out); replace HB := am (below_at hq_ HB.out); clear hq_; (try (have n_ := am (Kd.R_mono (ok' := (fun k_ => some k_ ≠ (.slice (some ⟨go17, 0, none⟩) x4_4.length co18 : Value).ownBlock ∧ some k_ ≠ (.slice Ao19 x5_4.length co19 : Value).ownBlock ∧ some k_ ≠ (u8 : Value).ownBlock)) HO180.out (fun k_ hk => ⟨hk.1.1.2, ⟨hk.1.2, hk.2⟩⟩)); clear HO180; have HO180 := n_; clear n_)); (try (obtain ⟨hy58_, hz58_⟩ := Kd.R_celln 0 HO180.out (x11_4 : Int) (of_decide_eq_true zq0) (of_decide_eq_true zq0))); (try (have HP58 := Kd.R_putg HO180.out (x11_4 : Int) (rd (rd_L1 l0 (rd x8_3 x9_3)) (ji32)))))); refine store_event (t := 3) (p := 84) (v := ?vo_w59) (w1 := (w57.setCell ⟨go38, (x11_4 : Int).toNat, none⟩ (.int .i64 (rd (rd_L1 l0 (rd x8_3 x9_3)) (ji32))))) ?hg ?ho ?hn ?hr ?_; (case ho => rfl); (case hg => rfl); (case hn => rfl); (case hr => exact zq10); intro w59 hw; have hg : w57.grownBy w59 (some go38) := (by rw [hw]; exact HP58.2); have hp_ : Kd.R (Kd.int .i64) 3 w59 w.heap.size (fun k_ => some k_ ≠ (.slice (some ⟨go17, 0, none⟩) x4_4.length co18 : Value).ownBlock ∧ some k_ ≠ (.slice Ao19 x5_4.length co19 : Value).ownBlock ∧ some k_ ≠ (u8 : Value).ownBlock) (.slice (some ⟨go38, 0, none⟩) t178.length co38) y182 := (by rw [hw, Ny182.out]; exact HP58.1); clear HP58; replace HO_4 := am (Kd.R_after (v := (.slice (some ⟨go38, 0, none⟩) t178.length co38)) (v1 := (.slice (some ⟨go38, 0, none⟩) t178.length co38)) (ok := (fun k_ => some k_ ≠ (.slice Ao19 x5_4.length co19 : Value).ownBlock ∧ some k_ ≠ (u8 : Value).ownBlock)) (pRq2 HO_4) hg (.inl rfl)); replace HO_5 := am (Kd.R_after (v := (.slice (some ⟨go38, 0, none⟩) t178.length co38)) (v1 := (.slice (some ⟨go38, 0, none⟩) t178.length co38)) (ok := (fun k_ => some k_ ≠ (.slice (some ⟨go17, 0, none⟩) x4_4.length co18 : Value).ownBlock ∧ some k_ ≠ (u8 : Value).ownBlock)) (pRq2 HO_5) hg (.inl rfl)); replace HO_8 := am (Kd.R_after (v := (.slice (some ⟨go38, 0, none⟩) t178.length co38)) (v1 := (.slice (some ⟨go38, 0, none⟩) t178.length co38)) (ok := (fun k_ => some k_ ≠ (.slice (some ⟨go17, 0, none⟩) x4_4.length co18 : Value).ownBlock ∧ some k_ ≠ (.slice Ao19 x5_4.length co19 : Value).ownBlock)) (pRq2 HO_8) hg (.inl rfl)); replace HO180 := am (hp_); replace HB := am ((zq33 : Below w.heap.size w w59)); clear hg hw hp_; have p183 : 0 ≤ (x11_4 : Int) := of_decide_eq_true zq0; have q183 : x11_4 < ((rd_L1 l0 (rd x8_3 x9_3)).length : Int) := of_decide_eq_true zq0; obtain ⟨ad183, e183, hx183_0⟩ := Kd.at_int HR174_0.out x11_4 p183 q183; obtain rfl : ad175 = ad183 := (by injection e183); replace hx183_0 := (HB.out.cell (World.block_lt_of_cell? w _ hx183_0)).trans hx183_0; replace p183 := eq_true p183; replace q183 := eq_true q183; have p40 : 0 ≤ ((ji32) : Int) := of_decide_eq_true zq0; have q40 : ((ji32) : Int) < ((t178.length : Int) : Int) := of_decide_eq_true zq0; obtain ⟨hx40_0, hf40_0⟩ := Kd.R_celln 0 HO180.out ((ji32) : Int) p40 q40; replace p40 := eq_true p40; replace q40 := eq_true q40; obtain ⟨hy60_, hz60_⟩ := Kd.R_celln 0 HO180.out ((ji32) : Int) (of_decide_eq_true zq0) (of_decide_eq_true zq0); have HP60 := Kd.R_putg HO180.out ((ji32) : Int) (rd (rd_L1 l0 (rd x8_3 x9_3)) x11_4)) | ((with_reducible refine gate_store (t := 3) (p := 92) rfl ?_); (try (rw [drewN_self w59]; generalize hq_ : World.drewN w59 _ = w59; replace HO_4 := am (Kd.R_at hq_ HO_4.out); replace HO_5 := am (Kd.R_at hq_ HO_5.out); replace HO_8 := am (Kd.R_at hq_ HO_8.out); replace HO180 := am (Kd.R_at hq_ HO180.out); replace HB := am (below_at hq_ HB.out); clear hq_; (try (obtain ⟨hy60_, hz60_⟩ := Kd.R_celln 0 HO180.out ((ji32) : Int) (of_decide_eq_true zq0) (of_decide_eq_true zq0))); (try (have HP60 := Kd.R_putg HO180.out ((ji32) : Int) (rd (rd_L1 l0 (rd x8_3 x9_3)) x11_4))))); refine store_event (t := 3) (p := 92) (v := ?vo_w61) (w1 := (w59.setCell ⟨go38, ((ji32) : Int).toNat, none⟩ (.int .i64 (rd (rd_L1 l0 (rd x8_3 x9_3)) x11_4)))) ?hg ?ho ?hn ?hr ?_; (case ho => rfl); (case hg => rfl); (case hn => rfl); (case hr => exact zq10); intro w61 hw; have hg : w59.grownBy w61 (some go38) := (by rw [hw]; exact HP60.2); have hp_ : Kd.R (Kd.int .i64) 3 w61 w.heap.size (fun k_ => some k_ ≠ (.slice (some ⟨go17, 0, none⟩) x4_4.length co18 : Value).ownBlock ∧ some k_ ≠ (.slice Ao19 x5_4.length co19 : Value).ownBlock ∧ some k_ ≠ (u8 : Value).ownBlock) (.slice (some ⟨go38, 0, none⟩) t178.length co38) y184 := (by rw [hw, Ny184.out]; exact HP60.1); clear HP60; replace HO_4 := am (Kd.R_after (v := (.slice (some ⟨go38, 0, none⟩) t178.length co38)) (v1 := (.slice (some ⟨go38, 0, none⟩) t178.length co38)) (ok := (fun k_ => some k_ ≠ (.slice Ao19 x5_4.length co19 : Value).ownBlock ∧ some k_ ≠ (u8 : Value).ownBlock)) (pRq2 HO_4) hg (.inl rfl)); replace HO_5 := am (Kd.R_after (v := (.slice (some ⟨go38, 0, none⟩) t178.length co38)) (v1 := (.slice (some ⟨go38, 0, none⟩) t178.length co38)) (ok := (fun k_ => some k_ ≠ (.slice (some ⟨go17, 0, none⟩) x4_4.length co18 : Value).ownBlock ∧ some k_ ≠ (u8 : Value).ownBlock)) (pRq2 HO_5) hg (.inl rfl)); replace HO_8 := am (Kd.R_after (v := (.slice (some ⟨go38, 0, none⟩) t178.length co38)) (v1 := (.slice (some ⟨go38, 0, none⟩) t178.length co38)) (ok := (fun k_ => some k_ ≠ (.slice (some ⟨go17, 0, none⟩) x4_4.length co18 : Value).ownBlock ∧ some k_ ≠ (.slice Ao19 x5_4.length co19 : Value).ownBlock)) (pRq2 HO_8) hg (.inl rfl)); replace HO180 := am (hp_); replace HB := am ((zq33 : Below w.heap.size w w61)); clear hg hw hp_) | (go_at_call 26; refine calls_of_args (args' := #[.slice (some ad174) l0.length c0, .slice (some ⟨go38, 0, none⟩) y184.length co38]) zq30 ?_; (with_reducible refine (spec_alPlace.calls k4 _ _ l0 _ _ y184 t185 _ ?side1 ?side2 ?side3 ?side4 A41.out).mono ?_); (case side1 => exact zq8); (case side2 => exact HC0.out); (case side3 => exact zq21); (case side4 => exact zq32); rintro e w' ⟨rfl, ⟨nd, rfl⟩⟩; (try first | exact ⟨rfl, _, World.drewN_drewN _ _ _⟩ | exact ⟨rfl, _, Eq.trans (World.drewN_drewN _ _ _) (congrArg (World.drewN _) (Nat.add_assoc _ _ _))⟩); have p186 : 0 ≤ (t185 : Int) := of_decide_eq_true zq0; have q186 : t185 < (x4_4.length : Int) := of_decide_eq_true zq0; obtain ⟨ad186, e186, hx186_0⟩ := Kd.at_int (Kd.R_reads' HO_4.out).2.2 t185 p186 q186; obtain rfl : (⟨go17, 0, none⟩ : Addr) = ad186 := (by injection e186); (first | simp only [add_plain] at hx186_0 | simp only [add_at] at hx186_0 | simp only [Addr.add, Nat.zero_add] at hx186_0 | skip); replace p186 := eq_true p186; replace q186 := eq_true q186)); try go_wp2_with (first | (go_at_call 24; (with_reducible refine (spec_l1Abs.calls (wrap64 ((rd (rd_L1 l0 (rd x8_3 x9_3)) x11_4) - (rd (rd_L1 l0 (rd x8_3 x9_3)) (ji32)))) t177 _ A34.out).mono ?_); rintro e w' ⟨rfl, ⟨nd, rfl⟩⟩; (try first | exact ⟨rfl, _, World.drewN_drewN _ _ _⟩ | exact ⟨rfl, _, Eq.trans (World.drewN_drewN _ _ _) (congrArg (World.drewN _) (Nat.add_assoc _ _ _))⟩)) | (go_at_call 25; (with_reducible refine (spec_l1Own.calls _ _ (rd_L1 l0 (rd x8_3 x9_3)) t178 _ ?side1 ?side2 A36.out).mono ?_); (case side1 => exact zq18); (case side2 => exact HC174_0.out); rintro e w57 ⟨v179, rfl, ho0, hb⟩; have HO180 := am (Kd.R_lower (Kd.R_new' (Kd.R_new' (Kd.R_new' ho0 (Kd.R_lt (pRq2 HO_4))) (Kd.R_lt (pRq2 HO_5))) (Kd.R_lt (pRq2 HO_8))) (below_size (pBq2 HB))); replace HO_4 := am (Kd.R_elder' (pRq2 HO_4) (Kd.R_base ho0) hb); replace HO_5 := am (Kd.R_elder' (pRq2 HO_5) (Kd.R_base ho0) hb); replace HO_8 := am (Kd.R_elder' (pRq2 HO_8) (Kd.R_base ho0) hb); replace HB := am (below_step (pBq2 HB) hb); (try clear hb hk ho0); have p181 : 0 ≤ ((ji32) : Int) := of_decide_eq_true zq0; have q181 : (ji32) < ((rd_L1 l0 (rd x8_3 x9_3)).length : Int) := of_decide_eq_true zq0; obtain ⟨ad181, e181, hx181_0⟩ := Kd.at_int HR174_0.out (ji32) p181 q181; obtain rfl : ad175 = ad181 := (by injection e181); replace hx181_0 := (HB.out.cell (World.block_lt_of_cell? w _ hx181_0)).trans hx181_0; replace p181 := eq_true p181; replace q181 := eq_true q181; have p38 : 0 ≤ (x11_4 : Int) := of_decide_eq_true zq0; have q38 : (x11_4 : Int) < ((t178.length : Int) : Int) := of_decide_eq_true zq0; obtain ⟨go38, co38, eo38, gb38, gl38, cl38, HG38⟩ := Kd.R_form HO180.out zq11; (first | cases eo38 | (injection eo38 with ea_ en_ ec_; (first | subst ea_ | (injection ea_ with ea_; subst ea_)); subst ec_; clear en_)); have GB38 := am gb38; have GG38 := am HG38; clear gb38 gl38 HG38; obtain ⟨hx38_0, hf38_0⟩ := Kd.R_celln 0 HO180.out (x11_4 : Int) p38 q38; replace p38 := eq_true p38; replace q38 := eq_true q38; have n_ := am (Kd.R_mono (ok' := (fun k_ => some k_ ≠ (.slice (some ⟨go17, 0, none⟩) x4_4.length co18 : Value).ownBlock ∧ some k_ ≠ (.slice Ao19 x5_4.length co19 : Value).ownBlock ∧ some k_ ≠ (u8 : Value).ownBlock)) HO180.out (fun k_ hk => ⟨hk.1.1.2, ⟨hk.1.2, hk.2⟩⟩)); clear HO180; have HO180 := n_; clear n_; obtain ⟨hy58_, hz58_⟩ := Kd.R_celln 0 HO180.out (x11_4 : Int) (of_decide_eq_true zq0) (of_decide_eq_true zq0); have HP58 := Kd.R_putg HO180.out (x11_4 : Int) (rd (rd_L1 l0 (rd x8_3 x9_3)) (ji32))) | ((with_reducible refine gate_store (t := 3) (p := 84) rfl ?_); (try (rw [drewN_self w57]; generalize hq_ : World.drewN w57 _ = w57; replace HO_4 := am (Kd.R_at hq_ HO_4.out); replace HO_5 := am (Kd.R_at hq_ HO_5.out); replace HO_8 := am (Kd.R_at hq_ HO_8.out); replace HO180 := am (Kd.R_at hq_ HO180.out); replace HB := am (below_at hq_ HB.out); clear hq_; (try (have n_ := am (Kd.R_mono (ok' := (fun k_ => some k_ ≠ (.slice (some ⟨go17, 0, none⟩) x4_4.length co18 : Value).ownBlock ∧ some k_ ≠ (.slice Ao19 x5_4.length co19 : Value).ownBlock ∧ some k_ ≠ (u8 : Value).ownBlock)) HO180.out (fun k_ hk => ⟨hk.1.1.2, ⟨hk.1.2, hk.2⟩⟩)); clear HO180; have HO180 := n_; clear n_)); (try (obtain ⟨hy58_, hz58_⟩ := Kd.R_celln 0 HO180.out (x11_4 : Int) (of_decide_eq_true zq0) (of_decide_eq_true zq0))); (try (have HP58 := Kd.R_putg HO180.out (x11_4 : Int) (rd (rd_L1 l0 (rd x8_3 x9_3)) (ji32)))))); refine store_event (t := 3) (p := 84) (v := ?vo_w59) (w1 := (w57.setCell ⟨go38, (x11_4 : Int).toNat, none⟩ (.int .i64 (rd (rd_L1 l0 (rd x8_3 x9_3)) (ji32))))) ?hg ?ho ?hn ?hr ?_; (case ho => rfl); (case hg => rfl); (case hn => rfl); (case hr => exact zq10); intro w59 hw; have hg : w57.grownBy w59 (some go38) := (by rw [hw]; exact HP58.2); have hp_ : Kd.R (Kd.int .i64) 3 w59 w.heap.size (fun k_ => some k_ ≠ (.slice (some ⟨go17, 0, none⟩) x4_4.length co18 : Value).ownBlock ∧ some k_ ≠ (.slice Ao19 x5_4.length co19 : Value).ownBlock ∧ some k_ ≠ (u8 : Value).ownBlock) (.slice (some ⟨go38, 0, none⟩) t178.length co38) y182 := (by rw [hw, Ny182.out]; exact HP58.1); clear HP58; replace HO_4 := am (Kd.R_after (v := (.slice (some ⟨go38, 0, none⟩) t178.length co38)) (v1 := (.slice (some ⟨go38, 0, none⟩) t178.length co38)) (ok := (fun k_ => some k_ ≠ (.slice Ao19 x5_4.length co19 : Value).ownBlock ∧ some k_ ≠ (u8 : Value).ownBlock)) (pRq2 HO_4) hg (.inl rfl)); replace HO_5 := am (Kd.R_after (v := (.slice (some ⟨go38, 0, none⟩) t178.length co38)) (v1 := (.slice (some ⟨go38, 0, none⟩) t178.length co38)) (ok := (fun k_ => some k_ ≠ (.slice (some ⟨go17, 0, none⟩) x4_4.length co18 : Value).ownBlock ∧ some k_ ≠ (u8 : Value).ownBlock)) (pRq2 HO_5) hg (.inl rfl)); replace HO_8 := am (Kd.R_after (v := (.slice (some ⟨go38, 0, none⟩) t178.length co38)) (v1 := (.slice (some ⟨go38, 0, none⟩) t178.length co38)) (ok := (fun k_ => some k_ ≠ (.slice (some ⟨go17, 0, none⟩) x4_4.length co18 : Value).ownBlock ∧ some k_ ≠ (.slice Ao19 x5_4.length co19 : Value).ownBlock)) (pRq2 HO_8) hg (.inl rfl)); replace HO180 := am (hp_); replace HB := am ((zq33 : Below w.heap.size w w59)); clear hg hw hp_; have p183 : 0 ≤ (x11_4 : Int) := of_decide_eq_true zq0; have q183 : x11_4 < ((rd_L1 l0 (rd x8_3 x9_3)).length : Int) := of_decide_eq_true zq0; obtain ⟨ad183, e183, hx183_0⟩ := Kd.at_int HR174_0.out x11_4 p183 q183; obtain rfl : ad175 = ad183 := (by injection e183); replace hx183_0 := (HB.out.cell (World.block_lt_of_cell? w _ hx183_0)).trans hx183_0; replace p183 := eq_true p183; replace q183 := eq_true q183; have p40 : 0 ≤ ((ji32) : Int) := of_decide_eq_true zq0; have q40 : ((ji32) : Int) < ((t178.length : Int) : Int) := of_decide_eq_true zq0; obtain ⟨hx40_0, hf40_0⟩ := Kd.R_celln 0 HO180.out ((ji32) : Int) p40 q40; replace p40 := eq_true p40; replace q40 := eq_true q40; obtain ⟨hy60_, hz60_⟩ := Kd.R_celln 0 HO180.out ((ji32) : Int) (of_decide_eq_true zq0) (of_decide_eq_true zq0); have HP60 := Kd.R_putg HO180.out ((ji32) : Int) (rd (rd_L1 l0 (rd x8_3 x9_3)) x11_4)) | ((with_reducible refine gate_store (t := 3) (p := 92) rfl ?_); (try (rw [drewN_self w59]; generalize hq_ : World.drewN w59 _ = w59; replace HO_4 := am (Kd.R_at hq_ HO_4.out); replace HO_5 := am (Kd.R_at hq_ HO_5.out); replace HO_8 := am (Kd.R_at hq_ HO_8.out); replace HO180 := am (Kd.R_at hq_ HO180.out); replace HB := am (below_at hq_ HB.out); clear hq_; (try (obtain ⟨hy60_, hz60_⟩ := Kd.R_celln 0 HO180.out ((ji32) : Int) (of_decide_eq_true zq0) (of_decide_eq_true zq0))); (try (have HP60 := Kd.R_putg HO180.out ((ji32) : Int) (rd (rd_L1 l0 (rd x8_3 x9_3)) x11_4))))); refine store_event (t := 3) (p := 92) (v := ?vo_w61) (w1 := (w59.setCell ⟨go38, ((ji32) : Int).toNat, none⟩ (.int .i64 (rd (rd_L1 l0 (rd x8_3 x9_3)) x11_4)))) ?hg ?ho ?hn ?hr ?_; (case ho => rfl); (case hg => rfl); (case hn => rfl); (case hr => exact zq10); intro w61 hw; have hg : w59.grownBy w61 (some go38) := (by rw [hw]; exact HP60.2); have hp_ : Kd.R (Kd.int .i64) 3 w61 w.heap.size (fun k_ => some k_ ≠ (.slice (some ⟨go17, 0, none⟩) x4_4.length co18 : Value).ownBlock ∧ some k_ ≠ (.slice Ao19 x5_4.length co19 : Value).ownBlock ∧ some k_ ≠ (u8 : Value).ownBlock) (.slice (some ⟨go38, 0, none⟩) t178.length co38) y184 := (by rw [hw, Ny184.out]; exact HP60.1); clear HP60; replace HO_4 := am (Kd.R_after (v := (.slice (some ⟨go38, 0, none⟩) t178.length co38)) (v1 := (.slice (some ⟨go38, 0, none⟩) t178.length co38)) (ok := (fun k_ => some k_ ≠ (.slice Ao19 x5_4.length co19 : Value).ownBlock ∧ some k_ ≠ (u8 : Value).ownBlock)) (pRq2 HO_4) hg (.inl rfl)); replace HO_5 := am (Kd.R_after (v := (.slice (some ⟨go38, 0, none⟩) t178.length co38)) (v1 := (.slice (some ⟨go38, 0, none⟩) t178.length co38)) (ok := (fun k_ => some k_ ≠ (.slice (some ⟨go17, 0, none⟩) x4_4.length co18 : Value).ownBlock ∧ some k_ ≠ (u8 : Value).ownBlock)) (pRq2 HO_5) hg (.inl rfl)); replace HO_8 := am (Kd.R_after (v := (.slice (some ⟨go38, 0, none⟩) t178.length co38)) (v1 := (.slice (some ⟨go38, 0, none⟩) t178.length co38)) (ok := (fun k_ => some k_ ≠ (.slice (some ⟨go17, 0, none⟩) x4_4.length co18 : Value).ownBlock ∧ some k_ ≠ (.slice Ao19 x5_4.length co19 : Value).ownBlock)) (pRq2 HO_8) hg (.inl rfl)); replace HO180 := am (hp_); replace HB := am ((zq33 : Below w.heap.size w w61)); clear hg hw hp_) | (go_at_call 26; refine calls_of_args (args' := #[.slice (some ad174) l0.length c0, .slice (some ⟨go38, 0, none⟩) y184.length co38]) zq30 ?_; (with_reducible refine (spec_alPlace.calls k4 _ _ l0 _ _ y184 t185 _ ?side1 ?side2 ?side3 ?side4 A41.out).mono ?_); (case side1 => exact zq8); (case side2 => exact HC0.out); (case side3 => exact zq21); (case side4 => exact zq32); rintro e w' ⟨rfl, ⟨nd, rfl⟩⟩; (try first | exact ⟨rfl, _, World.drewN_drewN _ _ _⟩ | exact ⟨rfl, _, Eq.trans (World.drewN_drewN _ _ _) (congrArg (World.drewN _) (Nat.add_assoc _ _ _))⟩); have p186 : 0 ≤ (t185 : Int) := of_decide_eq_true zq0; have q186 : t185 < (x4_4.length : Int) := of_decide_eq_true zq0; obtain ⟨ad186, e186, hx186_0⟩ := Kd.at_int (Kd.R_reads' HO_4.out).2.2 t185 p186 q186; obtain rfl : (⟨go17, 0, none⟩ : Addr) = ad186 := (by injection e186); (first | simp only [add_plain] at hx186_0 | simp only [add_at] at hx186_0 | simp only [Addr.add, Nat.zero_add] at hx186_0 | skip); replace p186 := eq_true p186; replace q186 := eq_true q186)))
                              (try simp only [← hl4_4, ← hl5_4])
                              go_roundg k4
                              case measure => have := HK1.out; have := HK2.out; have := HK3.out; have := HK4.out; omega
                              case rel => exact ⟨(x4_4), (x5_4), (x8_4), (ji32), zq69, H', ⟨zq62⟩, ⟨by (try simp only [hl4_3]); (try simp only [hl5_3]); (try simp only [hl4_4]); (try simp only [hl5_4]); (with_reducible repeat (first | apply Kd.R_alloc | apply Kd.R_drewN | apply Kd.R_drew)); exact Kd.R_mono HO_4.out (fun _ hk => ⟨hk.1.1, hk.1.2⟩)⟩, ⟨by (try simp only [hl4_3]); (try simp only [hl5_3]); (try simp only [hl4_4]); (try simp only [hl5_4]); (with_reducible repeat (first | apply Kd.R_alloc | apply Kd.R_drewN | apply Kd.R_drew)); exact Kd.R_mono HO_5.out (fun _ hk => ⟨hk.1.1, hk.1.2⟩)⟩, ⟨by (try simp only [hl4_3]); (try simp only [hl5_3]); (try simp only [hl4_4]); (try simp only [hl5_4]); (with_reducible repeat (first | apply Kd.R_alloc | apply Kd.R_drewN | apply Kd.R_drew)); exact Kd.R_mono HO_8.out (fun _ hk => ⟨hk.1.1, hk.1.2⟩)⟩, ⟨zq1⟩⟩
                            ·rw [if_neg c43] at H
                             exact absurd H zq25
                           ·rw [if_neg c42] at H
                            exact absurd H zq25
                          ·rw [if_neg c39] at H
                           exact absurd H zq25
                         ·rw [if_neg c37] at H
                          exact absurd H zq25
                       ·rw [if_neg c33] at H
                        exact absurd H zq25
                      ·rw [if_neg c31] at H
                       exact absurd H zq25
                     ·rw [if_neg c30] at H
                      exact absurd H zq25
                    ·rw [if_neg c29] at H
                     have c29b0 : decide ((wrap64 (x11_4 + 1)) < ((rd_L1 l0 (rd x8_3 x9_3)).length : Int)) = false := decide_eq_false c29
                     clear c29
                     have H' := am H
                     clear H
                     go_wp2
                     repeat (go_quiet (fail); try go_wp2)
                     (try simp only [← hl4_3, ← hl5_3, ← hl4_4, ← hl5_4])
                     go_roundg k4
                     case measure => have := HK1.out; have := HK2.out; have := HK3.out; have := HK4.out; omega
                     case rel => exact ⟨(x4_4), (x5_4), (x8_4), (wrap64 (x9_3 + 1)), zq2, H', ⟨zq62⟩, ⟨zq66⟩, ⟨zq65⟩, ⟨zq64⟩, ⟨zq1⟩⟩
                 ·rw [if_neg c27] at H
                  exact absurd H zq25
                ·rw [if_neg c26] at H
                 exact absurd H zq25
               ·rw [if_neg c25] at H
                exact absurd H zq25
              ·rw [if_neg c24] at H
               have c24b0 : decide (x9_3 < (x8_3.length : Int)) = false := decide_eq_false c24
               clear c24
               by_cases c62 : x5_3.length < 17592186044416
               ·rw [if_pos c62] at H
                have LMc62 := am c62
                clear c62
                obtain ⟨y170, hy170⟩ : ∃ y_ : List Int, y_ = (x5_3 ++ [x28_2]) := ⟨_, rfl⟩
                replace H : (spec_alClasses.l1 k3 l0 x4_3 y170 (l0.length : Int) (wrap64 (x28_2 + 1))) = some (r1, r2) := by first | (rw [hy170]; exact zH) | exact zH
                have Ny170 := am hy170
                clear hy170
                have H' := am H
                clear H
                obtain ⟨Ao63, co63, eo63⟩ := Kd.R_slice HO_8.out
                subst eo63
                go_wp2_with (first | ((with_reducible refine gate_builtin (b := .append) (xs := #[.tmp 112, .tmp 114]) rfl ?_); at_builtin; refine Kd.R_append (Kd.int .i64) (w0 := w) w.heap.size rfl (.tmp 112) (.tmp 114) 22 3 (.int .i64 0) 8 rfl Try.underlying22 info3 rfl zq34 zq11 (.slice Ao19 x5_3.length co19) x5_3 x28_2 [.int .i64 x28_2] (fun k_ => some k_ ≠ (.slice (some ⟨go17, 0, none⟩) x4_3.length co18 : Value).ownBlock ∧ some k_ ≠ (.slice Ao63 x8_3.length co63 : Value).ownBlock) (fun _ => False) rfl rfl ?aP (fun _ hk => hk.elim) ?aF ?aO ?aB ?aS ?aL ?_; (case aP => exact rfl); (case aB => exact (pBq2 HB)); (case aF => exact zq73); (case aO => exact (pRq2 HO_5)); (case aS => exact (below_size (pBq2 HB))); (case aL => have := LMc62.out; omega); intro v171 w64 ho hb hg hat; rw [← Ny170.out] at ho; have HO172 := am (ho); replace HO_4 := am (Kd.R_after (ok := (fun k_ => some k_ ≠ (.slice Ao63 x8_3.length co63 : Value).ownBlock)) zq55 hg hat); replace HO_8 := am (Kd.R_after (ok := (fun k_ => some k_ ≠ (.slice (some ⟨go17, 0, none⟩) x4_3.length co18 : Value).ownBlock)) (pRq2 HO_8) hg hat); replace HB := am (hb); clear HO_5; clear ho hb hg hat))
                repeat (go_quiet (first | ((with_reducible refine gate_builtin (b := .append) (xs := #[.tmp 112, .tmp 114]) rfl ?_); at_builtin; refine Kd.R_append (Kd.int .i64) (w0 := w) w.heap.size rfl (.tmp 112) (.tmp 114) 22 3 (.int .i64 0) 8 rfl Try.underlying22 info3 rfl zq34 zq11 (.slice Ao19 x5_3.length co19) x5_3 x28_2 [.int .i64 x28_2] (fun k_ => some k_ ≠ (.slice (some ⟨go17, 0, none⟩) x4_3.length co18 : Value).ownBlock ∧ some k_ ≠ (.slice Ao63 x8_3.length co63 : Value).ownBlock) (fun _ => False) rfl rfl ?aP (fun _ hk => hk.elim) ?aF ?aO ?aB ?aS ?aL ?_; (case aP => exact rfl); (case aB => exact (pBq2 HB)); (case aF => exact zq73); (case aO => exact (pRq2 HO_5)); (case aS => exact (below_size (pBq2 HB))); (case aL => have := LMc62.out; omega); intro v171 w64 ho hb hg hat; rw [← Ny170.out] at ho; have HO172 := am (ho); replace HO_4 := am (Kd.R_after (ok := (fun k_ => some k_ ≠ (.slice Ao63 x8_3.length co63 : Value).ownBlock)) zq55 hg hat); replace HO_8 := am (Kd.R_after (ok := (fun k_ => some k_ ≠ (.slice (some ⟨go17, 0, none⟩) x4_3.length co18 : Value).ownBlock)) (pRq2 HO_8) hg hat); replace HB := am (hb); clear HO_5; clear ho hb hg hat)); try go_wp2_with (first | ((with_reducible refine gate_builtin (b := .append) (xs := #[.tmp 112, .tmp 114]) rfl ?_); at_builtin; refine Kd.R_append (Kd.int .i64) (w0 := w) w.heap.size rfl (.tmp 112) (.tmp 114) 22 3 (.int .i64 0) 8 rfl Try.underlying22 info3 rfl zq34 zq11 (.slice Ao19 x5_3.length co19) x5_3 x28_2 [.int .i64 x28_2] (fun k_ => some k_ ≠ (.slice (some ⟨go17, 0, none⟩) x4_3.length co18 : Value).ownBlock ∧ some k_ ≠ (.slice Ao63 x8_3.length co63 : Value).ownBlock) (fun _ => False) rfl rfl ?aP (fun _ hk => hk.elim) ?aF ?aO ?aB ?aS ?aL ?_; (case aP => exact rfl); (case aB => exact (pBq2 HB)); (case aF => exact zq73); (case aO => exact (pRq2 HO_5)); (case aS => exact (below_size (pBq2 HB))); (case aL => have := LMc62.out; omega); intro v171 w64 ho hb hg hat; rw [← Ny170.out] at ho; have HO172 := am (ho); replace HO_4 := am (Kd.R_after (ok := (fun k_ => some k_ ≠ (.slice Ao63 x8_3.length co63 : Value).ownBlock)) zq55 hg hat); replace HO_8 := am (Kd.R_after (ok := (fun k_ => some k_ ≠ (.slice (some ⟨go17, 0, none⟩) x4_3.length co18 : Value).ownBlock)) (pRq2 HO_8) hg hat); replace HB := am (hb); clear HO_5; clear ho hb hg hat)))
                (try simp only [← hl4_3, ← hl5_3])
                go_roundg k3
                case measure => have := HK1.out; have := HK2.out; have := HK3.out; omega
                case rel => exact ⟨(x4_3), (y170), (wrap64 (x28_2 + 1)), zq2, H', ⟨by have := HK1.out; have := HK2.out; have := HK3.out; omega⟩, ⟨by (try simp only [hl4_3]); (try simp only [hl5_3]); (with_reducible repeat (first | apply Kd.R_alloc | apply Kd.R_drewN | apply Kd.R_drew)); exact Kd.R_mono HO_4.out (fun _ hk => hk.2)⟩, ⟨by (try simp only [hl4_3]); (try simp only [hl5_3]); (with_reducible repeat (first | apply Kd.R_alloc | apply Kd.R_drewN | apply Kd.R_drew)); exact Kd.R_mono HO172.out (fun _ hk => hk.1)⟩, ⟨zq1⟩⟩
               ·rw [if_neg c62] at H
                exact absurd H zq25
          ·rw [if_neg c14] at H
           exact absurd H zq25
         ·rw [if_neg c13] at H
          exact absurd H zq25
        ·rw [if_neg c12] at H
         have c12b0 : decide (x28_2 < (l0.length : Int)) = false := decide_eq_false c12
         clear c12
         simp only [Option.some.injEq, Prod.mk.injEq] at H
         obtain ⟨rfl, rfl⟩ := H
         go_wp2
         repeat (go_quiet (fail); try go_wp2)
         go_ret2
         exact ⟨_, _, zq7, zq51, by (with_reducible repeat (first | apply Kd.R_alloc | apply Kd.R_drewN | apply Kd.R_drew)); exact HO_5.out, zq1⟩
  ·rw [if_neg c3] at H
   exact absurd H zq25
 ·rw [if_neg c2] at H
  exact absurd H zq25
/-! ### spec_SlideClasses: function 5 -/
def spec_SlideClasses.l0 : Nat → List Int → List (List Int) → List (S40) → List Int → Int → Int → Option ((List (S40)) × Bool)
 | 0, _, _, _, _, _, _ => none
 | k + 1, x0, x4, x8, x23, x24, x25 => if x25 < x24 then (if 0 ≤ x25 then (if x25 < (x23.length : Int) then (if 0 ≤ (rd x23 x25) then (if (rd x23 x25) < (x4.length : Int) then (if x8.length < 4398046511104 then (spec_SlideClasses.l0 k x0 x4 (x8 ++ [(⟨(x0.length : Int), rd_L1 x4 (rd x23 x25)⟩ : S40)]) x23 x24 (wrap64 (x25 + 1))) else (none)) else (none)) else (none)) else (none)) else (none)) else (some (x8, true))
def spec_SlideClasses.f (k : Nat) (l0 : List Int) : Option ((List (S40)) × Bool) := (spec_alAsked.f l0).bind fun bt192 => (if bt192.2 = true then ((spec_alClasses.f k bt192.1).bind fun bt196 => (spec_SlideClasses.l0 k l0 bt192.1 ([] : List (S40)) bt196.2 (bt196.2.length : Int) 0)) else (some (([] : List (S40)), false)))
theorem spec_SlideClasses.mono_l : ∀ k, (∀ y0 y1 y2 y3 y4 y5, LeO (spec_SlideClasses.l0 k y0 y1 y2 y3 y4 y5) (spec_SlideClasses.l0 (k + 1) y0 y1 y2 y3 y4 y5))
 | 0 => fun _ _ _ _ _ _ r h => by simp [spec_SlideClasses.l0] at h
 | k + 1 => by
  have ih0 := spec_SlideClasses.mono_l k
  ·intro y0 y1 y2 y3 y4 y5
   unfold spec_SlideClasses.l0
   repeat' first | (with_reducible first | exact ih0 _ _ _ _ _ _ | exact spec_alClasses.mono _ _ | exact LeO.refl _ | exact LeO.none _ | refine LeO.ite ?_ ?_ | refine LeO.bind ?_ (fun _ => ?_))
theorem spec_SlideClasses.mono : ∀ a0 k, LeO (spec_SlideClasses.f k a0) (spec_SlideClasses.f (k + 1) a0) := by
 intro a0 k
 have ih0 := spec_SlideClasses.mono_l k
 unfold spec_SlideClasses.f
 repeat' first | (with_reducible first | exact ih0 _ _ _ _ _ _ | exact spec_alClasses.mono _ _ | exact LeO.refl _ | exact LeO.none _ | refine LeO.ite ?_ ?_ | refine LeO.bind ?_ (fun _ => ?_))
theorem spec_SlideClasses.calls (k : Nat) (A0 : Option Addr) (c0 : Nat) (l0 : List Int) (r1 : List (S40)) (r2 : Bool) (w : World) (hr0 : Kd.C (Kd.int .i64) w A0 l0.length l0) (hc0 : l0.length ≤ c0) (h : spec_SlideClasses.f k l0 = some (r1, r2)) :
  Calls Try.prog 5 #[.slice A0 l0.length c0] w fun e w' => ∃ v0_ : Value, e = .returned (.tuple #[v0_, .bool r2]) ∧ Kd.N k40 40 w' w.heap.size (fun k_ => (w.heap.size ≤ k_)) v0_ r1 ∧ Below w.heap.size w w' := by
 have hu40 := Try.underlying40
 have HR0 := am hr0
 have HC0 := am hc0
 clear hr0 hc0
 have HB := am (Below.refl w.heap.size w)
 have H : ((spec_alAsked.f l0).bind fun bt192 => (if bt192.2 = true then ((spec_alClasses.f k bt192.1).bind fun bt196 => (spec_SlideClasses.l0 k l0 bt192.1 ([] : List (S40)) bt196.2 (bt196.2.length : Int) 0)) else (some (([] : List (S40)), false)))) = some (r1, r2) := h
 clear h
 replace H := Option.bind_eq_some_iff.mp H
 obtain ⟨⟨t192, t193⟩, A20, H⟩ := H
 (try dsimp only at H)
 have A2 := am A20
 clear A20
 by_cases c3 : t193 = true
 ·subst c3
  rw [if_pos rfl] at H
  replace H := Option.bind_eq_some_iff.mp H
  obtain ⟨⟨t196, t197⟩, A40, H⟩ := H
  (try dsimp only at H)
  have A4 := am A40
  clear A40
  have H' := am H
  clear H
  go_enter Try.func5, Try.ntmps5
  go_wp2_with (first | ((with_reducible refine gate_callee (f := 16) rfl ?_); refine goesL_ (some 13) rfl rfl Try.func16 zq24 rfl #[.slice A0 l0.length c0] rfl zq3 ?_; (with_reducible refine (spec_alAsked.calls _ _ l0 t192 true _ ?side1 ?side2 A2.out).mono ?_); (case side1 => exact zq12); (case side2 => exact HC0.out); rintro e w5 ⟨v194, rfl, ho0, hb⟩; refine ⟨_, rfl, ?_⟩; have HO195 := am (Kd.N_lower (Kd.N_mono (ok' := fun k_ => (w.heap.size ≤ k_)) (Kd.S_N (Kd.S_bound ho0)) (fun k_ hk_ => (Nat.le_trans (below_size (pBq2 HB)) hk_.2.1))) (below_size (pBq2 HB))); replace HB := am (below_step (pBq2 HB) hb); (try clear hb ho0); obtain ⟨Ao6, co6, eo6⟩ := Kd.N_slice HO195.out; subst eo6) | ((with_reducible refine gate_callee (f := 17) rfl ?_); refine goesL_ (some 20) rfl rfl Try.func17 zq24 rfl #[.slice Ao6 t192.length co6] rfl zq3 ?_; (with_reducible refine (spec_alClasses.calls k _ _ t192 t196 t197 _ ?side1 ?side2 A4.out).mono ?_); (case side1 => repeat (first | exact (Kd.N_reads' HO195.out).2.2 | (with_reducible refine Kd.C_alloc ?_ _) | (with_reducible refine Kd.C_drewN ?_ _) | (with_reducible refine Kd.C_drew ?_))); (case side2 => exact (Kd.N_reads' HO195.out).2.1); rintro e w7 ⟨v198, v200, rfl, ho0, ho1, hb⟩; refine ⟨_, rfl, ?_⟩; have HO199 := am (Kd.R_lower (Kd.R_newM (M := fun k_ => (w.heap.size ≤ k_)) ho0 (below_size (pBq2 HB)) (fun k_ h_ => h_)) (below_size (pBq2 HB))); have HO201 := am (Kd.R_lower (Kd.R_newM (M := fun k_ => (w.heap.size ≤ k_)) ho1 (below_size (pBq2 HB)) (fun k_ h_ => h_)) (below_size (pBq2 HB))); replace HO195 := am (Kd.N_mono (Kd.N_told (Kd.N_told (Kd.N_old (by (with_reducible repeat (first | apply Kd.N_alloc | apply Kd.N_drewN | apply Kd.N_drew)); exact HO195.out) hb) (Kd.R_base ho0)) (Kd.R_base ho1)) (fun _ h_ => h_.1)); replace HB := am (below_step (pBq2 HB) hb); (try clear hb ho0 ho1); obtain ⟨Ao8, co8, eo8⟩ := Kd.R_slice HO201.out; subst eo8))
  go_loopg [8, 25] k (fun kq v8 v25 w' => ∃ (x8_1 : List (S40)) (x25_1 : Int), v25 = .int .i64 x25_1 ∧ Aside0 (spec_SlideClasses.l0 kq l0 t192 x8_1 t197 (t197.length : Int) x25_1 = some (r1, r2)) ∧ Aside0 (kq ≤ k) ∧ Aside0 (Kd.N (Kd.slice 3 (Kd.int .i64)) 22 w' w.heap.size (fun k_ => (w.heap.size ≤ k_) ∧ some k_ ≠ (v8 : Value).ownBlock ∧ some k_ ≠ ((.slice Ao8 t197.length co8) : Value).ownBlock) (.slice Ao6 t192.length co6) t192) ∧ Aside0 (Kd.N k40 40 w' w.heap.size (fun k_ => (w.heap.size ≤ k_) ∧ some k_ ≠ ((.slice Ao6 t192.length co6) : Value).ownBlock ∧ some k_ ≠ ((.slice Ao8 t197.length co8) : Value).ownBlock) v8 x8_1) ∧ Aside0 (Kd.R (Kd.int .i64) 3 w' w.heap.size (fun k_ => (w.heap.size ≤ k_)) (.slice Ao8 t197.length co8) t197) ∧ Aside0 (Below w.heap.size w w'))
  case atStart => exact ⟨(([] : List (S40))), (0), zq2, H', ⟨Nat.le_refl _⟩, ⟨by (with_reducible repeat (first | apply Kd.N_alloc | apply Kd.N_drewN | apply Kd.N_drew)); exact Kd.N_mono HO195.out (fun _ hk => ⟨hk.1.1, ⟨(by simp [Value.ownBlock]), hk.2⟩⟩)⟩, ⟨zq56⟩, ⟨by (with_reducible repeat (first | apply Kd.R_alloc | apply Kd.R_drewN | apply Kd.R_drew)); exact Kd.R_mono HO201.out (fun _ hk => hk.1)⟩, ⟨zq1⟩⟩
  case round =>
   clear H'
   try clear c1
   try clear p2
   try clear c3
   try clear c5
   obtain ⟨x8_1, x25_1, rfl, HA, HK1, HO_4, HO_8, HO_23, HB⟩ := hrel
   cases gk with
   | zero => exact absurd HA.out (by simp [spec_SlideClasses.l0])
   | succ k1 =>
    have H := HA.out
    clear HA
    simp only [spec_SlideClasses.l0] at H
    by_cases c9 : x25_1 < (t197.length : Int)
    ·rw [if_pos c9] at H
     have c9b0 : decide (x25_1 < (t197.length : Int)) = true := decide_eq_true c9
     clear c9
     by_cases c10 : 0 ≤ x25_1
     ·rw [if_pos c10] at H
      have c10b0 : decide (0 ≤ x25_1) = true := decide_eq_true c10
      clear c10
      by_cases c11 : x25_1 < (t197.length : Int)
      ·rw [if_pos c11] at H
       have c11b0 : decide (x25_1 < (t197.length : Int)) = true := decide_eq_true c11
       clear c11
       by_cases c12 : 0 ≤ (rd t197 x25_1)
       ·rw [if_pos c12] at H
        have c12b0 : decide (0 ≤ (rd t197 x25_1)) = true := decide_eq_true c12
        clear c12
        by_cases c13 : (rd t197 x25_1) < (t192.length : Int)
        ·rw [if_pos c13] at H
         have c13b0 : decide ((rd t197 x25_1) < (t192.length : Int)) = true := decide_eq_true c13
         clear c13
         by_cases c14 : x8_1.length < 4398046511104
         ·rw [if_pos c14] at H
          have LMc14 := am c14
          clear c14
          obtain ⟨y204, hy204⟩ : ∃ y_ : List (S40), y_ = (x8_1 ++ [(⟨(l0.length : Int), rd_L1 t192 (rd t197 x25_1)⟩ : S40)]) := ⟨_, rfl⟩
          replace H : (spec_SlideClasses.l0 k1 l0 t192 y204 t197 (t197.length : Int) (wrap64 (x25_1 + 1))) = some (r1, r2) := by first | (rw [hy204]; exact zH) | exact zH
          have Ny204 := am hy204
          clear hy204
          have H' := am H
          clear H
          have p202 : 0 ≤ (x25_1 : Int) := of_decide_eq_true zq0
          have q202 : x25_1 < (t197.length : Int) := of_decide_eq_true zq0
          obtain ⟨ad202, e202, hx202_0⟩ := Kd.at_int (Kd.R_reads' HO_23.out).2.2 x25_1 p202 q202
          cases e202
          replace p202 := eq_true p202
          replace q202 := eq_true q202
          have p203 : 0 ≤ ((rd t197 x25_1) : Int) := of_decide_eq_true zq0
          have q203 : (rd t197 x25_1) < (t192.length : Int) := of_decide_eq_true zq0
          obtain ⟨ad203, A203_0, c203_0, e203, hx203_0, hl203_0, hi203_0⟩ := at_L1 (Kd.N_reads' HO_4.out).2.2 (rd t197 x25_1) p203 q203
          cases e203
          obtain ⟨ce203, hce203, hMe203, hcc203⟩ := Kd.N_get HO_4.out [] (rd t197 x25_1) p203 (by first | exact q203 | exact of_decide_eq_true zq0 | (have e_ := (Kd.N_reads' HO_4.out).1; omega))
          obtain ⟨ua203_0, uc203_0, rfl, ul203_0, ge203_0⟩ := Kd.FK_slice_open hMe203
          have hv203_0 := hcc203 0 _ rfl
          rw [Nat.add_zero, show ((Kd.slice 3 (Kd.int .i64))).sz = 1 from rfl, Nat.mul_one] at hv203_0
          replace hv203_0 := Option.some.inj (hv203_0.symm.trans hx203_0)
          injection hv203_0 with hva_ hvn_ hvc_
          rw [hva_] at ge203_0
          rw [hvc_] at ul203_0
          have HL203_0 := am (show Kd.V (Kd.int .i64) 3 _ w.heap.size _ _ (rd_L1 t192 (rd t197 x25_1)) from Kd.V_mk ul203_0 ge203_0)
          clear hva_ hvn_ hvc_ ge203_0 ul203_0
          clear hcc203 hce203
          have HR203_0 := am hi203_0
          have HC203_0 := am hl203_0
          clear hi203_0 hl203_0
          replace p203 := eq_true p203
          replace q203 := eq_true q203
          go_wp2_with (first | ((with_reducible refine gate_builtin (b := .append) (xs := #[.tmp 29, .tmp 37]) rfl ?_); at_builtin; refine Kd.N_append k40 (w0 := w) w.heap.size rfl (.tmp 29) (.tmp 37) 23 40 (.agg #[(.int .i64 0), (.slice none 0 0)]) 32 rfl Try.underlying23 info40 rfl zq34 zq11 u8 x8_1 (⟨(l0.length : Int), rd_L1 t192 (rd t197 x25_1)⟩ : S40) [.int .i64 (l0.length : Int), .slice A203_0 (rd_L1 t192 (rd t197 x25_1)).length c203_0] (fun k_ => (w.heap.size ≤ k_) ∧ some k_ ≠ (.slice (some ad203) t192.length co6 : Value).ownBlock ∧ some k_ ≠ (.slice (some ad202) t197.length co8 : Value).ownBlock) (fun k_ => ((fun k_ => (w.heap.size ≤ k_) ∧ some k_ ≠ (.slice (some ad203) t192.length co6 : Value).ownBlock ∧ some k_ ≠ (.slice (some ad202) t197.length co8 : Value).ownBlock)) k_ ∧ some k_ ≠ (u8 : Value).ownBlock) rfl rfl ?aP (fun _ hk => hk) ?aF ?aO ?aB ?aS ?aL ?_; (case aP => exact (k40_mkF _ _ (⟨(l0.length : Int), rd_L1 t192 (rd t197 x25_1)⟩ : S40) (Kd.V_reads' (Kd.V_mono (ok' := (fun k_ => ((fun k_ => (w.heap.size ≤ k_) ∧ some k_ ≠ (.slice (some ad203) t192.length co6 : Value).ownBlock ∧ some k_ ≠ (.slice (some ad202) t197.length co8 : Value).ownBlock)) k_ ∧ some k_ ≠ (u8 : Value).ownBlock)) (HL203_0.out) (fun k_ hk => ⟨⟨hk.1.1, ⟨hk.2, hk.1.2.2⟩⟩, hk.1.2.1⟩))).2.1 (Kd.V_F (Kd.V_mono (ok' := (fun k_ => ((fun k_ => (w.heap.size ≤ k_) ∧ some k_ ≠ (.slice (some ad203) t192.length co6 : Value).ownBlock ∧ some k_ ≠ (.slice (some ad202) t197.length co8 : Value).ownBlock)) k_ ∧ some k_ ≠ (u8 : Value).ownBlock)) (HL203_0.out) (fun k_ hk => ⟨⟨hk.1.1, ⟨hk.2, hk.1.2.2⟩⟩, hk.1.2.1⟩))))); (case aB => exact (pBq2 HB)); (case aF => exact (fun k_ hk => ⟨(Nat.le_trans (below_size (pBq2 HB)) hk), Kd.fresh' (Kd.N_lt (by (with_reducible repeat (first | apply Kd.N_alloc | apply Kd.N_drewN | apply Kd.N_drew)); exact HO_4.out)) k_ hk, Kd.fresh' (Kd.R_lt (pRq2 HO_23)) k_ hk⟩)); (case aO => exact (by (with_reducible repeat (first | apply Kd.N_alloc | apply Kd.N_drewN | apply Kd.N_drew)); exact HO_8.out)); (case aS => exact (below_size (pBq2 HB))); (case aL => have := LMc14.out; omega); intro v205 w15 ho hb hg hat; rw [← Ny204.out] at ho; have HO206 := am (ho); replace HO_4 := am (Kd.N_afterv (ok := (fun k_ => (w.heap.size ≤ k_) ∧ some k_ ≠ (.slice (some ad202) t197.length co8 : Value).ownBlock)) (by (with_reducible repeat (first | apply Kd.N_alloc | apply Kd.N_drewN | apply Kd.N_drew)); exact Kd.N_mono HO_4.out (fun _ hk => ⟨⟨hk.1, hk.2.2⟩, hk.2.1⟩)) hg hat); replace HO_23 := am (Kd.R_over' (pRq2 HO_23) (Kd.N_typed (by (with_reducible repeat (first | apply Kd.N_alloc | apply Kd.N_drewN | apply Kd.N_drew)); exact HO_8.out)) zq34 hg); replace HL203_0 := am (Kd.V_afterv (ok := (fun k_ => (w.heap.size ≤ k_) ∧ some k_ ≠ (.slice (some ad203) t192.length co6 : Value).ownBlock ∧ some k_ ≠ (.slice (some ad202) t197.length co8 : Value).ownBlock)) (by (with_reducible repeat (first | apply Kd.V_alloc | apply Kd.V_drewN | apply Kd.V_drew)); exact Kd.V_mono HL203_0.out (fun _ hk => ⟨⟨hk.1.1, ⟨hk.2, hk.1.2.2⟩⟩, hk.1.2.1⟩)) hg hat); replace HB := am (hb); clear HO_8; clear ho hb hg hat))
          go_roundg k1
          case measure => have := HK1.out; omega
          case rel => exact ⟨(y204), (wrap64 (x25_1 + 1)), zq2, H', ⟨zq27⟩, ⟨by (with_reducible repeat (first | apply Kd.N_alloc | apply Kd.N_drewN | apply Kd.N_drew)); exact Kd.N_mono HO_4.out (fun _ hk => ⟨hk.1.1, ⟨hk.2, hk.1.2⟩⟩)⟩, ⟨by (with_reducible repeat (first | apply Kd.N_alloc | apply Kd.N_drewN | apply Kd.N_drew)); exact HO206.out⟩, ⟨by (with_reducible repeat (first | apply Kd.R_alloc | apply Kd.R_drewN | apply Kd.R_drew)); exact HO_23.out⟩, ⟨zq1⟩⟩
         ·rw [if_neg c14] at H
          exact absurd H zq25
        ·rw [if_neg c13] at H
         exact absurd H zq25
       ·rw [if_neg c12] at H
        exact absurd H zq25
      ·rw [if_neg c11] at H
       exact absurd H zq25
     ·rw [if_neg c10] at H
      exact absurd H zq25
    ·rw [if_neg c9] at H
     have c9b0 : decide (x25_1 < (t197.length : Int)) = false := decide_eq_false c9
     clear c9
     simp only [Option.some.injEq, Prod.mk.injEq] at H
     obtain ⟨rfl, rfl⟩ := H
     go_wp2
     go_ret2
     exact ⟨_, zq7, by (with_reducible repeat (first | apply Kd.N_alloc | apply Kd.N_drewN | apply Kd.N_drew)); exact Kd.N_mono HO_8.out (fun _ hk => hk.1), zq1⟩
 ·replace c3 := Bool.eq_false_iff.mpr c3
  subst c3
  rw [if_neg (show ¬ (false = true) by decide)] at H
  simp only [Option.some.injEq, Prod.mk.injEq] at H
  obtain ⟨rfl, rfl⟩ := H
  go_enter Try.func5, Try.ntmps5
  go_wp2_with (first | ((with_reducible refine gate_callee (f := 16) rfl ?_); refine goesL_ (some 13) rfl rfl Try.func16 zq24 rfl #[.slice A0 l0.length c0] rfl zq3 ?_; (with_reducible refine (spec_alAsked.calls _ _ l0 t192 false _ ?side1 ?side2 A2.out).mono ?_); (case side1 => exact zq12); (case side2 => exact HC0.out); rintro e w16 ⟨v194, rfl, ho0, hb⟩; refine ⟨_, rfl, ?_⟩; have HO195 := am (Kd.N_lower (Kd.N_mono (ok' := fun k_ => (w.heap.size ≤ k_)) (Kd.S_N (Kd.S_bound ho0)) (fun k_ hk_ => (Nat.le_trans (below_size (pBq2 HB)) hk_.2.1))) (below_size (pBq2 HB))); replace HB := am (below_step (pBq2 HB) hb); (try clear hb ho0)))
  go_ret2
  exact ⟨_, zq7, zq56, zq1⟩
/-! ### laws_toIntS: function 6 -/
def laws_toIntS.l0 : Nat → List Int → List Int → Int → Option (List Int)
 | 0, _, _, _ => none
 | k + 1, x0, x3, x4 => if x4 < (x0.length : Int) then (if 0 ≤ x4 then (if x4 < (x3.length : Int) then (laws_toIntS.l0 k x0 (x3.set (x4 : Int).toNat (rd x0 x4)) (wrap64 (x4 + 1))) else (none)) else (none)) else (some x3)
def laws_toIntS.f (k : Nat) (l0 : List Int) : Option (List Int) := if 0 ≤ (l0.length : Int) then (if ((l0.length : Int) : Int).toNat ≤ 35184372088832 then (laws_toIntS.l0 k l0 (List.replicate ((l0.length : Int) : Int).toNat 0) 0) else (none)) else (none)
theorem laws_toIntS.mono_l : ∀ k, (∀ y0 y1 y2, LeO (laws_toIntS.l0 k y0 y1 y2) (laws_toIntS.l0 (k + 1) y0 y1 y2))
 | 0 => fun _ _ _ r h => by simp [laws_toIntS.l0] at h
 | k + 1 => by
  have ih0 := laws_toIntS.mono_l k
  ·intro y0 y1 y2
   unfold laws_toIntS.l0
   repeat' first | (with_reducible first | exact ih0 _ _ _ | exact LeO.refl _ | exact LeO.none _ | refine LeO.ite ?_ ?_ | refine LeO.bind ?_ (fun _ => ?_))
theorem laws_toIntS.mono : ∀ a0 k, LeO (laws_toIntS.f k a0) (laws_toIntS.f (k + 1) a0) := by
 intro a0 k
 have ih0 := laws_toIntS.mono_l k
 unfold laws_toIntS.f
 repeat' first | (with_reducible first | exact ih0 _ _ _ | exact LeO.refl _ | exact LeO.none _ | refine LeO.ite ?_ ?_ | refine LeO.bind ?_ (fun _ => ?_))
theorem laws_toIntS.calls (k : Nat) (A0 : Option Addr) (c0 : Nat) (l0 : List Int) (r : List Int) (w : World) (hr0 : Kd.C (Kd.int .i64) w A0 l0.length l0) (hc0 : l0.length ≤ c0) (h : laws_toIntS.f k l0 = some r) :
  Calls Try.prog 6 #[.slice A0 l0.length c0] w fun e w' => ∃ v0_ : Value, e = .returned (v0_) ∧ Kd.R (Kd.int .i64) 3 w' w.heap.size (fun _ => True) v0_ r ∧ Below w.heap.size w w' := by
 have HR0 := am hr0
 have HC0 := am hc0
 clear hr0 hc0
 have HB := am (Below.refl w.heap.size w)
 have H : (if 0 ≤ (l0.length : Int) then (if ((l0.length : Int) : Int).toNat ≤ 35184372088832 then (laws_toIntS.l0 k l0 (List.replicate ((l0.length : Int) : Int).toNat 0) 0) else (none)) else (none)) = some r := h
 clear h
 by_cases c2 : 0 ≤ (l0.length : Int)
 ·rw [if_pos c2] at H
  have c2b0 := eq_true c2
  have c2b1 : decide (0 ≤ (l0.length : Int)) = true := decide_eq_true c2
  clear c2
  by_cases c3 : ((l0.length : Int) : Int).toNat ≤ 35184372088832
  ·rw [if_pos c3] at H
   have c3b0 := eq_true c3
   have c3b1 : decide (((l0.length : Int) : Int).toNat ≤ 35184372088832) = true := decide_eq_true c3
   clear c3
   obtain ⟨y207, hy207⟩ : ∃ y_ : List Int, y_ = (List.replicate ((l0.length : Int) : Int).toNat 0) := ⟨_, rfl⟩
   replace H : (laws_toIntS.l0 k l0 y207 0) = some r := by first | (rw [hy207]; exact zH) | exact zH
   have Ny207 := am hy207
   clear hy207
   have H' := am H
   clear H
   go_enter Try.func6, Try.ntmps6
   go_wp2_with (first | ((with_reducible refine gate_dst (N := 7) rfl ?_); refine Kd.R_make (Kd.int .i64) _ 3 rfl (N := 7) rfl 22 _ _ rfl (l0.length : Int) rfl rfl Try.underlying22 (.int .i64 0) 8 info3 rfl zq34 zq11 0 (ok := fun _ => True) (okp := fun _ => True) rfl (fun _ hk => hk) trivial (of_decide_eq_true zq0) (Nat.le_trans (Nat.mul_le_mul_right _ (of_decide_eq_true zq0 : (l0.length : Int).toNat ≤ 35184372088832)) zq11) (Below.refl _ _) (Nat.le_refl _) ?_; intro v208 w4 ho5 hb hg_ hnew_; clear hg_ hnew_; (first | rw [← Ny207.out] at ho5 | (simp only [Int.reduceToNat] at ho5; rw [← Ny207.out] at ho5)); have HO209 := am (Kd.R_lower ho5 (below_size (pBq2 HB))); replace HB := am (below_step (pBq2 HB) hb); clear hb ho5))
   go_loopg [4] k (fun kq v4 w' => ∃ (x3_1 : List Int) (x4_1 : Int), v4 = .int .i64 x4_1 ∧ Aside0 (laws_toIntS.l0 kq l0 x3_1 x4_1 = some r) ∧ Aside0 (kq ≤ k) ∧ Aside0 (Kd.R (Kd.int .i64) 3 w' w.heap.size (fun _ => True) v208 x3_1) ∧ Aside0 (Below w.heap.size w w'))
   case atStart => exact ⟨(y207), (0), zq2, H', ⟨Nat.le_refl _⟩, ⟨by (with_reducible repeat (first | apply Kd.R_alloc | apply Kd.R_drewN | apply Kd.R_drew)); exact HO209.out⟩, ⟨zq1⟩⟩
   case round =>
    clear H'
    try clear c2
    try clear c2b0
    try clear c2b1
    try clear p2
    try clear c3
    try clear c3b0
    try clear c3b1
    obtain ⟨x3_1, x4_1, rfl, HA, HK1, HO_3, HB⟩ := hrel
    cases gk with
    | zero => exact absurd HA.out (by simp [laws_toIntS.l0])
    | succ k1 =>
     have H := HA.out
     clear HA
     simp only [laws_toIntS.l0] at H
     by_cases c6 : x4_1 < (l0.length : Int)
     ·rw [if_pos c6] at H
      have c6b0 : decide (x4_1 < (l0.length : Int)) = true := decide_eq_true c6
      clear c6
      by_cases c7 : 0 ≤ x4_1
      ·rw [if_pos c7] at H
       have c7b0 : decide (0 ≤ x4_1) = true := decide_eq_true c7
       clear c7
       by_cases c8 : x4_1 < (x3_1.length : Int)
       ·rw [if_pos c8] at H
        have c8b0 : decide (x4_1 < (x3_1.length : Int)) = true := decide_eq_true c8
        clear c8
        obtain ⟨y211, hy211⟩ : ∃ y_ : List Int, y_ = (x3_1.set (x4_1 : Int).toNat (rd l0 x4_1)) := ⟨_, rfl⟩
        replace H : (laws_toIntS.l0 k1 l0 y211 (wrap64 (x4_1 + 1))) = some r := by first | (rw [hy211]; exact zH) | exact zH
        have Ny211 := am hy211
        clear hy211
        have H' := am H
        clear H
        have p210 : 0 ≤ (x4_1 : Int) := of_decide_eq_true zq0
        have q210 : x4_1 < (l0.length : Int) := of_decide_eq_true zq0
        obtain ⟨ad210, e210, hx210_0⟩ := Kd.at_int HR0.out x4_1 p210 q210
        cases e210
        replace hx210_0 := (HB.out.cell (World.block_lt_of_cell? w _ hx210_0)).trans hx210_0
        replace p210 := eq_true p210
        replace q210 := eq_true q210
        have p9 : 0 ≤ (x4_1 : Int) := of_decide_eq_true zq0
        have q9 : (x4_1 : Int) < ((x3_1.length : Int) : Int) := of_decide_eq_true zq0
        obtain ⟨go9, co9, eo9, gb9, gl9, cl9, HG9⟩ := Kd.R_form HO_3.out zq11
        (first | cases eo9 | (injection eo9 with ea_ en_ ec_; (first | subst ea_ | (injection ea_ with ea_; subst ea_)); subst ec_; clear en_))
        have GB9 := am gb9
        have GG9 := am HG9
        clear gb9 gl9 HG9
        obtain ⟨hx9_0, hf9_0⟩ := Kd.R_celln 0 HO_3.out (x4_1 : Int) p9 q9
        replace p9 := eq_true p9
        replace q9 := eq_true q9
        have HP10 := Kd.R_putg HO_3.out (x4_1 : Int) (rd l0 x4_1)
        go_wp2_with (first | ((with_reducible refine gate_store (t := 3) (p := 20) rfl ?_); refine store_event (t := 3) (p := 20) (v := ?vo_w11) (w1 := (wr.setCell ⟨go9, (x4_1 : Int).toNat, none⟩ (.int .i64 (rd l0 x4_1)))) ?hg ?ho ?hn ?hr ?_; (case ho => rfl); (case hg => rfl); (case hn => rfl); (case hr => exact zq10); intro w11 hw; have hg : wr.grownBy w11 (some go9) := (by rw [hw]; exact HP10.2); have hp_ : Kd.R (Kd.int .i64) 3 w11 w.heap.size (fun _ => True) (.slice (some ⟨go9, 0, none⟩) x3_1.length co9) y211 := (by rw [hw, Ny211.out]; exact HP10.1); clear HP10; replace HO_3 := am (hp_); replace HB := am ((zq68 : Below w.heap.size w w11)); clear hg hw hp_))
        go_roundg k1
        case measure => have := HK1.out; omega
        case rel => exact ⟨(y211), (wrap64 (x4_1 + 1)), zq2, H', ⟨zq27⟩, ⟨zq36⟩, ⟨zq1⟩⟩
       ·rw [if_neg c8] at H
        exact absurd H zq25
      ·rw [if_neg c7] at H
       exact absurd H zq25
     ·rw [if_neg c6] at H
      have c6b0 : decide (x4_1 < (l0.length : Int)) = false := decide_eq_false c6
      clear c6
      obtain rfl := Option.some.inj H
      go_wp2
      go_ret
      exact ⟨_, zq7, zq36, zq1⟩
  ·rw [if_neg c3] at H
   exact absurd H zq25
 ·rw [if_neg c2] at H
  exact absurd H zq25
/-! ### impl_between: function 46 -/
def impl_between.f (a0 : Int) (a1 : Int) (a2 : Int) : Option (Bool) := if a0 ≥ a1 then (some (decide (a0 ≤ a2))) else (some false)
theorem impl_between.calls (a0 : Int) (a1 : Int) (a2 : Int) (r : Bool) (w : World) (h : impl_between.f a0 a1 a2 = some r) :
  Calls Try.prog 46 #[.int .i64 a0, .int .i64 a1, .int .i64 a2] w fun e w' => e = .returned (.bool r) ∧ Drawn0 w w' := by
 have H : (if a0 ≥ a1 then (some (decide (a0 ≤ a2))) else (some false)) = some r := h
 clear h
 by_cases c4 : a0 ≥ a1
 ·rw [if_pos c4] at H
  have c4b0 : decide (a1 ≤ a0) = true := decide_eq_true c4
  clear c4
  obtain rfl := Option.some.inj H
  go_enter Try.func46, Try.ntmps46
  go_wp2
  go_ret
  exact ⟨zq2, zq4⟩
 ·rw [if_neg c4] at H
  have c4b0 : decide (a1 ≤ a0) = false := decide_eq_false c4
  clear c4
  obtain rfl := Option.some.inj H
  go_enter Try.func46, Try.ntmps46
  go_wp2
  go_ret
  exact ⟨zq2, zq4⟩
/-! ### slices_Index_int_int: function 69 -/
def slices_Index_int_int.l0 : Nat → List Int → Int → Int → Int → Option (Int)
 | 0, _, _, _, _ => none
 | k + 1, x0, x1, x7, x8 => if x8 < x7 then (if 0 ≤ x8 then (if x8 < (x0.length : Int) then (if x1 = (rd x0 x8) then (some x8) else (slices_Index_int_int.l0 k x0 x1 x7 (wrap64 (x8 + 1)))) else (none)) else (none)) else (some (-1))
def slices_Index_int_int.f (k : Nat) (l0 : List Int) (a1 : Int) : Option (Int) := slices_Index_int_int.l0 k l0 a1 (l0.length : Int) 0
theorem slices_Index_int_int.mono_l : ∀ k, (∀ y0 y1 y2 y3, LeO (slices_Index_int_int.l0 k y0 y1 y2 y3) (slices_Index_int_int.l0 (k + 1) y0 y1 y2 y3))
 | 0 => fun _ _ _ _ r h => by simp [slices_Index_int_int.l0] at h
 | k + 1 => by
  have ih0 := slices_Index_int_int.mono_l k
  ·intro y0 y1 y2 y3
   unfold slices_Index_int_int.l0
   repeat' first | (with_reducible first | exact ih0 _ _ _ _ | exact LeO.refl _ | exact LeO.none _ | refine LeO.ite ?_ ?_ | refine LeO.bind ?_ (fun _ => ?_))
theorem slices_Index_int_int.mono : ∀ a0 a1 k, LeO (slices_Index_int_int.f k a0 a1) (slices_Index_int_int.f (k + 1) a0 a1) := by
 intro a0 a1 k
 have ih0 := slices_Index_int_int.mono_l k
 unfold slices_Index_int_int.f
 repeat' first | (with_reducible first | exact ih0 _ _ _ _ | exact LeO.refl _ | exact LeO.none _ | refine LeO.ite ?_ ?_ | refine LeO.bind ?_ (fun _ => ?_))
theorem slices_Index_int_int.calls (k : Nat) (A0 : Option Addr) (c0 : Nat) (l0 : List Int) (a1 : Int) (r : Int) (w : World) (hr0 : Kd.C (Kd.int .i64) w A0 l0.length l0) (hc0 : l0.length ≤ c0) (h : slices_Index_int_int.f k l0 a1 = some r) :
  Calls Try.prog 69 #[.slice A0 l0.length c0, .int .i64 a1] w fun e w' => e = .returned (.int .i64 r) ∧ Drawn0 w w' := by
 have HR0 := am hr0
 have HC0 := am hc0
 clear hr0 hc0
 have H : (slices_Index_int_int.l0 k l0 a1 (l0.length : Int) 0) = some r := h
 clear h
 have H' := am H
 clear H
 go_enter Try.func69, Try.ntmps69
 go_wp2
 go_loopg [8] k (fun kq v8 w' => ∃ (x8_1 : Int), v8 = .int .i64 x8_1 ∧ Aside0 (slices_Index_int_int.l0 kq l0 a1 (l0.length : Int) x8_1 = some r) ∧ Aside0 (kq ≤ k) ∧ Drawn0 w w')
 case atStart => exact ⟨(0), zq2, H', ⟨Nat.le_refl _⟩, zq4⟩
 case round =>
  clear H'
  try clear p2
  obtain ⟨x8_1, rfl, HA, HK1, ⟨m1, rfl⟩⟩ := hrel
  cases gk with
  | zero => exact absurd HA.out (by simp [slices_Index_int_int.l0])
  | succ k1 =>
   have H := HA.out
   clear HA
   simp only [slices_Index_int_int.l0] at H
   by_cases c3 : x8_1 < (l0.length : Int)
   ·rw [if_pos c3] at H
    have c3b0 : decide (x8_1 < (l0.length : Int)) = true := decide_eq_true c3
    clear c3
    by_cases c4 : 0 ≤ x8_1
    ·rw [if_pos c4] at H
     have c4b0 : decide (0 ≤ x8_1) = true := decide_eq_true c4
     clear c4
     by_cases c5 : x8_1 < (l0.length : Int)
     ·rw [if_pos c5] at H
      have c5b0 : decide (x8_1 < (l0.length : Int)) = true := decide_eq_true c5
      clear c5
      by_cases c6 : a1 = (rd l0 x8_1)
      ·rw [if_pos c6] at H
       have c6b0 : (a1 == (rd l0 x8_1)) = true := beq_iff_eq.mpr c6
       have c6b1 : (a1 != (rd l0 x8_1)) = false := bne_eq_false_iff_eq.mpr c6
       clear c6
       obtain rfl := Option.some.inj H
       have p212 : 0 ≤ (x8_1 : Int) := of_decide_eq_true zq0
       have q212 : x8_1 < (l0.length : Int) := of_decide_eq_true zq0
       obtain ⟨ad212, e212, hx212_0⟩ := Kd.at_int HR0.out x8_1 p212 q212
       cases e212
       replace p212 := eq_true p212
       replace q212 := eq_true q212
       go_wp2
       go_ret
       exact ⟨zq2, zq4⟩
      ·rw [if_neg c6] at H
       have c6b0 : (a1 == (rd l0 x8_1)) = false := beq_eq_false_iff_ne.mpr c6
       have c6b1 : (a1 != (rd l0 x8_1)) = true := bne_iff_ne.mpr c6
       have H' := am H
       clear H
       have p212 : 0 ≤ (x8_1 : Int) := of_decide_eq_true zq0
       have q212 : x8_1 < (l0.length : Int) := of_decide_eq_true zq0
       obtain ⟨ad212, e212, hx212_0⟩ := Kd.at_int HR0.out x8_1 p212 q212
       cases e212
       replace p212 := eq_true p212
       replace q212 := eq_true q212
       go_wp2
       go_roundg k1
       case measure => have := HK1.out; omega
       case rel => exact ⟨(wrap64 (x8_1 + 1)), zq2, H', ⟨zq27⟩, zq4⟩
     ·rw [if_neg c5] at H
      exact absurd H zq25
    ·rw [if_neg c4] at H
     exact absurd H zq25
   ·rw [if_neg c3] at H
    have c3b0 : decide (x8_1 < (l0.length : Int)) = false := decide_eq_false c3
    clear c3
    obtain rfl := Option.some.inj H
    go_wp2
    go_ret
    exact ⟨zq2, zq4⟩
end
end Go.Proofs.Ytlmiiijjjcddkaa.PKa
