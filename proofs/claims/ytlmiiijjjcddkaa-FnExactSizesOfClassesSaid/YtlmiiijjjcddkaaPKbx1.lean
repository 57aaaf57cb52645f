-- Written for this claim by a program of this session (myprint.py) over the kit's printer.
import Derived.Test.YtlmiiijjjcddkaaPKbx0
namespace Go.Proofs.Ytlmiiijjjcddkaa.PKb
noncomputable section
open Go.RowKit Go.Proofs.YtlmiiijjjcddkaaW.PrintWords Go.Proofs.YtlmiiijjjcddkaaW.PrintLast Go.Proofs.YtlmiiijjjcddkaaW.PrintMore
attribute [local go_sem] max2_int min2_int max_two min_two max_three min_three max_four min_four   -- for this text's walks alone
set_option maxHeartbeats 8000000
set_option maxRecDepth 100000
set_option linter.unusedVariables false
set_option linter.unusedSimpArgs false
theorem pRq1 {α : Type} {d : Kd α} {e base : Nat} {ok : Nat → Prop} {v : Value} {xs : List α} {w W : World} (h0 : Aside0 (Kd.R d e w base ok v xs)) (hp : Kd.R d e W base ok v xs := by (with_reducible repeat (first | apply Kd.R_alloc | apply Kd.R_drewN | apply Kd.R_drew)); exact Aside0.out (by with_reducible assumption)) : Kd.R d e W base ok v xs := hp
theorem pKq1 {g : Nat} {o : Obj} {w W : World} (h0 : Aside0 (w.heap[g]? = some o)) (hp : W.heap[g]? = some o := by (with_reducible repeat (first | refine blk_drewN ?_ _ | refine blk_drew ?_ | refine blk_alloc ?_ _)); exact Aside0.out (by with_reducible assumption)) : W.heap[g]? = some o := hp
theorem pBq1 {b : Nat} {w0 w W : World} (h0 : Aside0 (Below b w0 w)) (hp : Below b w0 W := by repeat (first | (with_reducible first | exact Aside0.out (by assumption) | apply below_alloc | apply pw_below_drewN | apply below_drew1 | refine below_set ?_ (Aside0.out (by assumption))))) : Below b w0 W := hp
/-! ### laws_toIntS: function 6 -/
def laws_toIntS.l0 : Nat → List Int → List Int → Int → Option (List Int)
 | 0, _, _, _ => none
 | k + 1, x0, x3, x4 => if x4 < (x0.length : Int) then (if 0 ≤ x4 then (if x4 < (x3.length : Int) then (laws_toIntS.l0 k x0 (x3.set (x4 : Int).toNat (rd x0 x4)) (wrap64 (x4 + 1))) else (none)) else (none)) else (some x3)
def laws_toIntS.f (k : Nat) (l0 : List Int) : Option (List Int) := if 0 ≤ (l0.length : Int) then (if ((l0.length : Int) : Int).toNat ≤ 35184372088832 then (laws_toIntS.l0 k l0 (List.replicate ((l0.length : Int) : Int).toNat 0) 0) else (none)) else (none)
theorem laws_toIntS.mono_l : ∀ k, (∀ y0 y1 y2, LeO (laws_toIntS.l0 k y0 y1 y2) (laws_toIntS.l0 (k + 1) y0 y1 y2))
 | 0 => fun _ _ _ r h => by simp [laws_toIntS.l0] at h
 | k + 1 => by
  have ih0 := laws_toIntS.mono_l k
  ·intro y0 y1 y2
   unfold laws_toIntS.l0
   repeat' first | (with_reducible first | exact ih0 _ _ _ | exact LeO.refl _ | exact LeO.none _ | refine LeO.ite ?_ ?_ | refine LeO.bind ?_ (fun _ => ?_))
theorem laws_toIntS.mono : ∀ a0 k, LeO (laws_toIntS.f k a0) (laws_toIntS.f (k + 1) a0) := by
 intro a0 k
 have ih0 := laws_toIntS.mono_l k
 unfold laws_toIntS.f
 repeat' first | (with_reducible first | exact ih0 _ _ _ | exact LeO.refl _ | exact LeO.none _ | refine LeO.ite ?_ ?_ | refine LeO.bind ?_ (fun _ => ?_))
theorem laws_toIntS.calls (k : Nat) (A0 : Option Addr) (c0 : Nat) (l0 : List Int) (r : List Int) (w : World) (hr0 : Kd.C (Kd.int .i64) w A0 l0.length l0) (hc0 : l0.length ≤ c0) (h : laws_toIntS.f k l0 = some r) :
  Calls Try.prog 6 #[.slice A0 l0.length c0] w fun e w' => ∃ v0_ : Value, e = .returned (v0_) ∧ Kd.R (Kd.int .i64) 3 w' w.heap.size (fun _ => True) v0_ r ∧ Below w.heap.size w w' := by
 have HR0 := am hr0
 have HC0 := am hc0
 clear hr0 hc0
 have HB := am (Below.refl w.heap.size w)
 have H : (if 0 ≤ (l0.length : Int) then (if ((l0.length : Int) : Int).toNat ≤ 35184372088832 then (laws_toIntS.l0 k l0 (List.replicate ((l0.length : Int) : Int).toNat 0) 0) else (none)) else (none)) = some r := h
 clear h
 by_cases c2 : 0 ≤ (l0.length : Int)
 ·rw [if_pos c2] at H
  have c2b0 := eq_true c2
  have c2b1 : decide (0 ≤ (l0.length : Int)) = true := decide_eq_true c2
  clear c2
  by_cases c3 : ((l0.length : Int) : Int).toNat ≤ 35184372088832
  ·rw [if_pos c3] at H
   have c3b0 := eq_true c3
   have c3b1 : decide (((l0.length : Int) : Int).toNat ≤ 35184372088832) = true := decide_eq_true c3
   clear c3
   obtain ⟨y101, hy101⟩ : ∃ y_ : List Int, y_ = (List.replicate ((l0.length : Int) : Int).toNat 0) := ⟨_, rfl⟩
   replace H : (laws_toIntS.l0 k l0 y101 0) = some r := by first | (rw [hy101]; exact zH) | exact zH
   have Ny101 := am hy101
   clear hy101
   have H' := am H
   clear H
   go_enter Try.func6, Try.ntmps6
   go_wp2_with (first | ((with_reducible refine gate_dst (N := 7) rfl ?_); refine Kd.R_make (Kd.int .i64) _ 3 rfl (N := 7) rfl 22 _ _ rfl (l0.length : Int) rfl rfl Try.underlying22 (.int .i64 0) 8 info3 rfl zq33 zq10 0 (ok := fun _ => True) (okp := fun _ => True) rfl (fun _ hk => hk) trivial (of_decide_eq_true zq0) (Nat.le_trans (Nat.mul_le_mul_right _ (of_decide_eq_true zq0 : (l0.length : Int).toNat ≤ 35184372088832)) zq10) (Below.refl _ _) (Nat.le_refl _) ?_; intro v102 w4 ho5 hb hg_ hnew_; clear hg_ hnew_; (first | rw [← Ny101.out] at ho5 | (simp only [Int.reduceToNat] at ho5; rw [← Ny101.out] at ho5)); have HO103 := am (Kd.R_lower ho5 (below_size (pBq1 HB))); replace HB := am (below_step (pBq1 HB) hb); clear hb ho5))
   go_loopg [4] k (fun kq v4 w' => ∃ (x3_1 : List Int) (x4_1 : Int), v4 = .int .i64 x4_1 ∧ Aside0 (laws_toIntS.l0 kq l0 x3_1 x4_1 = some r) ∧ Aside0 (kq ≤ k) ∧ Aside0 (Kd.R (Kd.int .i64) 3 w' w.heap.size (fun _ => True) v102 x3_1) ∧ Aside0 (Below w.heap.size w w'))
   case atStart => exact ⟨(y101), (0), zq3, H', ⟨Nat.le_refl _⟩, ⟨by (with_reducible repeat (first | apply Kd.R_alloc | apply Kd.R_drewN | apply Kd.R_drew)); exact HO103.out⟩, ⟨zq1⟩⟩
   case round =>
    clear H'
    try clear c2
    try clear c2b0
    try clear c2b1
    try clear p2
    try clear c3
    try clear c3b0
    try clear c3b1
    obtain ⟨x3_1, x4_1, rfl, HA, HK1, HO_3, HB⟩ := hrel
    cases gk with
    | zero => exact absurd HA.out (by simp [laws_toIntS.l0])
    | succ k1 =>
     have H := HA.out
     clear HA
     simp only [laws_toIntS.l0] at H
     by_cases c6 : x4_1 < (l0.length : Int)
     ·rw [if_pos c6] at H
      have c6b0 : decide (x4_1 < (l0.length : Int)) = true := decide_eq_true c6
      clear c6
      by_cases c7 : 0 ≤ x4_1
      ·rw [if_pos c7] at H
       have c7b0 : decide (0 ≤ x4_1) = true := decide_eq_true c7
       clear c7
       by_cases c8 : x4_1 < (x3_1.length : Int)
       ·rw [if_pos c8] at H
        have c8b0 : decide (x4_1 < (x3_1.length : Int)) = true := decide_eq_true c8
        clear c8
        obtain ⟨y105, hy105⟩ : ∃ y_ : List Int, y_ = (x3_1.set (x4_1 : Int).toNat (rd l0 x4_1)) := ⟨_, rfl⟩
        replace H : (laws_toIntS.l0 k1 l0 y105 (wrap64 (x4_1 + 1))) = some r := by first | (rw [hy105]; exact zH) | exact zH
        have Ny105 := am hy105
        clear hy105
        have H' := am H
        clear H
        have p104 : 0 ≤ (x4_1 : Int) := of_decide_eq_true zq0
        have q104 : x4_1 < (l0.length : Int) := of_decide_eq_true zq0
        obtain ⟨ad104, e104, hx104_0⟩ := Kd.at_int HR0.out x4_1 p104 q104
        cases e104
        replace hx104_0 := (HB.out.cell (World.block_lt_of_cell? w _ hx104_0)).trans hx104_0
        replace p104 := eq_true p104
        replace q104 := eq_true q104
        have p9 : 0 ≤ (x4_1 : Int) := of_decide_eq_true zq0
        have q9 : (x4_1 : Int) < ((x3_1.length : Int) : Int) := of_decide_eq_true zq0
        obtain ⟨go9, co9, eo9, gb9, gl9, cl9, HG9⟩ := Kd.R_form HO_3.out zq10
        (first | cases eo9 | (injection eo9 with ea_ en_ ec_; (first | subst ea_ | (injection ea_ with ea_; subst ea_)); subst ec_; clear en_))
        have GB9 := am gb9
        have GG9 := am HG9
        clear gb9 gl9 HG9
        obtain ⟨hx9_0, hf9_0⟩ := Kd.R_celln 0 HO_3.out (x4_1 : Int) p9 q9
        replace p9 := eq_true p9
        replace q9 := eq_true q9
        have HP10 := Kd.R_putg HO_3.out (x4_1 : Int) (rd l0 x4_1)
        go_wp2_with (first | ((with_reducible refine gate_store (t := 3) (p := 20) rfl ?_); refine store_event (t := 3) (p := 20) (v := ?vo_w11) (w1 := (wr.setCell ⟨go9, (x4_1 : Int).toNat, none⟩ (.int .i64 (rd l0 x4_1)))) ?hg ?ho ?hn ?hr ?_; (case ho => rfl); (case hg => rfl); (case hn => rfl); (case hr => exact zq8); intro w11 hw; have hg : wr.grownBy w11 (some go9) := (by rw [hw]; exact HP10.2); have hp_ : Kd.R (Kd.int .i64) 3 w11 w.heap.size (fun _ => True) (.slice (some ⟨go9, 0, none⟩) x3_1.length co9) y105 := (by rw [hw, Ny105.out]; exact HP10.1); clear HP10; replace HO_3 := am (hp_); replace HB := am ((zq62 : Below w.heap.size w w11)); clear hg hw hp_))
        go_roundg k1
        case measure => have := HK1.out; omega
        case rel => exact ⟨(y105), (wrap64 (x4_1 + 1)), zq3, H', ⟨zq32⟩, ⟨zq34⟩, ⟨zq1⟩⟩
       ·rw [if_neg c8] at H
        exact absurd H zq24
      ·rw [if_neg c7] at H
       exact absurd H zq24
     ·rw [if_neg c6] at H
      have c6b0 : decide (x4_1 < (l0.length : Int)) = false := decide_eq_false c6
      clear c6
      obtain rfl := Option.some.inj H
      go_wp2
      go_ret
      exact ⟨_, zq6, zq34, zq1⟩
  ·rw [if_neg c3] at H
   exact absurd H zq24
 ·rw [if_neg c2] at H
  exact absurd H zq24
/-! ### laws_eqIntS: function 9 -/
def laws_eqIntS.l0 : Nat → List Int → List Int → Int → Option (Bool)
 | 0, _, _, _ => none
 | k + 1, x0, x1, x5 => if x5 < (x0.length : Int) then (if 0 ≤ x5 then (if x5 < (x1.length : Int) then (if (rd x0 x5) = (rd x1 x5) then (laws_eqIntS.l0 k x0 x1 (wrap64 (x5 + 1))) else (some false)) else (none)) else (none)) else (some true)
def laws_eqIntS.f (k : Nat) (l0 : List Int) (l1 : List Int) : Option (Bool) := if (l0.length : Int) = (l1.length : Int) then (laws_eqIntS.l0 k l0 l1 0) else (some false)
theorem laws_eqIntS.mono_l : ∀ k, (∀ y0 y1 y2, LeO (laws_eqIntS.l0 k y0 y1 y2) (laws_eqIntS.l0 (k + 1) y0 y1 y2))
 | 0 => fun _ _ _ r h => by simp [laws_eqIntS.l0] at h
 | k + 1 => by
  have ih0 := laws_eqIntS.mono_l k
  ·intro y0 y1 y2
   unfold laws_eqIntS.l0
   repeat' first | (with_reducible first | exact ih0 _ _ _ | exact LeO.refl _ | exact LeO.none _ | refine LeO.ite ?_ ?_ | refine LeO.bind ?_ (fun _ => ?_))
theorem laws_eqIntS.mono : ∀ a0 a1 k, LeO (laws_eqIntS.f k a0 a1) (laws_eqIntS.f (k + 1) a0 a1) := by
 intro a0 a1 k
 have ih0 := laws_eqIntS.mono_l k
 unfold laws_eqIntS.f
 repeat' first | (with_reducible first | exact ih0 _ _ _ | exact LeO.refl _ | exact LeO.none _ | refine LeO.ite ?_ ?_ | refine LeO.bind ?_ (fun _ => ?_))
theorem laws_eqIntS.calls (k : Nat) (A0 : Option Addr) (c0 : Nat) (l0 : List Int) (A1 : Option Addr) (c1 : Nat) (l1 : List Int) (r : Bool) (w : World) (hr0 : Kd.C (Kd.int .i64) w A0 l0.length l0) (hc0 : l0.length ≤ c0) (hr1 : Kd.C (Kd.int .i64) w A1 l1.length l1) (hc1 : l1.length ≤ c1) (h : laws_eqIntS.f k l0 l1 = some r) :
  Calls Try.prog 9 #[.slice A0 l0.length c0, .slice A1 l1.length c1] w fun e w' => e = .returned (.bool r) ∧ Drawn0 w w' := by
 have HR0 := am hr0
 have HC0 := am hc0
 clear hr0 hc0
 have HR1 := am hr1
 have HC1 := am hc1
 clear hr1 hc1
 have H : (if (l0.length : Int) = (l1.length : Int) then (laws_eqIntS.l0 k l0 l1 0) else (some false)) = some r := h
 clear h
 by_cases c3 : (l0.length : Int) = (l1.length : Int)
 ·rw [if_pos c3] at H
  have c3b0 : ((l0.length : Int) == (l1.length : Int)) = true := beq_iff_eq.mpr c3
  have c3b1 : ((l0.length : Int) != (l1.length : Int)) = false := bne_eq_false_iff_eq.mpr c3
  have c3b2 : (l0.length == l1.length) = true := zq92
  clear c3
  have H' := am H
  clear H
  go_enter Try.func9, Try.ntmps9
  go_wp2
  repeat (go_quiet (fail); try go_wp2)
  go_loopg [5] k (fun kq v5 w' => ∃ (x5_1 : Int), v5 = .int .i64 x5_1 ∧ Aside0 (laws_eqIntS.l0 kq l0 l1 x5_1 = some r) ∧ Aside0 (kq ≤ k) ∧ Drawn0 w w')
  case atStart => exact ⟨(0), zq3, H', ⟨Nat.le_refl _⟩, zq4⟩
  case round =>
   clear H'
   try clear c1
   try clear p2
   try clear c3
   try clear c3b0
   try clear c3b1
   try clear c3b2
   obtain ⟨x5_1, rfl, HA, HK1, ⟨m1, rfl⟩⟩ := hrel
   cases gk with
   | zero => exact absurd HA.out (by simp [laws_eqIntS.l0])
   | succ k1 =>
    have H := HA.out
    clear HA
    simp only [laws_eqIntS.l0] at H
    by_cases c4 : x5_1 < (l0.length : Int)
    ·rw [if_pos c4] at H
     have c4b0 : decide (x5_1 < (l0.length : Int)) = true := decide_eq_true c4
     clear c4
     by_cases c5 : 0 ≤ x5_1
     ·rw [if_pos c5] at H
      have c5b0 : decide (0 ≤ x5_1) = true := decide_eq_true c5
      clear c5
      by_cases c6 : x5_1 < (l1.length : Int)
      ·rw [if_pos c6] at H
       have c6b0 : decide (x5_1 < (l1.length : Int)) = true := decide_eq_true c6
       clear c6
       by_cases c7 : (rd l0 x5_1) = (rd l1 x5_1)
       ·rw [if_pos c7] at H
        have c7b0 : ((rd l0 x5_1) == (rd l1 x5_1)) = true := beq_iff_eq.mpr c7
        have c7b1 : ((rd l0 x5_1) != (rd l1 x5_1)) = false := bne_eq_false_iff_eq.mpr c7
        clear c7
        have H' := am H
        clear H
        have p106 : 0 ≤ (x5_1 : Int) := of_decide_eq_true zq0
        have q106 : x5_1 < (l0.length : Int) := of_decide_eq_true zq0
        obtain ⟨ad106, e106, hx106_0⟩ := Kd.at_int HR0.out x5_1 p106 q106
        cases e106
        replace p106 := eq_true p106
        replace q106 := eq_true q106
        have p107 : 0 ≤ (x5_1 : Int) := of_decide_eq_true zq0
        have q107 : x5_1 < (l1.length : Int) := of_decide_eq_true zq0
        obtain ⟨ad107, e107, hx107_0⟩ := Kd.at_int HR1.out x5_1 p107 q107
        cases e107
        replace p107 := eq_true p107
        replace q107 := eq_true q107
        go_wp2
        repeat (go_quiet (fail); try go_wp2)
        go_roundg k1
        case measure => have := HK1.out; omega
        case rel => exact ⟨(wrap64 (x5_1 + 1)), zq3, H', ⟨zq32⟩, zq4⟩
       ·rw [if_neg c7] at H
        have c7b0 : ((rd l0 x5_1) == (rd l1 x5_1)) = false := beq_eq_false_iff_ne.mpr c7
        have c7b1 : ((rd l0 x5_1) != (rd l1 x5_1)) = true := bne_iff_ne.mpr c7
        obtain rfl := Option.some.inj H
        have p106 : 0 ≤ (x5_1 : Int) := of_decide_eq_true zq0
        have q106 : x5_1 < (l0.length : Int) := of_decide_eq_true zq0
        obtain ⟨ad106, e106, hx106_0⟩ := Kd.at_int HR0.out x5_1 p106 q106
        cases e106
        replace p106 := eq_true p106
        replace q106 := eq_true q106
        have p107 : 0 ≤ (x5_1 : Int) := of_decide_eq_true zq0
        have q107 : x5_1 < (l1.length : Int) := of_decide_eq_true zq0
        obtain ⟨ad107, e107, hx107_0⟩ := Kd.at_int HR1.out x5_1 p107 q107
        cases e107
        replace p107 := eq_true p107
        replace q107 := eq_true q107
        go_wp2
        repeat (go_quiet (fail); try go_wp2)
        go_ret
        exact ⟨zq3, zq4⟩
      ·rw [if_neg c6] at H
       exact absurd H zq24
     ·rw [if_neg c5] at H
      exact absurd H zq24
    ·rw [if_neg c4] at H
     have c4b0 : decide (x5_1 < (l0.length : Int)) = false := decide_eq_false c4
     clear c4
     obtain rfl := Option.some.inj H
     go_wp2
     repeat (go_quiet (fail); try go_wp2)
     go_ret
     exact ⟨zq3, zq4⟩
 ·rw [if_neg c3] at H
  have c3b0 : ((l0.length : Int) == (l1.length : Int)) = false := beq_eq_false_iff_ne.mpr c3
  have c3b1 : ((l0.length : Int) != (l1.length : Int)) = true := bne_iff_ne.mpr c3
  have c3b2 : (l0.length == l1.length) = false := zq92
  obtain rfl := Option.some.inj H
  go_enter Try.func9, Try.ntmps9
  go_wp2
  repeat (go_quiet (fail); try go_wp2)
  go_ret
  exact ⟨zq3, zq4⟩
/-! ### laws_markIntS: function 10 -/
def laws_markIntS.l0 : Nat → List Int → Int → Int → Option (Int × List Int)
 | 0, _, _, _ => none
 | k + 1, x0, x1, x5 => if x5 < (x0.length : Int) then (if 0 ≤ x5 then (laws_markIntS.l0 k (x0.set (x5 : Int).toNat x1) (wrap64 (x1 + 1)) (wrap64 (x5 + 1))) else (none)) else (some (x1, x0))
def laws_markIntS.f (k : Nat) (l0 : List Int) (a1 : Int) : Option (Int × List Int) := laws_markIntS.l0 k l0 a1 0
theorem laws_markIntS.mono_l : ∀ k, (∀ y0 y1 y2, LeO (laws_markIntS.l0 k y0 y1 y2) (laws_markIntS.l0 (k + 1) y0 y1 y2))
 | 0 => fun _ _ _ r h => by simp [laws_markIntS.l0] at h
 | k + 1 => by
  have ih0 := laws_markIntS.mono_l k
  ·intro y0 y1 y2
   unfold laws_markIntS.l0
   repeat' first | (with_reducible first | exact ih0 _ _ _ | exact LeO.refl _ | exact LeO.none _ | refine LeO.ite ?_ ?_ | refine LeO.bind ?_ (fun _ => ?_))
theorem laws_markIntS.mono : ∀ a0 a1 k, LeO (laws_markIntS.f k a0 a1) (laws_markIntS.f (k + 1) a0 a1) := by
 intro a0 a1 k
 have ih0 := laws_markIntS.mono_l k
 unfold laws_markIntS.f
 repeat' first | (with_reducible first | exact ih0 _ _ _ | exact LeO.refl _ | exact LeO.none _ | refine LeO.ite ?_ ?_ | refine LeO.bind ?_ (fun _ => ?_))
theorem laws_markIntS.calls (k : Nat) (P0_ : Nat → Prop) (u9000_ : Value) (l0 : List Int) (a1 : Int) (r1 : Int) (r2 : List Int) (w0 w : World) (hB : Below w0.heap.size w0 w) (ho0 : Kd.R (Kd.int .i64) 3 w w0.heap.size P0_ u9000_ l0) (h : laws_markIntS.f k l0 a1 = some (r1, r2)) :
  Calls Try.prog 10 #[u9000_, .int .i64 a1] w fun e w' => e = .returned (.int .i64 r1) ∧ Kd.R (Kd.int .i64) 3 w' w0.heap.size (fun k_ => (P0_ k_ ∨ w.heap.size ≤ k_)) u9000_ r2 ∧ Below w0.heap.size w0 w' ∧ Kept w w' (fun k_ => P0_ k_) := by
 have HO0 := am (show Kd.R (Kd.int .i64) 3 w w0.heap.size (fun k_ => (P0_ k_ ∨ w.heap.size ≤ k_)) u9000_ l0 from Kd.R_mono ho0 (fun k_ hk => (.inl hk)))
 have HK := am (Kept.refl w (fun k_ => P0_ k_))
 have HW0 := am hB.size
 have HB := am hB
 clear hB
 have H : (laws_markIntS.l0 k l0 a1 0) = some (r1, r2) := h
 clear h
 have H' := am H
 clear H
 go_enter Try.func10, Try.ntmps10
 go_wp2
 go_loopg [1, 5] k (fun kq v1 v5 w' => ∃ (x0_1 : List Int) (x1_1 : Int) (x5_1 : Int), v1 = .int .i64 x1_1 ∧ v5 = .int .i64 x5_1 ∧ Aside0 (laws_markIntS.l0 kq x0_1 x1_1 x5_1 = some (r1, r2)) ∧ Aside0 (kq ≤ k) ∧ Aside0 (Kd.R (Kd.int .i64) 3 w' w0.heap.size (fun k_ => (P0_ k_ ∨ w.heap.size ≤ k_)) u9000_ x0_1) ∧ Aside0 (Kept w w' (fun k_ => P0_ k_)) ∧ Aside0 (Below w0.heap.size w0 w'))
 case atStart => exact ⟨(l0), (a1), (0), zq3, zq3, H', ⟨Nat.le_refl _⟩, ⟨by (with_reducible repeat (first | apply Kd.R_alloc | apply Kd.R_drewN | apply Kd.R_drew)); exact HO0.out⟩, ⟨zq13⟩, ⟨zq1⟩⟩
 case round =>
  clear H'
  try clear c1
  try clear p2
  obtain ⟨x0_1, x1_1, x5_1, rfl, rfl, HA, HK1, HO_0, HK, HB⟩ := hrel
  cases gk with
  | zero => exact absurd HA.out (by simp [laws_markIntS.l0])
  | succ k1 =>
   have H := HA.out
   clear HA
   simp only [laws_markIntS.l0] at H
   by_cases c3 : x5_1 < (x0_1.length : Int)
   ·rw [if_pos c3] at H
    have c3b0 : decide (x5_1 < (x0_1.length : Int)) = true := decide_eq_true c3
    clear c3
    by_cases c4 : 0 ≤ x5_1
    ·rw [if_pos c4] at H
     have c4b0 : decide (0 ≤ x5_1) = true := decide_eq_true c4
     clear c4
     obtain ⟨y108, hy108⟩ : ∃ y_ : List Int, y_ = (x0_1.set (x5_1 : Int).toNat x1_1) := ⟨_, rfl⟩
     replace H : (laws_markIntS.l0 k1 y108 (wrap64 (x1_1 + 1)) (wrap64 (x5_1 + 1))) = some (r1, r2) := by first | (rw [hy108]; exact zH) | exact zH
     have Ny108 := am hy108
     clear hy108
     have H' := am H
     clear H
     obtain ⟨Ao6, co6, eo6⟩ := Kd.R_slice HO_0.out
     subst eo6
     have p5 : 0 ≤ (x5_1 : Int) := of_decide_eq_true zq0
     have q5 : (x5_1 : Int) < ((x0_1.length : Int) : Int) := of_decide_eq_true zq0
     obtain ⟨go5, co5, eo5, gb5, gl5, cl5, HG5⟩ := Kd.R_form HO_0.out zq10
     (first | cases eo5 | (injection eo5 with ea_ en_ ec_; (first | subst ea_ | (injection ea_ with ea_; subst ea_)); subst ec_; clear en_))
     have GB5 := am gb5
     have GG5 := am HG5
     clear gb5 gl5 HG5
     have HMgo5 := am (show (P0_ go5 ∨ w.heap.size ≤ go5) from (HO_0.out.1 _ rfl))
     obtain ⟨hx5_0, hf5_0⟩ := Kd.R_celln 0 HO_0.out (x5_1 : Int) p5 q5
     replace p5 := eq_true p5
     replace q5 := eq_true q5
     have HP7 := Kd.R_putg HO_0.out (x5_1 : Int) x1_1
     go_wp2_with (first | ((with_reducible refine gate_store (t := 3) (p := 15) rfl ?_); refine store_event (t := 3) (p := 15) (v := ?vo_w8) (w1 := (wr.setCell ⟨go5, (x5_1 : Int).toNat, none⟩ (.int .i64 x1_1))) ?hg ?ho ?hn ?hr ?_; (case ho => rfl); (case hg => rfl); (case hn => rfl); (case hr => exact zq8); intro w8 hw; have hg : wr.grownBy w8 (some go5) := (by rw [hw]; exact HP7.2); have hp_ : Kd.R (Kd.int .i64) 3 w8 w0.heap.size (fun k_ => (P0_ k_ ∨ w.heap.size ≤ k_)) (.slice (some ⟨go5, 0, none⟩) x0_1.length co6) y108 := (by rw [hw, Ny108.out]; exact HP7.1); clear HP7; replace HB := am ((by rw [hw]; exact below_set (HB.out) GB5.out : Below w0.heap.size w0 w8)); replace HK := am (Kept.of_grown (S := (fun k_ => P0_ k_)) hg zq13 (fun k_ e_ => (HO_0.out.1 k_ e_))); replace HO_0 := am (hp_); clear hg hw hp_))
     go_roundg k1
     case measure => have := HK1.out; omega
     case rel => exact ⟨(y108), (wrap64 (x1_1 + 1)), (wrap64 (x5_1 + 1)), zq3, zq3, H', ⟨zq32⟩, ⟨by (with_reducible repeat (first | apply Kd.R_alloc | apply Kd.R_drewN | apply Kd.R_drew)); exact HO_0.out⟩, ⟨zq13⟩, ⟨zq1⟩⟩
    ·rw [if_neg c4] at H
     exact absurd H zq24
   ·rw [if_neg c3] at H
    have c3b0 : decide (x5_1 < (x0_1.length : Int)) = false := decide_eq_false c3
    clear c3
    simp only [Option.some.injEq, Prod.mk.injEq] at H
    obtain ⟨rfl, rfl⟩ := H
    obtain ⟨Ao9, co9, eo9⟩ := Kd.R_slice HO_0.out
    subst eo9
    go_wp2
    go_ret
    exact ⟨zq6, by (with_reducible repeat (first | apply Kd.R_alloc | apply Kd.R_drewN | apply Kd.R_drew)); exact HO_0.out, zq1, zq13⟩
/-! ### spec_l1In: function 34 -/
def spec_l1In.f (a0 : Int) (a1 : Int) (a2 : Int) : Option (Bool) := if a0 ≥ a1 then (some (decide (a0 ≤ a2))) else (some false)
theorem spec_l1In.calls (a0 : Int) (a1 : Int) (a2 : Int) (r : Bool) (w : World) (h : spec_l1In.f a0 a1 a2 = some r) :
  Calls Try.prog 34 #[.int .i64 a0, .int .i64 a1, .int .i64 a2] w fun e w' => e = .returned (.bool r) ∧ Drawn0 w w' := by
 have H : (if a0 ≥ a1 then (some (decide (a0 ≤ a2))) else (some false)) = some r := h
 clear h
 by_cases c4 : a0 ≥ a1
 ·rw [if_pos c4] at H
  have c4b0 : decide (a1 ≤ a0) = true := decide_eq_true c4
  clear c4
  obtain rfl := Option.some.inj H
  go_enter Try.func34, Try.ntmps34
  go_wp2
  go_ret
  exact ⟨zq3, zq4⟩
 ·rw [if_neg c4] at H
  have c4b0 : decide (a1 ≤ a0) = false := decide_eq_false c4
  clear c4
  obtain rfl := Option.some.inj H
  go_enter Try.func34, Try.ntmps34
  go_wp2
  go_ret
  exact ⟨zq3, zq4⟩
/-! ### spec_l1Has: function 49 -/
def spec_l1Has.l0 : Nat → Int → List Int → Int → Int → Option (Bool)
 | 0, _, _, _, _ => none
 | k + 1, x1, x7, x8, x9 => if x9 < x8 then (if 0 ≤ x9 then (if x9 < (x7.length : Int) then (if (rd x7 x9) = x1 then (some true) else (spec_l1Has.l0 k x1 x7 x8 (wrap64 (x9 + 1)))) else (none)) else (none)) else (some false)
def spec_l1Has.f (k : Nat) (l0 : List Int) (a1 : Int) : Option (Bool) := spec_l1Has.l0 k a1 l0 (l0.length : Int) 0
theorem spec_l1Has.mono_l : ∀ k, (∀ y0 y1 y2 y3, LeO (spec_l1Has.l0 k y0 y1 y2 y3) (spec_l1Has.l0 (k + 1) y0 y1 y2 y3))
 | 0 => fun _ _ _ _ r h => by simp [spec_l1Has.l0] at h
 | k + 1 => by
  have ih0 := spec_l1Has.mono_l k
  ·intro y0 y1 y2 y3
   unfold spec_l1Has.l0
   repeat' first | (with_reducible first | exact ih0 _ _ _ _ | exact LeO.refl _ | exact LeO.none _ | refine LeO.ite ?_ ?_ | refine LeO.bind ?_ (fun _ => ?_))
theorem spec_l1Has.mono : ∀ a0 a1 k, LeO (spec_l1Has.f k a0 a1) (spec_l1Has.f (k + 1) a0 a1) := by
 intro a0 a1 k
 have ih0 := spec_l1Has.mono_l k
 unfold spec_l1Has.f
 repeat' first | (with_reducible first | exact ih0 _ _ _ _ | exact LeO.refl _ | exact LeO.none _ | refine LeO.ite ?_ ?_ | refine LeO.bind ?_ (fun _ => ?_))
theorem spec_l1Has.calls (k : Nat) (A0 : Option Addr) (c0 : Nat) (l0 : List Int) (a1 : Int) (r : Bool) (w : World) (hr0 : Kd.C (Kd.int .i64) w A0 l0.length l0) (hc0 : l0.length ≤ c0) (h : spec_l1Has.f k l0 a1 = some r) :
  Calls Try.prog 49 #[.slice A0 l0.length c0, .int .i64 a1] w fun e w' => e = .returned (.bool r) ∧ Drawn0 w w' := by
 have HR0 := am hr0
 have HC0 := am hc0
 clear hr0 hc0
 have H : (spec_l1Has.l0 k a1 l0 (l0.length : Int) 0) = some r := h
 clear h
 have H' := am H
 clear H
 go_enter Try.func49, Try.ntmps49
 go_wp2
 go_loopg [9] k (fun kq v9 w' => ∃ (x9_1 : Int), v9 = .int .i64 x9_1 ∧ Aside0 (spec_l1Has.l0 kq a1 l0 (l0.length : Int) x9_1 = some r) ∧ Aside0 (kq ≤ k) ∧ Drawn0 w w')
 case atStart => exact ⟨(0), zq3, H', ⟨Nat.le_refl _⟩, zq4⟩
 case round =>
  clear H'
  try clear p2
  obtain ⟨x9_1, rfl, HA, HK1, ⟨m1, rfl⟩⟩ := hrel
  cases gk with
  | zero => exact absurd HA.out (by simp [spec_l1Has.l0])
  | succ k1 =>
   have H := HA.out
   clear HA
   simp only [spec_l1Has.l0] at H
   by_cases c3 : x9_1 < (l0.length : Int)
   ·rw [if_pos c3] at H
    have c3b0 : decide (x9_1 < (l0.length : Int)) = true := decide_eq_true c3
    clear c3
    by_cases c4 : 0 ≤ x9_1
    ·rw [if_pos c4] at H
     have c4b0 : decide (0 ≤ x9_1) = true := decide_eq_true c4
     clear c4
     by_cases c5 : x9_1 < (l0.length : Int)
     ·rw [if_pos c5] at H
      have c5b0 : decide (x9_1 < (l0.length : Int)) = true := decide_eq_true c5
      clear c5
      by_cases c6 : (rd l0 x9_1) = a1
      ·rw [if_pos c6] at H
       have c6b0 : ((rd l0 x9_1) == a1) = true := beq_iff_eq.mpr c6
       have c6b1 : ((rd l0 x9_1) != a1) = false := bne_eq_false_iff_eq.mpr c6
       clear c6
       obtain rfl := Option.some.inj H
       have p109 : 0 ≤ (x9_1 : Int) := of_decide_eq_true zq0
       have q109 : x9_1 < (l0.length : Int) := of_decide_eq_true zq0
       obtain ⟨ad109, e109, hx109_0⟩ := Kd.at_int HR0.out x9_1 p109 q109
       cases e109
       replace p109 := eq_true p109
       replace q109 := eq_true q109
       go_wp2
       go_ret
       exact ⟨zq3, zq4⟩
      ·rw [if_neg c6] at H
       have c6b0 : ((rd l0 x9_1) == a1) = false := beq_eq_false_iff_ne.mpr c6
       have c6b1 : ((rd l0 x9_1) != a1) = true := bne_iff_ne.mpr c6
       have H' := am H
       clear H
       have p109 : 0 ≤ (x9_1 : Int) := of_decide_eq_true zq0
       have q109 : x9_1 < (l0.length : Int) := of_decide_eq_true zq0
       obtain ⟨ad109, e109, hx109_0⟩ := Kd.at_int HR0.out x9_1 p109 q109
       cases e109
       replace p109 := eq_true p109
       replace q109 := eq_true q109
       go_wp2
       go_roundg k1
       case measure => have := HK1.out; omega
       case rel => exact ⟨(wrap64 (x9_1 + 1)), zq3, H', ⟨zq32⟩, zq4⟩
     ·rw [if_neg c5] at H
      exact absurd H zq24
    ·rw [if_neg c4] at H
     exact absurd H zq24
   ·rw [if_neg c3] at H
    have c3b0 : decide (x9_1 < (l0.length : Int)) = false := decide_eq_false c3
    clear c3
    obtain rfl := Option.some.inj H
    go_wp2
    go_ret
    exact ⟨zq3, zq4⟩
/-! ### spec_laOrder: function 33 -/
def spec_laOrder.l0 : Nat → List Int → List Int → Int → Int → Option (Bool)
 | 0, _, _, _, _ => none
 | k + 1, x0, x9, x10, x11 => if x11 < x10 then (if 0 ≤ x11 then (if x11 < (x9.length : Int) then ((spec_l1In.f (rd x9 x11) 0 (wrap64 ((x0.length : Int) - 1))).bind fun t112 => (if t112 = true then (if x11 ≤ (x0.length : Int) then ((spec_l1Has.f k (x0.take (x11 : Int).toNat) (rd x9 x11)).bind fun t117 => (if t117 = true then (some false) else (spec_laOrder.l0 k x0 x9 x10 (wrap64 (x11 + 1))))) else (none)) else (some false))) else (none)) else (none)) else (some true)
def spec_laOrder.f (k : Nat) (l0 : List Int) : Option (Bool) := (spec_l1In.f (l0.length : Int) 1 8).bind fun t110 => (if t110 = true then (spec_laOrder.l0 k l0 l0 (l0.length : Int) 0) else (some false))
theorem spec_laOrder.mono_l : ∀ k, (∀ y0 y1 y2 y3, LeO (spec_laOrder.l0 k y0 y1 y2 y3) (spec_laOrder.l0 (k + 1) y0 y1 y2 y3))
 | 0 => fun _ _ _ _ r h => by simp [spec_laOrder.l0] at h
 | k + 1 => by
  have ih0 := spec_laOrder.mono_l k
  ·intro y0 y1 y2 y3
   unfold spec_laOrder.l0
   repeat' first | (with_reducible first | exact ih0 _ _ _ _ | exact spec_l1Has.mono _ _ _ | exact LeO.refl _ | exact LeO.none _ | refine LeO.ite ?_ ?_ | refine LeO.bind ?_ (fun _ => ?_))
theorem spec_laOrder.mono : ∀ a0 k, LeO (spec_laOrder.f k a0) (spec_laOrder.f (k + 1) a0) := by
 intro a0 k
 have ih0 := spec_laOrder.mono_l k
 unfold spec_laOrder.f
 repeat' first | (with_reducible first | exact ih0 _ _ _ _ | exact spec_l1Has.mono _ _ _ | exact LeO.refl _ | exact LeO.none _ | refine LeO.ite ?_ ?_ | refine LeO.bind ?_ (fun _ => ?_))
theorem spec_laOrder.calls (k : Nat) (A0 : Option Addr) (c0 : Nat) (l0 : List Int) (r : Bool) (w : World) (hr0 : Kd.C (Kd.int .i64) w A0 l0.length l0) (hc0 : l0.length ≤ c0) (h : spec_laOrder.f k l0 = some r) :
  Calls Try.prog 33 #[.slice A0 l0.length c0] w fun e w' => e = .returned (.bool r) ∧ Drawn0 w w' := by
 have HR0 := am hr0
 have HC0 := am hc0
 clear hr0 hc0
 have H : ((spec_l1In.f (l0.length : Int) 1 8).bind fun t110 => (if t110 = true then (spec_laOrder.l0 k l0 l0 (l0.length : Int) 0) else (some false))) = some r := h
 clear h
 obtain ⟨t110, A2, H⟩ := zS H
 (try dsimp only at H)
 by_cases c3 : t110 = true
 ·subst c3
  rw [if_pos rfl] at H
  have H' := am H
  clear H
  go_enter Try.func33, Try.ntmps33
  go_wp2_with (first | ((with_reducible refine gate_callee (f := 34) rfl ?_); refine goesL_ (some 7) rfl rfl Try.func34 zq20 rfl #[.int .i64 (l0.length : Int), .int .i64 1, .int .i64 8] rfl zq2 ?_; (with_reducible refine (spec_l1In.calls (l0.length : Int) 1 8 true _ A2.out).mono ?_); rintro e w' ⟨rfl, ⟨nd, rfl⟩⟩; refine ⟨_, rfl, ?_⟩))
  go_loopg [11] k (fun kq v11 w' => ∃ (x11_1 : Int), v11 = .int .i64 x11_1 ∧ Aside0 (spec_laOrder.l0 kq l0 l0 (l0.length : Int) x11_1 = some r) ∧ Aside0 (kq ≤ k) ∧ Drawn0 w w')
  case atStart => exact ⟨(0), zq3, H', ⟨Nat.le_refl _⟩, zq4⟩
  case round =>
   clear H'
   try clear p2
   try clear c3
   obtain ⟨x11_1, rfl, HA, HK1, ⟨m1, rfl⟩⟩ := hrel
   cases gk with
   | zero => exact absurd HA.out (by simp [spec_laOrder.l0])
   | succ k1 =>
    have H := HA.out
    clear HA
    simp only [spec_laOrder.l0] at H
    by_cases c4 : x11_1 < (l0.length : Int)
    ·rw [if_pos c4] at H
     have c4b0 : decide (x11_1 < (l0.length : Int)) = true := decide_eq_true c4
     clear c4
     by_cases c5 : 0 ≤ x11_1
     ·rw [if_pos c5] at H
      have c5b0 : decide (0 ≤ x11_1) = true := decide_eq_true c5
      clear c5
      by_cases c6 : x11_1 < (l0.length : Int)
      ·rw [if_pos c6] at H
       have c6b0 : decide (x11_1 < (l0.length : Int)) = true := decide_eq_true c6
       clear c6
       obtain ⟨t112, A7, H⟩ := zS H
       (try dsimp only at H)
       by_cases c8 : t112 = true
       ·subst c8
        rw [if_pos rfl] at H
        have c9b0 := eq_true (of_decide_eq_true zq0 : 0 ≤ x11_1)
        by_cases c10 : x11_1 ≤ (l0.length : Int)
        ·rw [if_pos c10] at H
         have c10b0 := eq_true c10
         have c10b1 : decide (x11_1 ≤ (l0.length : Int)) = true := decide_eq_true c10
         clear c10
         obtain ⟨y113, hy113⟩ : ∃ y_ : List Int, y_ = (l0.take (x11_1 : Int).toNat) := ⟨_, rfl⟩
         replace H : ((spec_l1Has.f k1 y113 (rd l0 x11_1)).bind fun t117 => (if t117 = true then (some false) else (spec_laOrder.l0 k1 l0 l0 (l0.length : Int) (wrap64 (x11_1 + 1))))) = some r := by first | (rw [hy113]; exact zH) | exact zH
         have Ny113 := am hy113
         clear hy113
         obtain ⟨t117, A11, H⟩ := zS H
         (try dsimp only at H)
         by_cases c12 : t117 = true
         ·subst c12
          rw [if_pos rfl] at H
          obtain rfl := Option.some.inj H
          have p111 : 0 ≤ (x11_1 : Int) := of_decide_eq_true zq0
          have q111 : x11_1 < (l0.length : Int) := of_decide_eq_true zq0
          obtain ⟨ad111, e111, hx111_0⟩ := Kd.at_int HR0.out x11_1 p111 q111
          cases e111
          replace p111 := eq_true p111
          replace q111 := eq_true q111
          go_wp2_with (first | ((with_reducible refine gate_callee (f := 34) rfl ?_); refine goesL_ (some 20) rfl rfl Try.func34 zq20 rfl #[.int .i64 (rd l0 x11_1), .int .i64 0, .int .i64 (wrap64 ((l0.length : Int) - 1))] rfl zq2 ?_; (with_reducible refine (spec_l1In.calls (rd l0 x11_1) 0 (wrap64 ((l0.length : Int) - 1)) true _ A7.out).mono ?_); rintro e w' ⟨rfl, ⟨nd, rfl⟩⟩; refine ⟨_, rfl, ?_⟩; have q13 : (x11_1 : Int) ≤ ((l0.length : Int) : Int) := of_decide_eq_true zq0; obtain ⟨i013, hi013, _, hsz13, _⟩ := info_parts info3; have hroom13 : l0.length ≤ c0 := HC0.out; have hC13 : Kd.C (Kd.int .i64) _ (some ad111) l0.length l0 := HR0.out; have hcut13 := cut_to (P := Try.prog) 22 3 .i64 Try.underlying22 hi013 (some ad111) l0.length c0 x11_1 (of_decide_eq_true zq0) q13 hroom13; have hr13 := Kd.C_take (m := (x11_1 : Int).toNat) hC13 zq10; have hy13 : y113.length = (x11_1 : Int).toNat := (by rw [Ny113.out, List.length_take]; omega); rw [← Ny113.out] at hr13; rw [← hy13] at hcut13; have HR116 := am hr13; have HC116 := am (show y113.length ≤ c0 from zq10); clear hr13 hC13 hroom13 hi013 hsz13; have KY13 := am hy13; clear hy13; replace q13 := eq_true q13) | (go_at_call 49; refine calls_of_args (args' := #[.slice (some ad111) y113.length c0, .int .i64 (rd l0 x11_1)]) ?cuta118 ?_; (case cuta118 => exact zq14); (with_reducible refine (spec_l1Has.calls k1 _ _ y113 (rd l0 x11_1) true _ ?side1 ?side2 A11.out).mono ?_); (case side1 => exact zq87); (case side2 => exact HC116.out); rintro e w' ⟨rfl, ⟨nd, rfl⟩⟩))
          go_ret
          exact ⟨zq3, zq4⟩
         ·replace c12 := Bool.eq_false_iff.mpr c12
          subst c12
          rw [if_neg (show ¬ (false = true) by decide)] at H
          have H' := am H
          clear H
          have p111 : 0 ≤ (x11_1 : Int) := of_decide_eq_true zq0
          have q111 : x11_1 < (l0.length : Int) := of_decide_eq_true zq0
          obtain ⟨ad111, e111, hx111_0⟩ := Kd.at_int HR0.out x11_1 p111 q111
          cases e111
          replace p111 := eq_true p111
          replace q111 := eq_true q111
          go_wp2_with (first | ((with_reducible refine gate_callee (f := 34) rfl ?_); refine goesL_ (some 20) rfl rfl Try.func34 zq20 rfl #[.int .i64 (rd l0 x11_1), .int .i64 0, .int .i64 (wrap64 ((l0.length : Int) - 1))] rfl zq2 ?_; (with_reducible refine (spec_l1In.calls (rd l0 x11_1) 0 (wrap64 ((l0.length : Int) - 1)) true _ A7.out).mono ?_); rintro e w' ⟨rfl, ⟨nd, rfl⟩⟩; refine ⟨_, rfl, ?_⟩; have q14 : (x11_1 : Int) ≤ ((l0.length : Int) : Int) := of_decide_eq_true zq0; obtain ⟨i014, hi014, _, hsz14, _⟩ := info_parts info3; have hroom14 : l0.length ≤ c0 := HC0.out; have hC14 : Kd.C (Kd.int .i64) _ (some ad111) l0.length l0 := HR0.out; have hcut14 := cut_to (P := Try.prog) 22 3 .i64 Try.underlying22 hi014 (some ad111) l0.length c0 x11_1 (of_decide_eq_true zq0) q14 hroom14; have hr14 := Kd.C_take (m := (x11_1 : Int).toNat) hC14 zq10; have hy14 : y113.length = (x11_1 : Int).toNat := (by rw [Ny113.out, List.length_take]; omega); rw [← Ny113.out] at hr14; rw [← hy14] at hcut14; have HR116 := am hr14; have HC116 := am (show y113.length ≤ c0 from zq10); clear hr14 hC14 hroom14 hi014 hsz14; have KY14 := am hy14; clear hy14; replace q14 := eq_true q14) | (go_at_call 49; refine calls_of_args (args' := #[.slice (some ad111) y113.length c0, .int .i64 (rd l0 x11_1)]) ?cuta119 ?_; (case cuta119 => exact zq14); (with_reducible refine (spec_l1Has.calls k1 _ _ y113 (rd l0 x11_1) false _ ?side1 ?side2 A11.out).mono ?_); (case side1 => exact zq87); (case side2 => exact HC116.out); rintro e w' ⟨rfl, ⟨nd, rfl⟩⟩))
          go_roundg k1
          case measure => have := HK1.out; omega
          case rel => exact ⟨(wrap64 (x11_1 + 1)), zq3, H', ⟨zq32⟩, zq4⟩
        ·rw [if_neg c10] at H
         exact absurd H zq24
       ·replace c8 := Bool.eq_false_iff.mpr c8
        subst c8
        rw [if_neg (show ¬ (false = true) by decide)] at H
        obtain rfl := Option.some.inj H
        have p111 : 0 ≤ (x11_1 : Int) := of_decide_eq_true zq0
        have q111 : x11_1 < (l0.length : Int) := of_decide_eq_true zq0
        obtain ⟨ad111, e111, hx111_0⟩ := Kd.at_int HR0.out x11_1 p111 q111
        cases e111
        replace p111 := eq_true p111
        replace q111 := eq_true q111
        go_wp2_with (first | ((with_reducible refine gate_callee (f := 34) rfl ?_); refine goesL_ (some 20) rfl rfl Try.func34 zq20 rfl #[.int .i64 (rd l0 x11_1), .int .i64 0, .int .i64 (wrap64 ((l0.length : Int) - 1))] rfl zq2 ?_; (with_reducible refine (spec_l1In.calls (rd l0 x11_1) 0 (wrap64 ((l0.length : Int) - 1)) false _ A7.out).mono ?_); rintro e w' ⟨rfl, ⟨nd, rfl⟩⟩; refine ⟨_, rfl, ?_⟩))
        go_ret
        exact ⟨zq3, zq4⟩
      ·rw [if_neg c6] at H
       exact absurd H zq24
     ·rw [if_neg c5] at H
      exact absurd H zq24
    ·rw [if_neg c4] at H
     have c4b0 : decide (x11_1 < (l0.length : Int)) = false := decide_eq_false c4
     clear c4
     obtain rfl := Option.some.inj H
     go_wp2
     go_ret
     exact ⟨zq3, zq4⟩
 ·replace c3 := Bool.eq_false_iff.mpr c3
  subst c3
  rw [if_neg (show ¬ (false = true) by decide)] at H
  obtain rfl := Option.some.inj H
  go_enter Try.func33, Try.ntmps33
  go_wp2_with (first | ((with_reducible refine gate_callee (f := 34) rfl ?_); refine goesL_ (some 7) rfl rfl Try.func34 zq20 rfl #[.int .i64 (l0.length : Int), .int .i64 1, .int .i64 8] rfl zq2 ?_; (with_reducible refine (spec_l1In.calls (l0.length : Int) 1 8 false _ A2.out).mono ?_); rintro e w' ⟨rfl, ⟨nd, rfl⟩⟩; refine ⟨_, rfl, ?_⟩))
  go_ret
  exact ⟨zq3, zq4⟩
/-! ### spec_alGood: function 20 -/
def spec_alGood.f (k : Nat) (l0 : List Int) : Option (Bool) := (spec_laOrder.f k l0).bind fun t120 => (if t120 = true then ((spec_l1In.f (l0.length : Int) 2 6).bind fun t121 => (some t121)) else (some false))
theorem spec_alGood.mono : ∀ a0 k, LeO (spec_alGood.f k a0) (spec_alGood.f (k + 1) a0) := by
 intro a0 k
 unfold spec_alGood.f
 repeat' first | (with_reducible first | exact spec_laOrder.mono _ _ | exact LeO.refl _ | exact LeO.none _ | refine LeO.ite ?_ ?_ | refine LeO.bind ?_ (fun _ => ?_))
theorem spec_alGood.calls (k : Nat) (A0 : Option Addr) (c0 : Nat) (l0 : List Int) (r : Bool) (w : World) (hr0 : Kd.C (Kd.int .i64) w A0 l0.length l0) (hc0 : l0.length ≤ c0) (h : spec_alGood.f k l0 = some r) :
  Calls Try.prog 20 #[.slice A0 l0.length c0] w fun e w' => e = .returned (.bool r) ∧ Drawn0 w w' := by
 have HR0 := am hr0
 have HC0 := am hc0
 clear hr0 hc0
 have H : ((spec_laOrder.f k l0).bind fun t120 => (if t120 = true then ((spec_l1In.f (l0.length : Int) 2 6).bind fun t121 => (some t121)) else (some false))) = some r := h
 clear h
 obtain ⟨t120, A2, H⟩ := zS H
 (try dsimp only at H)
 by_cases c3 : t120 = true
 ·subst c3
  rw [if_pos rfl] at H
  obtain ⟨t121, A4, H⟩ := zS H
  (try dsimp only at H)
  obtain rfl := Option.some.inj H
  go_enter Try.func20, Try.ntmps20
  go_wp2_with (first | ((with_reducible refine gate_callee (f := 33) rfl ?_); refine goesL_ (some 4) rfl rfl Try.func33 zq20 rfl #[.slice A0 l0.length c0] rfl zq2 ?_; (with_reducible refine (spec_laOrder.calls k _ _ l0 true _ ?side1 ?side2 A2.out).mono ?_); (case side1 => exact zq9); (case side2 => exact HC0.out); rintro e w' ⟨rfl, ⟨nd, rfl⟩⟩; refine ⟨_, rfl, ?_⟩) | (go_at_call 34; (with_reducible refine (spec_l1In.calls (l0.length : Int) 2 6 t121 _ A4.out).mono ?_); rintro e w' ⟨rfl, ⟨nd, rfl⟩⟩))
  go_ret
  exact ⟨zq3, zq4⟩
 ·replace c3 := Bool.eq_false_iff.mpr c3
  subst c3
  rw [if_neg (show ¬ (false = true) by decide)] at H
  obtain rfl := Option.some.inj H
  go_enter Try.func20, Try.ntmps20
  go_wp2_with (first | ((with_reducible refine gate_callee (f := 33) rfl ?_); refine goesL_ (some 4) rfl rfl Try.func33 zq20 rfl #[.slice A0 l0.length c0] rfl zq2 ?_; (with_reducible refine (spec_laOrder.calls k _ _ l0 false _ ?side1 ?side2 A2.out).mono ?_); (case side1 => exact zq9); (case side2 => exact HC0.out); rintro e w' ⟨rfl, ⟨nd, rfl⟩⟩; refine ⟨_, rfl, ?_⟩))
  go_ret
  exact ⟨zq3, zq4⟩
/-! ### spec_alNew: function 21 -/
def spec_alNew.fc : Nat → Nat
 | 0 => 1
 | n + 1 => (n + 1) * spec_alNew.fc n
theorem spec_alNew.fc_le : ∀ n, n < 9 → spec_alNew.fc n ≤ 40320 := by decide
theorem spec_alNew.fc_pos : ∀ n, 1 ≤ spec_alNew.fc n
 | 0 => Nat.le_refl _
 | n + 1 => by rw [spec_alNew.fc]; exact Nat.mul_pos zq10 (spec_alNew.fc_pos n)
def spec_alNew.f (n : Int) : Option Nat := if 0 ≤ n ∧ n ≤ 8 then some (spec_alNew.fc n.toNat) else none
theorem spec_alNew.mul_ok (a j : Nat) (h : (j + 1) * a ≤ 40320) : wrap64 ((a : Int) * ((j : Int) + 1)) = (((j + 1) * a : Nat) : Int) := by
 have h2 : (a : Int) * ((j : Int) + 1) = (((j + 1) * a : Nat) : Int) := by
  rw [Int.natCast_mul, Int.mul_comm]; rfl
 rw [h2]
 generalize (j + 1) * a = p at h ⊢
 unfold wrap64; omega
theorem spec_alNew.set_next (i m : Nat) : (List.replicate i (-1 : Int) ++ List.replicate (m + 1) (0 : Int)).set i (-1) = List.replicate (i + 1) (-1) ++ List.replicate m 0 := by
 rw [List.set_append_right _ _ zq24, List.length_replicate, Nat.sub_self, List.replicate_succ, List.set_cons_zero, List.replicate_succ' (n := i), List.append_assoc]
 rfl
/-- A new counter: its block, its row. -/
structure spec_alNew.Made (n : Nat) (w w' : World) (v : Value) : Prop where mk :: (out : ∃ B G C : Nat, v = .pointer (some ⟨B, 0, none⟩) ∧ w.heap.size ≤ G ∧ G < B ∧ w'.heap[B]? = some (.cells #[.slice (some ⟨G, 0, none⟩) (spec_alNew.fc n) C] 60 (0, 0)) ∧ Kd.R (Kd.int .i64) 3 w' w.heap.size (fun k_ => k_ = G) (.slice (some ⟨G, 0, none⟩) (spec_alNew.fc n) C) (List.replicate (spec_alNew.fc n) (-1)))
set_option maxHeartbeats 4000000 in
set_option maxRecDepth 100000 in
theorem spec_alNew.calls (n : Nat) (hn : n ≤ 8) (w : World) :
  Calls Try.prog 21 #[.int .i64 n] w fun e w' => ∃ v_ : Value, e = .returned v_ ∧ spec_alNew.Made n w w' v_ ∧ Below w.heap.size w w' := by
 have hfl := spec_alNew.fc_le n zq10
 have hfp := spec_alNew.fc_pos n
 have hu1 := Try.underlying60
 go_enter Try.func21, Try.ntmps21
 go_wp2
 go_loopg [3, 4] (n + 1) (fun gg v3 v4 w' => ∃ (j q : Nat), v3 = .int .i64 (spec_alNew.fc j) ∧ v4 = .int .i64 ((j + 1 : Nat) : Int) ∧ 1 ≤ j ∧ j ≤ n + 1 ∧ (j ≤ n ∨ j = 1) ∧ n + 1 - j ≤ gg ∧ w' = w.drewN q)
 case atStart => exact ⟨1, 0, by first | rfl | (simp [spec_alNew.fc]; done), zq93, zq10, zq10, zq10, zq10, zq93⟩
 case round =>
  obtain ⟨j, q, rfl, rfl, hj1, hjn, hj2, hgk, rfl⟩ := hrel
  by_cases hlt : j + 1 ≤ n
  ·have hltz : ((j + 1 : Nat) : Int) ≤ (n : Int) := zq10
   have hb := spec_alNew.fc_le (j + 1) zq10
   have he : spec_alNew.fc (j + 1) = (j + 1) * spec_alNew.fc j := rfl
   have hw : wrap64 ((spec_alNew.fc j : Int) * ((j : Int) + 1)) = ((spec_alNew.fc (j + 1) : Nat) : Int) := spec_alNew.mul_ok _ j hb
   have hw2 : wrap64 (((j + 1 : Nat) : Int) + 1) = ((j + 1 + 1 : Nat) : Int) := by unfold wrap64; omega
   go_wp2
   go_roundg (n + 1 - (j + 1))
   case measure => omega
   case rel => exact ⟨j + 1, _, by rw [hw], by first | rfl | (congr 1; omega), zq10, zq10, zq10, zq10, rfl⟩
  ·have hltz : ¬ ((j + 1 : Nat) : Int) ≤ (n : Int) := zq10
   have hfj : spec_alNew.fc j = spec_alNew.fc n := by
    rcases Nat.lt_or_ge n 1 with h | h
    ·obtain rfl : n = 0 := zq10
     obtain rfl : j = 1 := zq10
     rfl
    ·obtain rfl : j = n := zq10
     rfl
   rw [hfj]
   obtain ⟨N, hN⟩ : ∃ N, N = spec_alNew.fc n := ⟨_, rfl⟩
   rw [← hN] at hfl hfp ⊢
   have HNN := am hN
   clear hN
   clear hfj hj2 hj1 hjn hgk hlt
   have HB := am (Below.refl w.heap.size w)
   have hN0 : (0 : Int) ≤ (N : Int) := Int.natCast_nonneg N
   go_wp2_with (first | ((with_reducible refine gate_dst (N := 16) rfl ?_); refine Kd.R_make (Kd.int .i64) _ 3 rfl (N := 16) rfl 22 _ _ rfl (N : Int) rfl rfl Try.underlying22 (.int .i64 0) 8 info3 rfl zq33 zq10 0 (ok := fun _ => True) (okp := fun _ => True) rfl (fun _ hk => hk) trivial hN0 (by rw [Int.toNat_natCast]; omega) (Below.refl _ _) (Nat.le_refl _) ?_; intro v16 w4 ho5 hb hg_ hnew_; rw [Int.toNat_natCast] at ho5; obtain ⟨G, C, eG, hGb, hGl, _⟩ := Kd.R_form ho5 (by rw [List.length_replicate]; omega); rw [List.length_replicate] at eG; subst eG; have HR := am (Kd.R_tight rfl ho5); have HGB := am (And.intro hGb hGl); clear hGb hGl; have HSZ := am (below_size (w := w) (pBq1 HB)); have HB4 := am (below_step (pBq1 HB) hb); clear hg_ hnew_ hb ho5) | ((with_reducible refine gate_dst (N := 18) rfl ?_); refine zE 18 (cs := #[.slice (some ⟨G, 0, none⟩) N C]) 60 ?_; intro gb hg w5 hbox hb; have hcellB : w5.cell? ⟨gb, 0, none⟩ = some (.slice (some ⟨G, 0, none⟩) N C) := blk_cell hbox 0; have HBOX := am hbox; have HB5 := am (below_step HB4.out hb); have HR5 := am (Kd.R_below HR.out hb); have HG5 := am hg; clear hbox hb hg))
   have hgne : gb ≠ G := by have h1 := HG5.out; have h2 := HGB.out.2; omega
   have HNE := am hgne
   have HR6 := am (show Kd.R (Kd.int .i64) 3 w5 w.heap.size (fun k_ => k_ = G) (.slice (some ⟨G, 0, none⟩) N C) (List.replicate 0 (-1) ++ List.replicate (N - 0) 0) from Kd.R_mono (Kd.R_lower HR5.out HSZ.out) (fun k_ h_ => Option.some.inj (show some k_ = some G from h_)))
   clear HR5 HR hgne hcellB HB HB4 hltz
   go_loopg [24] N (fun gg v24 w' => ∃ (i : Nat), v24 = .int .i64 i ∧ i ≤ N ∧ N - i ≤ gg ∧ Aside0 (Kd.R (Kd.int .i64) 3 w' w.heap.size (fun k_ => k_ = G) (.slice (some ⟨G, 0, none⟩) N C) (List.replicate i (-1) ++ List.replicate (N - i) 0)) ∧ Aside0 (w'.heap[gb]? = some (.cells #[.slice (some ⟨G, 0, none⟩) N C] 60 (0, 0))) ∧ Aside0 (Below w.heap.size w w'))
   case atStart => exact ⟨0, rfl, Nat.zero_le _, zq10, HR6, HBOX, HB5⟩
   case round =>
    clear HR6 HBOX HB5
    obtain ⟨i, rfl, hi, hgk, HRX, HBX, HBB⟩ := hrel
    by_cases hlt : i < N
    ·have hltz : (i : Int) < (N : Int) := zq10
     have h0z : (0 : Int) ≤ (i : Int) := Int.natCast_nonneg i
     have hcellB := blk_cell HBX.out 0
     obtain ⟨hx0, hf0⟩ := Kd.R_celln 0 HRX.out (i : Int) h0z hltz
     have HP7 := Kd.R_putg HRX.out (i : Int) (-1)
     rw [Int.toNat_natCast] at hx0 hf0 HP7
     have hset : (List.replicate i (-1 : Int) ++ List.replicate (N - i) (0 : Int)).set i (-1) = List.replicate (i + 1) (-1) ++ List.replicate (N - (i + 1)) 0 := by
      rw [show N - i = (N - (i + 1)) + 1 by omega]
      exact spec_alNew.set_next i _
     have HSET := am hset
     have hge : w.heap.size ≤ G := HGB.out.1
     have HGE := am hge
     clear hset hge
     have p5 := eq_true h0z
     have q5 := eq_true hltz
     go_wp2_with (first | ((with_reducible refine gate_store (t := 3) (p := 32) rfl ?_); refine store_event (t := 3) (p := 32) (v := ?vo) (w1 := (wr.setCell ⟨G, i, none⟩ (.int .i64 (-1)))) ?hg ?ho ?hn ?hr ?_; (case ho => rfl); (case hg => rfl); (case hn => rfl); (case hr => exact zq8); intro w8 hw; have n0_ := am (show Kd.R (Kd.int .i64) 3 w8 w.heap.size (fun k_ => k_ = G) (.slice (some ⟨G, 0, none⟩) N C) (List.replicate (i + 1) (-1) ++ List.replicate (N - (i + 1)) 0) from by rw [← HSET.out, hw]; exact HP7.1); have n1_ := am (show w8.heap[gb]? = some (.cells #[.slice (some ⟨G, 0, none⟩) N C] 60 (0, 0)) from by rw [hw]; exact blk_far HBX.out HNE.out _); have n2_ := am (show Below w.heap.size w w8 from by rw [hw]; exact below_set HBB.out HGE.out); clear HP7 hw))
     go_roundg (N - (i + 1))
     case measure => omega
     case rel => exact ⟨i + 1, (by first | go_num | (congr 1; unfold wrap64; omega)), zq10, zq10, n0_, n1_, n2_⟩
    ·have hltz : ¬ (i : Int) < (N : Int) := zq10
     have hie : i = N := zq10
     subst hie
     go_wp2
     go_ret
     exact ⟨_, rfl, ⟨gb, G, C, rfl, HGB.out.1, by have h1 := HG5.out; have h2 := HGB.out.2; omega, by rw [← HNN.out]; exact HBX.out, by have h_ := HRX.out; rw [Nat.sub_self, List.replicate_zero, List.append_nil] at h_; rw [← HNN.out]; exact h_⟩, HBB.out⟩
/-! ### spec_alRank: function 35 -/
mutual
def spec_alRank.l0 : Nat → List Int → Int → List Int → Int → Int → Option (Int)
 | 0, _, _, _, _, _ => none
 | k + 1, x0, x3, x9, x10, x11 => if x11 < x10 then (if 0 ≤ x11 then (if x11 < (x9.length : Int) then (if 0 ≤ (wrap64 (x11 + 1)) then (if (wrap64 (x11 + 1)) ≤ (x0.length : Int) then ((some (x0.drop ((wrap64 (x11 + 1)) : Int).toNat : List Int)).bind fun y123 => (spec_alRank.l1 k x0 x3 x11 (rd x9 x11) 0 x9 x10 x11 y123 (y123.length : Int) 0)) else (none)) else (none)) else (none)) else (none)) else (some x3)
def spec_alRank.l1 : Nat → List Int → Int → Int → Int → Int → List Int → Int → Int → List Int → Int → Int → Option (Int)
 | 0, _, _, _, _, _, _, _, _, _, _, _ => none
 | k + 1, x0, x3, x4, x5, x6, x9, x10, x11, x19, x20, x21 => if x21 < x20 then (if 0 ≤ x21 then (if x21 < (x19.length : Int) then (if (rd x19 x21) < x5 then (spec_alRank.l1 k x0 x3 x4 x5 (wrap64 (x6 + 1)) x9 x10 x11 x19 x20 (wrap64 (x21 + 1))) else (spec_alRank.l1 k x0 x3 x4 x5 x6 x9 x10 x11 x19 x20 (wrap64 (x21 + 1)))) else (none)) else (none)) else (spec_alRank.l0 k x0 (wrap64 ((wrap64 (x3 * (wrap64 ((x0.length : Int) - x4)))) + x6)) x9 x10 (wrap64 (x11 + 1)))
end
def spec_alRank.f (k : Nat) (l0 : List Int) : Option (Int) := spec_alRank.l0 k l0 0 l0 (l0.length : Int) 0
theorem spec_alRank.mono_l : ∀ k, (∀ y0 y1 y2 y3 y4, LeO (spec_alRank.l0 k y0 y1 y2 y3 y4) (spec_alRank.l0 (k + 1) y0 y1 y2 y3 y4)) ∧ (∀ y0 y1 y2 y3 y4 y5 y6 y7 y8 y9 y10, LeO (spec_alRank.l1 k y0 y1 y2 y3 y4 y5 y6 y7 y8 y9 y10) (spec_alRank.l1 (k + 1) y0 y1 y2 y3 y4 y5 y6 y7 y8 y9 y10))
 | 0 => ⟨fun _ _ _ _ _ r h => by simp [spec_alRank.l0] at h, fun _ _ _ _ _ _ _ _ _ _ _ r h => by simp [spec_alRank.l1] at h⟩
 | k + 1 => by
  obtain ⟨ih0, ih1⟩ := spec_alRank.mono_l k
  refine ⟨?_, ?_⟩
  ·intro y0 y1 y2 y3 y4
   unfold spec_alRank.l0
   repeat' first | (with_reducible first | exact ih0 _ _ _ _ _ | exact ih1 _ _ _ _ _ _ _ _ _ _ _ | exact LeO.refl _ | exact LeO.none _ | refine LeO.ite ?_ ?_ | refine LeO.bind ?_ (fun _ => ?_))
  ·intro y0 y1 y2 y3 y4 y5 y6 y7 y8 y9 y10
   unfold spec_alRank.l1
   repeat' first | (with_reducible first | exact ih0 _ _ _ _ _ | exact ih1 _ _ _ _ _ _ _ _ _ _ _ | exact LeO.refl _ | exact LeO.none _ | refine LeO.ite ?_ ?_ | refine LeO.bind ?_ (fun _ => ?_))
theorem spec_alRank.mono : ∀ a0 k, LeO (spec_alRank.f k a0) (spec_alRank.f (k + 1) a0) := by
 intro a0 k
 obtain ⟨ih0, ih1⟩ := spec_alRank.mono_l k
 unfold spec_alRank.f
 repeat' first | (with_reducible first | exact ih0 _ _ _ _ _ | exact ih1 _ _ _ _ _ _ _ _ _ _ _ | exact LeO.refl _ | exact LeO.none _ | refine LeO.ite ?_ ?_ | refine LeO.bind ?_ (fun _ => ?_))
theorem spec_alRank.calls (k : Nat) (A0 : Option Addr) (c0 : Nat) (l0 : List Int) (r : Int) (w : World) (hr0 : Kd.C (Kd.int .i64) w A0 l0.length l0) (hc0 : l0.length ≤ c0) (h : spec_alRank.f k l0 = some r) :
  Calls Try.prog 35 #[.slice A0 l0.length c0] w fun e w' => e = .returned (.int .i64 r) ∧ Drawn0 w w' := by
 have HR0 := am hr0
 have HC0 := am hc0
 clear hr0 hc0
 have H : (spec_alRank.l0 k l0 0 l0 (l0.length : Int) 0) = some r := h
 clear h
 have H' := am H
 clear H
 go_enter Try.func35, Try.ntmps35
 go_wp2
 go_loopg [3, 11] k (fun kq v3 v11 w' => ∃ (x3_1 : Int) (x11_1 : Int), v3 = .int .i64 x3_1 ∧ v11 = .int .i64 x11_1 ∧ Aside0 (spec_alRank.l0 kq l0 x3_1 l0 (l0.length : Int) x11_1 = some r) ∧ Aside0 (kq ≤ k) ∧ Drawn0 w w')
 case atStart => exact ⟨(0), (0), zq3, zq3, H', ⟨Nat.le_refl _⟩, zq4⟩
 case round =>
  clear H'
  obtain ⟨x3_1, x11_1, rfl, rfl, HA, HK1, ⟨m1, rfl⟩⟩ := hrel
  cases gk with
  | zero => exact absurd HA.out (by simp [spec_alRank.l0])
  | succ k1 =>
   have H := HA.out
   clear HA
   simp only [spec_alRank.l0] at H
   by_cases c2 : x11_1 < (l0.length : Int)
   ·rw [if_pos c2] at H
    have c2b0 : decide (x11_1 < (l0.length : Int)) = true := decide_eq_true c2
    clear c2
    by_cases c3 : 0 ≤ x11_1
    ·rw [if_pos c3] at H
     have c3b0 : decide (0 ≤ x11_1) = true := decide_eq_true c3
     clear c3
     by_cases c4 : x11_1 < (l0.length : Int)
     ·rw [if_pos c4] at H
      have c4b0 : decide (x11_1 < (l0.length : Int)) = true := decide_eq_true c4
      clear c4
      obtain ⟨ji5, hji5⟩ : ∃ j_ : Int, (wrap64 (x11_1 + 1)) = j_ := ⟨_, rfl⟩
      replace H : (if 0 ≤ (ji5) then (if (ji5) ≤ (l0.length : Int) then ((some (l0.drop ((ji5) : Int).toNat : List Int)).bind fun y123 => (spec_alRank.l1 k1 l0 x3_1 x11_1 (rd l0 x11_1) 0 l0 (l0.length : Int) x11_1 y123 (y123.length : Int) 0)) else (none)) else (none)) = some r := zq84
      have hji5w : (IntKind.i64.wrap (x11_1 + 1)) = ji5 := (i64_w _).trans hji5
      by_cases c6 : 0 ≤ (ji5)
      ·rw [if_pos c6] at H
       have c6b0 := eq_true c6
       have c6b1 : decide (0 ≤ (ji5)) = true := decide_eq_true c6
       clear c6
       by_cases c7 : (ji5) ≤ (l0.length : Int)
       ·rw [if_pos c7] at H
        have c7b0 := eq_true c7
        have c7b1 : decide ((ji5) ≤ (l0.length : Int)) = true := decide_eq_true c7
        clear c7
        obtain ⟨y123, hy123⟩ : ∃ y_ : List Int, y_ = (l0.drop ((ji5) : Int).toNat) := ⟨_, rfl⟩
        replace H : (spec_alRank.l1 k1 l0 x3_1 x11_1 (rd l0 x11_1) 0 l0 (l0.length : Int) x11_1 y123 (y123.length : Int) 0) = some r := by first | (rw [hy123]; exact zH) | exact zH
        have Ny123 := am hy123
        clear hy123
        have H' := am H
        clear H
        have p122 : 0 ≤ (x11_1 : Int) := of_decide_eq_true zq0
        have q122 : x11_1 < (l0.length : Int) := of_decide_eq_true zq0
        obtain ⟨ad122, e122, hx122_0⟩ := Kd.at_int HR0.out x11_1 p122 q122
        cases e122
        replace p122 := eq_true p122
        replace q122 := eq_true q122
        have q8 : ((ji5) : Int) ≤ ((l0.length : Int) : Int) := of_decide_eq_true zq0
        obtain ⟨i08, hi08, _, hsz8, _⟩ := info_parts info3
        have hroom8 : l0.length ≤ c0 := HC0.out
        have hC8 : Kd.C (Kd.int .i64) _ (some ad122) l0.length l0 := HR0.out
        have q08 : (0 : Int) ≤ ((ji5) : Int) := of_decide_eq_true zq0
        have hcut8 := cut_from (P := Try.prog) 22 3 .i64 Try.underlying22 hi08 1 hsz8 (some ad122) l0.length c0 (ji5) q08 q8
        have hr8 := Kd.C_drop (m := ((ji5) : Int).toNat) (c := c0) hC8 zq10 hroom8
        obtain ⟨A8, hA8⟩ : ∃ A1, A1 = (if c0 = ((ji5) : Int).toNat then (some ad122) else ((some ad122) : Option Addr).map (·.add (((ji5) : Int).toNat * 1))) := ⟨_, rfl⟩
        obtain ⟨c8, hc8⟩ : ∃ c1, c1 = c0 - ((ji5) : Int).toNat := ⟨_, rfl⟩
        have hy8 : y123.length = l0.length - ((ji5) : Int).toNat := (by rw [Ny123.out, List.length_drop] <;> omega)
        rw [show (l0).drop ((ji5) : Int).toNat = y123 from Ny123.out.symm] at hr8
        replace hr8 : Kd.C (Kd.int .i64) _ A8 y123.length y123 := (by rw [hA8]; exact hr8)
        rw [← hy8, ← hA8, ← hc8] at hcut8
        have HR126 := am hr8
        have HC126 := am (show y123.length ≤ c8 from by rw [hy8, hc8]; exact Nat.sub_le_sub_right hroom8 _)
        clear hr8 hC8 hroom8 hi08 hsz8 hc8
        have KY8 := am hy8
        have KA8 := am hA8
        clear hy8 hA8
        replace q8 := eq_true q8
        go_wp2
        go_loopg [6, 21] k1 (fun kq v6 v21 w' => ∃ (x6_2 : Int) (x21_2 : Int), v6 = .int .i64 x6_2 ∧ v21 = .int .i64 x21_2 ∧ Aside0 (spec_alRank.l1 kq l0 x3_1 x11_1 (rd l0 x11_1) x6_2 l0 (l0.length : Int) x11_1 y123 (y123.length : Int) x21_2 = some r) ∧ Aside0 (kq ≤ k1) ∧ Drawn0 w w')
        case atStart => exact ⟨(0), (0), zq3, zq3, H', ⟨Nat.le_refl _⟩, zq4⟩
        case round =>
         clear H'
         try clear c1
         try clear p1
         try clear q1
         try clear hx1
         try clear c2
         try clear c2b0
         try clear p2
         try clear c3
         try clear c3b0
         try clear c4
         try clear c4b0
         try clear c6
         try clear c6b0
         try clear c6b1
         try clear p6
         try clear c7
         try clear c7b0
         try clear c7b1
         try clear c8
         try clear q8
         try clear hx122_0
         try clear p122
         try clear q08
         try clear q122
         try clear q8
         obtain ⟨x6_2, x21_2, rfl, rfl, HA, HK2, ⟨m2, rfl⟩⟩ := hrel
         cases gk with
         | zero => exact absurd HA.out (by simp [spec_alRank.l1])
         | succ k2 =>
          have H := HA.out
          clear HA
          simp only [spec_alRank.l1] at H
          by_cases c9 : x21_2 < (y123.length : Int)
          ·rw [if_pos c9] at H
           have c9b0 : decide (x21_2 < (y123.length : Int)) = true := decide_eq_true c9
           clear c9
           by_cases c10 : 0 ≤ x21_2
           ·rw [if_pos c10] at H
            have c10b0 : decide (0 ≤ x21_2) = true := decide_eq_true c10
            clear c10
            by_cases c11 : x21_2 < (y123.length : Int)
            ·rw [if_pos c11] at H
             have c11b0 : decide (x21_2 < (y123.length : Int)) = true := decide_eq_true c11
             clear c11
             by_cases c12 : (rd y123 x21_2) < (rd l0 x11_1)
             ·rw [if_pos c12] at H
              have c12b0 : decide ((rd y123 x21_2) < (rd l0 x11_1)) = true := decide_eq_true c12
              clear c12
              have H' := am H
              clear H
              have p127 : 0 ≤ (x21_2 : Int) := of_decide_eq_true zq0
              have q127 : x21_2 < (y123.length : Int) := of_decide_eq_true zq0
              obtain ⟨ad127, e127, hx127_0⟩ := Kd.at_int HR126.out x21_2 p127 q127
              cases e127
              replace p127 := eq_true p127
              replace q127 := eq_true q127
              go_wp2
              go_roundg k2
              case measure => have := HK1.out; have := HK2.out; omega
              case rel => exact ⟨(wrap64 (x6_2 + 1)), (wrap64 (x21_2 + 1)), zq3, zq3, H', ⟨zq64⟩, zq4⟩
             ·rw [if_neg c12] at H
              have c12b0 : decide ((rd y123 x21_2) < (rd l0 x11_1)) = false := decide_eq_false c12
              clear c12
              have H' := am H
              clear H
              have p127 : 0 ≤ (x21_2 : Int) := of_decide_eq_true zq0
              have q127 : x21_2 < (y123.length : Int) := of_decide_eq_true zq0
              obtain ⟨ad127, e127, hx127_0⟩ := Kd.at_int HR126.out x21_2 p127 q127
              cases e127
              replace p127 := eq_true p127
              replace q127 := eq_true q127
              go_wp2
              go_roundg k2
              case measure => have := HK1.out; have := HK2.out; omega
              case rel => exact ⟨(x6_2), (wrap64 (x21_2 + 1)), zq3, zq3, H', ⟨zq64⟩, zq4⟩
            ·rw [if_neg c11] at H
             exact absurd H zq24
           ·rw [if_neg c10] at H
            exact absurd H zq24
          ·rw [if_neg c9] at H
           have c9b0 : decide (x21_2 < (y123.length : Int)) = false := decide_eq_false c9
           clear c9
           have H' := am H
           clear H
           go_wp2
           go_roundg k2
           case measure => have := HK1.out; have := HK2.out; omega
           case rel => exact ⟨(wrap64 ((wrap64 (x3_1 * (wrap64 ((l0.length : Int) - x11_1)))) + x6_2)), (wrap64 (x11_1 + 1)), zq3, zq3, H', ⟨zq64⟩, zq4⟩
       ·rw [if_neg c7] at H
        exact absurd H zq24
      ·rw [if_neg c6] at H
       exact absurd H zq24
     ·rw [if_neg c4] at H
      exact absurd H zq24
    ·rw [if_neg c3] at H
     exact absurd H zq24
   ·rw [if_neg c2] at H
    have c2b0 : decide (x11_1 < (l0.length : Int)) = false := decide_eq_false c2
    clear c2
    obtain rfl := Option.some.inj H
    go_wp2
    go_ret
    exact ⟨zq3, zq4⟩
/-! ### spec_l1Own: function 25 -/
def spec_l1Own.f (l0 : List Int) : Option (List Int) := (some (([] : List Int) : List Int)).bind fun y128 => (if y128.length + l0.length < 17592186044416 then (some (y128 ++ l0)) else (none))
theorem spec_l1Own.calls (A0 : Option Addr) (c0 : Nat) (l0 : List Int) (r : List Int) (w : World) (hr0 : Kd.C (Kd.int .i64) w A0 l0.length l0) (hc0 : l0.length ≤ c0) (h : spec_l1Own.f l0 = some r) :
  Calls Try.prog 25 #[.slice A0 l0.length c0] w fun e w' => ∃ v0_ : Value, e = .returned (v0_) ∧ Kd.R (Kd.int .i64) 3 w' w.heap.size (fun _ => True) v0_ r ∧ Below w.heap.size w w' := by
 have HR0 := am hr0
 have HC0 := am hc0
 clear hr0 hc0
 have HB := am (Below.refl w.heap.size w)
 have H : ((some (([] : List Int) : List Int)).bind fun y128 => (if y128.length + l0.length < 17592186044416 then (some (y128 ++ l0)) else (none))) = some r := h
 clear h
 obtain ⟨y128, hy128⟩ : ∃ y_ : List Int, y_ = (([] : List Int)) := ⟨_, rfl⟩
 replace H : (if y128.length + l0.length < 17592186044416 then (some (y128 ++ l0)) else (none)) = some r := by first | (rw [hy128]; exact zH) | exact zH
 have Ny128 := am hy128
 clear hy128
 by_cases c2 : y128.length + l0.length < 17592186044416
 ·rw [if_pos c2] at H
  have LMc2 := am c2
  clear c2
  obtain ⟨y131, hy131⟩ : ∃ y_ : List Int, y_ = (y128 ++ l0) := ⟨_, rfl⟩
  replace H : (some y131) = some r := by first | (rw [hy131]; exact zH) | exact zH
  have Ny131 := am hy131
  clear hy131
  obtain rfl := Option.some.inj H
  go_enter Try.func25, Try.ntmps25
  go_wp2_with (first | ((with_reducible refine gate_dst (N := 3) rfl ?_); refine Kd.R_lit (Kd.int .i64) _ 3 ?hg (N := 3) ?hd (xs := ([] : List Int)) (inner := []) (ok := fun _ => True) (okp := fun _ => True) ?hr ?hp (fun _ hk => hk) trivial (Below.refl _ _) (Nat.le_refl _) zq24 ?_; (case hd => rfl); (case hg => rfl); (case hr => exact zq8); (case hp => exact (Reps.none _ _)); intro v129 w3 ho4 hb hg_ hnew_; clear hg_ hnew_; (first | rw [← Ny128.out] at ho4 | (simp only [Int.reduceToNat] at ho4; rw [← Ny128.out] at ho4)); have HO130 := am (Kd.R_lower ho4 (below_size (pBq1 HB))); replace HB := am (below_step (pBq1 HB) hb); clear hb ho4) | ((with_reducible refine gate_builtin (b := .append) (xs := #[.tmp 3, .tmp 4]) rfl ?_); at_builtin; refine Kd.R_append_rows (Kd.int .i64) (w0 := w) w.heap.size rfl (.tmp 3) (.tmp 4) 22 3 (.int .i64 0) 8 rfl Try.underlying22 info3 rfl zq33 zq10 v129 y128 l0 _ _ _ (fun _ => True) (fun _ => False) rfl rfl ?aO ?aR (fun _ _ h => h) (fun _ h => h.elim) ?aF ?aB ?aS ?aL ?_; (case aR => exact zq7); (case aB => exact (pBq1 HB)); (case aF => exact (fun _ _ => trivial)); (case aO => exact (pRq1 HO130)); (case aS => exact (below_size (pBq1 HB))); (case aL => have := LMc2.out; omega); intro v132 w5 ho hb hg hat; rw [← Ny131.out] at ho; have HO133 := am (ho); replace HB := am (hb); clear HO130; clear ho hb hg hat))
  go_ret
  exact ⟨_, zq6, by (with_reducible repeat (first | apply Kd.R_alloc | apply Kd.R_drewN | apply Kd.R_drew)); exact HO133.out, zq1⟩
 ·rw [if_neg c2] at H
  exact absurd H zq24
/-! ### spec_alSwap: function 36 -/
def spec_alSwap.f (l0 : List Int) (a1 : Int) : Option (List Int) := (spec_l1Own.f l0).bind fun t134 => (if 0 ≤ (wrap64 (a1 + 1)) then (if (wrap64 (a1 + 1)) < (l0.length : Int) then (if 0 ≤ a1 then (if a1 < (t134.length : Int) then (if a1 < (l0.length : Int) then (if (wrap64 (a1 + 1)) < (t134.length : Int) then (some ((t134.set (a1 : Int).toNat (rd l0 (wrap64 (a1 + 1)))).set ((wrap64 (a1 + 1)) : Int).toNat (rd l0 a1))) else (none)) else (none)) else (none)) else (none)) else (none)) else (none))
theorem spec_alSwap.calls (A0 : Option Addr) (c0 : Nat) (l0 : List Int) (a1 : Int) (r : List Int) (w : World) (hr0 : Kd.C (Kd.int .i64) w A0 l0.length l0) (hc0 : l0.length ≤ c0) (h : spec_alSwap.f l0 a1 = some r) :
  Calls Try.prog 36 #[.slice A0 l0.length c0, .int .i64 a1] w fun e w' => ∃ v0_ : Value, e = .returned (v0_) ∧ Kd.R (Kd.int .i64) 3 w' w.heap.size (fun _ => True) v0_ r ∧ Below w.heap.size w w' := by
 have HR0 := am hr0
 have HC0 := am hc0
 clear hr0 hc0
 have HB := am (Below.refl w.heap.size w)
 have H : ((spec_l1Own.f l0).bind fun t134 => (if 0 ≤ (wrap64 (a1 + 1)) then (if (wrap64 (a1 + 1)) < (l0.length : Int) then (if 0 ≤ a1 then (if a1 < (t134.length : Int) then (if a1 < (l0.length : Int) then (if (wrap64 (a1 + 1)) < (t134.length : Int) then (some ((t134.set (a1 : Int).toNat (rd l0 (wrap64 (a1 + 1)))).set ((wrap64 (a1 + 1)) : Int).toNat (rd l0 a1))) else (none)) else (none)) else (none)) else (none)) else (none)) else (none))) = some r := h
 clear h
 obtain ⟨t134, A3, H⟩ := zS H
 (try dsimp only at H)
 obtain ⟨ji4, hji4⟩ : ∃ j_ : Int, (wrap64 (a1 + 1)) = j_ := ⟨_, rfl⟩
 replace H : (if 0 ≤ (ji4) then (if (ji4) < (l0.length : Int) then (if 0 ≤ a1 then (if a1 < (t134.length : Int) then (if a1 < (l0.length : Int) then (if (ji4) < (t134.length : Int) then (some ((t134.set (a1 : Int).toNat (rd l0 (ji4))).set ((ji4) : Int).toNat (rd l0 a1))) else (none)) else (none)) else (none)) else (none)) else (none)) else (none)) = some r := zq85
 (try rw [hji4] at A3)
 have hji4w : (IntKind.i64.wrap (a1 + 1)) = ji4 := (i64_w _).trans hji4
 by_cases c5 : 0 ≤ (ji4)
 ·rw [if_pos c5] at H
  have c5b0 : decide (0 ≤ (ji4)) = true := decide_eq_true c5
  clear c5
  by_cases c6 : (ji4) < (l0.length : Int)
  ·rw [if_pos c6] at H
   have c6b0 : decide ((ji4) < (l0.length : Int)) = true := decide_eq_true c6
   clear c6
   by_cases c7 : 0 ≤ a1
   ·rw [if_pos c7] at H
    have c7b0 : decide (0 ≤ a1) = true := decide_eq_true c7
    clear c7
    by_cases c8 : a1 < (t134.length : Int)
    ·rw [if_pos c8] at H
     have c8b0 : decide (a1 < (t134.length : Int)) = true := decide_eq_true c8
     clear c8
     obtain ⟨y138, hy138⟩ : ∃ y_ : List Int, y_ = (t134.set (a1 : Int).toNat (rd l0 (ji4))) := ⟨_, rfl⟩
     replace H : (if a1 < (l0.length : Int) then (if (ji4) < (t134.length : Int) then (some (y138.set ((ji4) : Int).toNat (rd l0 a1))) else (none)) else (none)) = some r := by first | (rw [hy138]; exact zH) | exact zH
     have Ny138 := am hy138
     clear hy138
     by_cases c10 : a1 < (l0.length : Int)
     ·rw [if_pos c10] at H
      have c10b0 : decide (a1 < (l0.length : Int)) = true := decide_eq_true c10
      clear c10
      by_cases c11 : (ji4) < (t134.length : Int)
      ·rw [if_pos c11] at H
       have c11b0 : decide ((ji4) < (t134.length : Int)) = true := decide_eq_true c11
       clear c11
       obtain ⟨y140, hy140⟩ : ∃ y_ : List Int, y_ = (y138.set ((ji4) : Int).toNat (rd l0 a1)) := ⟨_, rfl⟩
       replace H : (some y140) = some r := by first | (rw [hy140]; exact zH) | exact zH
       have Ny140 := am hy140
       clear hy140
       obtain rfl := Option.some.inj H
       go_enter Try.func36, Try.ntmps36
       go_wp2_with (first | ((with_reducible refine gate_callee (f := 25) rfl ?_); refine goesL_ (some 7) rfl rfl Try.func25 zq20 rfl #[.slice A0 l0.length c0] rfl zq2 ?_; (with_reducible refine (spec_l1Own.calls _ _ l0 t134 _ ?side1 ?side2 A3.out).mono ?_); (case side1 => exact zq9); (case side2 => exact HC0.out); rintro e w13 ⟨v135, rfl, ho0, hb⟩; refine ⟨_, rfl, ?_⟩; have HO136 := am (Kd.R_lower ho0 (below_size (pBq1 HB))); replace HB := am (below_step (pBq1 HB) hb); (try clear hb ho0); have p137 : 0 ≤ ((ji4) : Int) := of_decide_eq_true zq0; have q137 : (ji4) < (l0.length : Int) := of_decide_eq_true zq0; obtain ⟨ad137, e137, hx137_0⟩ := Kd.at_int HR0.out (ji4) p137 q137; cases e137; replace hx137_0 := (HB.out.cell (World.block_lt_of_cell? w _ hx137_0)).trans hx137_0; replace p137 := eq_true p137; replace q137 := eq_true q137; have p9 : 0 ≤ (a1 : Int) := of_decide_eq_true zq0; have q9 : (a1 : Int) < ((t134.length : Int) : Int) := of_decide_eq_true zq0; obtain ⟨go9, co9, eo9, gb9, gl9, cl9, HG9⟩ := Kd.R_form HO136.out zq10; (first | cases eo9 | (injection eo9 with ea_ en_ ec_; (first | subst ea_ | (injection ea_ with ea_; subst ea_)); subst ec_; clear en_)); have GB9 := am gb9; have GG9 := am HG9; clear gb9 gl9 HG9; obtain ⟨hx9_0, hf9_0⟩ := Kd.R_celln 0 HO136.out (a1 : Int) p9 q9; replace p9 := eq_true p9; replace q9 := eq_true q9; obtain ⟨hy14_, hz14_⟩ := Kd.R_celln 0 HO136.out (a1 : Int) (of_decide_eq_true zq0) (of_decide_eq_true zq0); have HP14 := Kd.R_putg HO136.out (a1 : Int) (rd l0 (ji4))) | ((with_reducible refine gate_store (t := 3) (p := 15) rfl ?_); refine store_event (t := 3) (p := 15) (v := ?vo_w15) (w1 := (w13.setCell ⟨go9, (a1 : Int).toNat, none⟩ (.int .i64 (rd l0 (ji4))))) ?hg ?ho ?hn ?hr ?_; (case ho => rfl); (case hg => rfl); (case hn => rfl); (case hr => exact zq8); intro w15 hw; have hg : w13.grownBy w15 (some go9) := (by rw [hw]; exact HP14.2); have hp_ : Kd.R (Kd.int .i64) 3 w15 w.heap.size (fun _ => True) (.slice (some ⟨go9, 0, none⟩) t134.length co9) y138 := (by rw [hw, Ny138.out]; exact HP14.1); clear HP14; replace HO136 := am (hp_); replace HB := am ((zq62 : Below w.heap.size w w15)); clear hg hw hp_; have p139 : 0 ≤ (a1 : Int) := of_decide_eq_true zq0; have q139 : a1 < (l0.length : Int) := of_decide_eq_true zq0; obtain ⟨ad139, e139, hx139_0⟩ := Kd.at_int HR0.out a1 p139 q139; obtain rfl : ad137 = ad139 := (by injection e139); replace hx139_0 := (HB.out.cell (World.block_lt_of_cell? w _ hx139_0)).trans hx139_0; replace p139 := eq_true p139; replace q139 := eq_true q139; have p12 : 0 ≤ ((ji4) : Int) := of_decide_eq_true zq0; have q12 : ((ji4) : Int) < ((t134.length : Int) : Int) := of_decide_eq_true zq0; obtain ⟨hx12_0, hf12_0⟩ := Kd.R_celln 0 HO136.out ((ji4) : Int) p12 q12; replace p12 := eq_true p12; replace q12 := eq_true q12; obtain ⟨hy16_, hz16_⟩ := Kd.R_celln 0 HO136.out ((ji4) : Int) (of_decide_eq_true zq0) (of_decide_eq_true zq0); have HP16 := Kd.R_putg HO136.out ((ji4) : Int) (rd l0 a1)) | ((with_reducible refine gate_store (t := 3) (p := 23) rfl ?_); refine store_event (t := 3) (p := 23) (v := ?vo_w17) (w1 := (w15.setCell ⟨go9, ((ji4) : Int).toNat, none⟩ (.int .i64 (rd l0 a1)))) ?hg ?ho ?hn ?hr ?_; (case ho => rfl); (case hg => rfl); (case hn => rfl); (case hr => exact zq8); intro w17 hw; have hg : w15.grownBy w17 (some go9) := (by rw [hw]; exact HP16.2); have hp_ : Kd.R (Kd.int .i64) 3 w17 w.heap.size (fun _ => True) (.slice (some ⟨go9, 0, none⟩) t134.length co9) y140 := (by rw [hw, Ny140.out]; exact HP16.1); clear HP16; replace HO136 := am (hp_); replace HB := am ((zq62 : Below w.heap.size w w17)); clear hg hw hp_))
       go_ret
       exact ⟨_, zq67, by (with_reducible repeat (first | apply Kd.R_alloc | apply Kd.R_drewN | apply Kd.R_drew)); exact HO136.out, zq1⟩
      ·rw [if_neg c11] at H
       exact absurd H zq24
     ·rw [if_neg c10] at H
      exact absurd H zq24
    ·rw [if_neg c8] at H
     exact absurd H zq24
   ·rw [if_neg c7] at H
    exact absurd H zq24
  ·rw [if_neg c6] at H
   exact absurd H zq24
 ·rw [if_neg c5] at H
  exact absurd H zq24
/-! ### spec_alCounter_count: function 22 -/
open Classical in
noncomputable def spec_alCounter_count.ev {α : Type} (g : Nat → Option α) : Option α := if h : ∃ k r, g k = some r then g h.choose else none
theorem spec_alCounter_count.ev_some {α : Type} {g : Nat → Option α} {r : α} (h : spec_alCounter_count.ev g = some r) : ∃ k, g k = some r := by
 unfold spec_alCounter_count.ev at h
 split at h
 ·exact ⟨_, h⟩
 ·cases h
def spec_alCounter_count.good (l : List Int) : Prop := l.Nodup ∧ ∀ x ∈ l, 0 ≤ x ∧ x < (l.length : Int)
/-- Different orders have different ranks. -/
def spec_alCounter_count.inj : Prop := ∀ (q q' : List Int) (k k' : Nat) (a : Int), spec_alCounter_count.good q → spec_alCounter_count.good q' → q.length ≤ 8 → q.length = q'.length → spec_alRank.f k q = some a → spec_alRank.f k' q' = some a → q = q'
def spec_alCounter_count.lp (g : List Int → Option Int) (l : List Int) : Nat → Nat → Int → Bool → Option (Int × Bool)
 | 0, _, s, b => some (s, b)
 | m + 1, i, s, b => if rd l (i : Int) > rd l ((i : Int) + 1) then (spec_alSwap.f l (i : Int)).bind fun q => (g q).bind fun v => spec_alCounter_count.lp g l m (i + 1) (wrap64 (s + v)) false else spec_alCounter_count.lp g l m (i + 1) s b
open Classical in
/-- How many least ladders there are, the falls taken one by one. -/
noncomputable def spec_alCounter_count.g (N n : Nat) : Nat → List Int → Option Int
 | 0, _ => none
 | d + 1, l => if spec_alCounter_count.inj ∧ spec_alCounter_count.good l ∧ l.length = n ∧ n ≤ 8 then (spec_alCounter_count.ev fun k => spec_alRank.f k l).bind fun a => (if 0 ≤ a ∧ a < (N : Int) then (spec_alCounter_count.lp (spec_alCounter_count.g N n d) l (l.length - 1) 0 0 true).bind fun sb => some (if sb.2 = true then 1 else sb.1) else none) else none
theorem spec_alCounter_count.lp_mono {g g' : List Int → Option Int} (h : ∀ q v, g q = some v → g' q = some v) (l : List Int) : ∀ (m i : Nat) (s : Int) (b : Bool) (r : Int × Bool), spec_alCounter_count.lp g l m i s b = some r → spec_alCounter_count.lp g' l m i s b = some r
 | 0, _, _, _, _, e => e
 | m + 1, i, s, b, r, e => by
  simp only [spec_alCounter_count.lp] at e ⊢
  split at e
  ·rename_i hc
   rw [if_pos hc]
   obtain ⟨q, hq, e⟩ := Option.bind_eq_some_iff.1 e
   obtain ⟨v, hv, e⟩ := Option.bind_eq_some_iff.1 e
   rw [hq]
   simp only [Option.bind_some]
   rw [h q v hv]
   exact spec_alCounter_count.lp_mono h l m _ _ _ r e
  ·rename_i hc
   rw [if_neg hc]
   exact spec_alCounter_count.lp_mono h l m _ _ _ r e
theorem spec_alCounter_count.g_succ (N n : Nat) : ∀ (d : Nat) (l : List Int) (v : Int), spec_alCounter_count.g N n d l = some v → spec_alCounter_count.g N n (d + 1) l = some v
 | 0, _, _, e => by simp [spec_alCounter_count.g] at e
 | d + 1, l, v, e => by
  rw [spec_alCounter_count.g] at e ⊢
  split at e
  ·rename_i hc
   rw [if_pos hc]
   obtain ⟨a, ha, e⟩ := Option.bind_eq_some_iff.1 e
   rw [ha]
   simp only [Option.bind_some]
   split at e
   ·rename_i h0
    rw [if_pos h0]
    obtain ⟨sb, hsb, e⟩ := Option.bind_eq_some_iff.1 e
    rw [spec_alCounter_count.lp_mono (fun q v => spec_alCounter_count.g_succ N n d q v) l _ _ _ _ _ hsb]
    exact e
   ·cases e
  ·cases e
theorem spec_alCounter_count.g_le {N n d d' : Nat} (h : d ≤ d') {l : List Int} {v : Int} (e : spec_alCounter_count.g N n d l = some v) : spec_alCounter_count.g N n d' l = some v := by
 induction h with
 | refl => exact e
 | step _ ih => exact spec_alCounter_count.g_succ _ _ _ _ _ ih
theorem spec_alCounter_count.g_one {N n d d' : Nat} {l : List Int} {v v' : Int} (e : spec_alCounter_count.g N n d l = some v) (e' : spec_alCounter_count.g N n d' l = some v') : v = v' := by
 have h1 := spec_alCounter_count.g_le (Nat.le_max_left d d') e
 have h2 := spec_alCounter_count.g_le (Nat.le_max_right d d') e'
 rw [h1] at h2
 exact Option.some.inj h2
/-- What the counter remembers is so. -/
def spec_alCounter_count.Inv (N n : Nat) (kn : List Int) : Prop := ∀ (q : List Int) (k : Nat) (a : Int), spec_alCounter_count.good q → q.length = n → spec_alRank.f k q = some a → 0 ≤ a → a < (N : Int) → 0 ≤ rd kn a → ∃ d, spec_alCounter_count.g N n d q = some (rd kn a)
theorem spec_alCounter_count.inv_new (N n : Nat) : spec_alCounter_count.Inv N n (List.replicate N (-1)) := fun q k a _ _ _ h0 h1 h2 => by
 have h3 : rd (List.replicate N (-1)) a = -1 := by
  show (List.replicate N (-1 : Int)).getD a.toNat 0 = -1
  rw [List.getD_eq_getElem?_getD, List.getElem?_replicate, if_pos zq10]; rfl
 omega
theorem spec_alCounter_count.rd_set (kn : List Int) (a b v : Int) (h0 : 0 ≤ a) (h1 : a < kn.length) (hb : 0 ≤ b) : rd (kn.set a.toNat v) b = if b = a then v else rd kn b := by
 show (kn.set a.toNat v).getD b.toNat 0 = _
 rw [List.getD_eq_getElem?_getD, List.getElem?_set]
 by_cases e : b = a
 ·subst e
  rw [if_pos rfl, if_pos rfl, if_pos zq10]; rfl
 ·rw [if_neg zq10, if_neg e]
  show _ = kn.getD b.toNat 0
  rw [List.getD_eq_getElem?_getD]
theorem spec_alCounter_count.inv_set {N n : Nat} {kn : List Int} (h : spec_alCounter_count.Inv N n kn) (hl : kn.length = N) (hj : spec_alCounter_count.inj) {l : List Int} (hg : spec_alCounter_count.good l) (hn : l.length = n) (hn8 : n ≤ 8) {k : Nat} {a : Int} (hk : spec_alRank.f k l = some a) (h0 : 0 ≤ a) (h1 : a < (N : Int)) {d : Nat} {v : Int} (hv : spec_alCounter_count.g N n d l = some v) : spec_alCounter_count.Inv N n (kn.set a.toNat v) := by
 intro q k' b hq hqn hk' hb0 hb1 hr
 have hs := spec_alCounter_count.rd_set kn a b v h0 zq10 hb0
 rw [hs] at hr ⊢
 by_cases e : b = a
 ·subst e
  rw [if_pos rfl]
  obtain rfl := hj q l k' k b hq hg zq10 zq10 hk' hk
  exact ⟨d, hv⟩
 ·rw [if_neg e] at hr ⊢
  exact h q k' b hq hqn hk' hb0 hb1 hr
/-- The counter's memory: block B leads to the row at G, and what this remembers is so. -/
structure spec_alCounter_count.Mem (base : Nat) (w : World) (B G N n : Nat) : Prop where mk :: (out : base ≤ G ∧ B ≠ G ∧ ∃ (C : Nat) (kn : List Int), w.heap[B]? = some (.cells #[.slice (some ⟨G, 0, none⟩) N C] 60 (0, 0)) ∧ kn.length = N ∧ Kd.R (Kd.int .i64) 3 w base (fun k_ => k_ = G) (.slice (some ⟨G, 0, none⟩) N C) kn ∧ spec_alCounter_count.Inv N n kn)
theorem spec_alCounter_count.Mem.kept {base : Nat} {w w' : World} {B G N n : Nat} {S : Nat → Prop} (h : spec_alCounter_count.Mem base w B G N n) (hk : Kept w w' S) (hS : ¬ S G) (hS2 : ¬ S B) : spec_alCounter_count.Mem base w' B G N n := by
 obtain ⟨h1, h2, C, kn, h3, h4, h5, h6⟩ := h
 exact ⟨h1, h2, C, kn, blk_kept h3 hk hS2, h4, Kd.R_kept h5 hk (fun k_ e_ h_ => hS (e_ ▸ h_)), h6⟩
theorem spec_alCounter_count.Mem.below {base : Nat} {w w' : World} {B G N n : Nat} (h : spec_alCounter_count.Mem base w B G N n) (hb : Below w.heap.size w w') : spec_alCounter_count.Mem base w' B G N n := h.kept (Kept.of_below hb (fun _ => False)) (fun h => h) (fun h => h)
theorem spec_alCounter_count.Mem.lower {base base' : Nat} {w : World} {B G N n : Nat} (h : spec_alCounter_count.Mem base w B G N n) (hb : base' ≤ base) : spec_alCounter_count.Mem base' w B G N n := by
 obtain ⟨h1, h2, C, kn, h3, h4, h5, h6⟩ := h
 exact ⟨Nat.le_trans hb h1, h2, C, kn, h3, h4, Kd.R_lower h5 hb, h6⟩
theorem spec_alCounter_count.Mem.lt {base : Nat} {w : World} {B G N n : Nat} (hN : 0 < N) (h : spec_alCounter_count.Mem base w B G N n) : B < w.heap.size ∧ G < w.heap.size := by
 obtain ⟨h1, h2, C, kn, h3, h4, h5, h6⟩ := h
 exact ⟨blk_lt h3, Kd.R_lt h5 G rfl⟩
theorem spec_alCounter_count.calls_g (N n d : Nat) : ∀ (B G : Nat) (A0 : Option Addr) (c0 : Nat) (l0 : List Int) (r : Int) (w0 w : World) (hB : Below w0.heap.size w0 w) (hm : spec_alCounter_count.Mem w0.heap.size w B G N n)
  (hr0 : ∀ W', Kept w W' (fun k_ => k_ = G) → Kd.C (Kd.int .i64) W' A0 l0.length l0) (hc0 : l0.length ≤ c0) (h : spec_alCounter_count.g N n d l0 = some r),
  Calls Try.prog 22 #[.pointer (some ⟨B, 0, none⟩), .slice A0 l0.length c0] w fun e w' => e = .returned (.int .i64 r) ∧ spec_alCounter_count.Mem w0.heap.size w' B G N n ∧ Below w0.heap.size w0 w' ∧ Kept w w' (fun k_ => k_ = G) := by
 induction d with
 | zero => intro B G A0 c0 l0 r w0 w _ _ _ _ h; simp [spec_alCounter_count.g] at h
 | succ d ih =>
  intro B G A0 c0 l0 r w0 w hB hm hr0 hc0 h
  have h0 := h
  rw [spec_alCounter_count.g] at h
  split at h
  ·rename_i hcond
   obtain ⟨hj, hg, hln, hn8⟩ := hcond
   obtain ⟨a, ha, h⟩ := Option.bind_eq_some_iff.1 h
   obtain ⟨ka, ha⟩ := spec_alCounter_count.ev_some ha
   split at h
   ·rename_i hab
    obtain ⟨ha0, ha1⟩ := hab
    obtain ⟨⟨rs, rb⟩, hlp, h⟩ := Option.bind_eq_some_iff.1 h
    have hrr : r = if rb = true then 1 else rs := (Option.some.inj h).symm
    obtain ⟨hGb, hBG, C, kn, hblk, hkl, hrow, hinv⟩ := hm.out
    have HA := am ha
    have HJ := am hj
    have HG := am hg
    have HLN := am (And.intro hln hn8)
    have HLP := am hlp
    have HRR := am hrr
    have H0 := am h0
    have IH := am ih
    have HR := am hr0
    have HC := am hc0
    have HB := am hB
    have HM := am hm
    have HK := am (Kept.refl w (fun k_ => k_ = G))
    have HAB := am (And.intro ha0 ha1)
    have hcellB := blk_cell hblk 0
    obtain ⟨hx0, hf0⟩ := Kd.R_celln 0 hrow a ha0 ha1
    obtain ⟨v, hv⟩ : ∃ v, v = rd kn a := ⟨_, rfl⟩
    have hx1 : w.cell? ⟨G, a.toNat, none⟩ = some (.int .i64 v) := by rw [hv]; exact hx0
    have HINV := am (fun h_ => hinv l0 ka a hg hln ha ha0 ha1 h_)
    rw [← hv] at HINV
    have hu1 := Try.underlying60
    have p5 := eq_true ha0
    have q5 := eq_true ha1
    clear ha hj hg hln hn8 hlp hrr h0 ih hr0 hc0 hB hm ha0 ha1 hrow hinv hblk hx0 hkl h hGb hBG hv
    by_cases hh : 0 ≤ v
    ·obtain ⟨d1, hd1⟩ := HINV.out hh
     obtain rfl := spec_alCounter_count.g_one hd1 H0.out
     have hh0 : decide (0 ≤ v) = true := decide_eq_true hh
     have hh1 : decide (v ≥ 0) = true := decide_eq_true hh
     clear hd1 hh
     go_enter Try.func22, Try.ntmps22
     go_wp2_with (go_at_call 35; (with_reducible refine (spec_alRank.calls ka _ _ l0 a _ ?side1 HC.out HA.out).mono ?_); (case side1 => exact HR.out _ zq13); rintro e w' ⟨rfl, ⟨nd, rfl⟩⟩)
     go_ret
     exact ⟨rfl, HM.out.below (pw_below_drewN (Below.refl _ _) nd), pw_below_drewN HB.out nd, Kept.drewN HK.out nd⟩
    ·have hh0 : decide (0 ≤ v) = false := decide_eq_false hh
     have hh1 : decide (v ≥ 0) = false := decide_eq_false hh
     clear hh
     go_enter Try.func22, Try.ntmps22
     go_wp2_with (go_at_call 35; (with_reducible refine (spec_alRank.calls ka _ _ l0 a _ ?side1 HC.out HA.out).mono ?_); (case side1 => exact HR.out _ zq13); rintro e w' ⟨rfl, ⟨nd, rfl⟩⟩)
     clear hcellB hx1 hf0 hh0 hh1 HINV
     go_loopg [6, 7, 8] (l0.length - 1) (fun gg v6 v7 v8 w' => ∃ (i : Nat) (x8 s : Int) (b : Bool), v6 = .int .i64 s ∧ v7 = .bool b ∧ v8 = .int .i64 x8 ∧ Aside0 (x8 = (i : Int)) ∧ i ≤ l0.length - 1 ∧ l0.length - 1 - i ≤ gg ∧ Aside0 (spec_alCounter_count.lp (spec_alCounter_count.g N n d) l0 (l0.length - 1 - i) i s b = some (rs, rb)) ∧ Aside0 (spec_alCounter_count.Mem w0.heap.size w' B G N n) ∧ Aside0 (Below w0.heap.size w0 w') ∧ Aside0 (Kept w w' (fun k_ => k_ = G)))
     case atStart => exact ⟨0, 0, 0, true, rfl, rfl, rfl, ⟨rfl⟩, Nat.zero_le _, zq10, ⟨HLP.out⟩, ⟨HM.out.below (pw_below_drewN (Below.refl _ _) nd)⟩, ⟨pw_below_drewN HB.out nd⟩, ⟨Kept.drewN HK.out nd⟩⟩
     case round =>
      clear HLP
      obtain ⟨i, x8, s, b, rfl, rfl, rfl, HX8, hi, hgk, HLP, HM2, HB2, HK2⟩ := hrel
      obtain ⟨ji, hji⟩ : ∃ j_ : Int, wrap64 (x8 + 1) = j_ := ⟨_, rfl⟩
      have hjv : ji = (i : Int) + 1 := by have h1 := HX8.out; have h2 := HLN.out; rw [← hji]; unfold wrap64; omega
      have hjiw : (IntKind.i64.wrap (x8 + 1)) = ji := (i64_w _).trans hji
      have HJV := am hjv
      clear hjv
      by_cases hlt : i + 1 < l0.length
      ·have hlp := HLP.out
       rw [show l0.length - 1 - i = (l0.length - 1 - (i + 1)) + 1 by omega, spec_alCounter_count.lp] at hlp
       have p171 : 0 ≤ x8 := by have := HX8.out; omega
       have q171 : x8 < (l0.length : Int) := by have := HX8.out; omega
       have p172 : 0 ≤ ji := by have := HJV.out; omega
       have q172 : ji < (l0.length : Int) := by have := HJV.out; omega
       obtain ⟨ad, ead, hx0⟩ := Kd.at_int (HR.out wr HK2.out) x8 p171 q171
       cases ead
       obtain ⟨ad2, ead2, hy0⟩ := Kd.at_int (HR.out wr HK2.out) ji p172 q172
       obtain rfl : ad = ad2 := (by injection ead2)
       obtain ⟨x, hx⟩ : ∃ x, x = rd l0 x8 := ⟨_, rfl⟩
       obtain ⟨y, hy⟩ : ∃ y, y = rd l0 ji := ⟨_, rfl⟩
       rw [← hx] at hx0
       rw [← hy] at hy0
       rw [show (i : Int) + 1 = ji from HJV.out.symm, show ((i : Nat) : Int) = x8 from HX8.out.symm, ← hx, ← hy] at hlp
       clear hx hy HLP ead2
       have hq3 : decide (ji < (l0.length : Int)) = true := decide_eq_true q172
       replace p171 := eq_true p171
       replace q171 := eq_true q171
       replace p172 := eq_true p172
       replace q172 := eq_true q172
       by_cases hc : x > y
       ·rw [if_pos hc] at hlp
        obtain ⟨q, hq, hlp⟩ := Option.bind_eq_some_iff.1 hlp
        obtain ⟨v2, hv2, hlp⟩ := Option.bind_eq_some_iff.1 hlp
        have HQ := am hq
        have HV2 := am hv2
        have HLP := am hlp
        have hc0 : decide (y < x) = true := decide_eq_true hc
        clear hq hv2 hlp hc
        go_wp2_with (first | (go_at_call 36; (with_reducible refine (spec_alSwap.calls _ _ l0 x8 q _ ?side1 HC.out HQ.out).mono ?_); (case side1 => exact HR.out _ zq25); rintro e w4 ⟨v4, rfl, ho4, hb4_⟩; have hb4 := below_step (w := wr) zq26 hb4_; clear hb4_; have HQR := am (Kd.R_mono (Kd.R_bound ho4) (fun k_ h_ => (show k_ ≠ G from fun e_ => by have h1_ := (HM2.out.lt (by have := HAB.out; omega)).2; have h2_ := h_.2.1; exact absurd (Nat.lt_of_lt_of_le h1_ h2_) (by rw [e_]; exact Nat.lt_irrefl G)))); have HB4 := am (below_then HB2.out HB2.out.size hb4); have HK4 := am (HK2.out.below hb4); have HM4 := am (HM2.out.below hb4); clear hb4 ho4; obtain ⟨A4, c4, e4⟩ := Kd.R_slice HQR.out; subst e4) | (go_at_call 22; (with_reducible refine (IH.out B G A4 c4 q v2 w0 _ ?side1 ?side2 ?side3 ?side4 HV2.out).mono ?_); (case side1 => exact HB4.out); (case side2 => exact HM4.out); (case side3 => exact zq95); (case side4 => exact (Kd.R_reads' HQR.out).2.1); rintro e w5 ⟨rfl, hm5, hb5, hk5⟩; have HM5 := am hm5; have HB5 := am hb5; have HK5 := am (HK4.out.then_ hk5 (fun _ h_ => .inl h_)); clear hm5 hb5 hk5))
        repeat (go_quiet (first | (go_at_call 36; (with_reducible refine (spec_alSwap.calls _ _ l0 x8 q _ ?side1 HC.out HQ.out).mono ?_); (case side1 => exact HR.out _ zq25); rintro e w4 ⟨v4, rfl, ho4, hb4_⟩; have hb4 := below_step (w := wr) zq26 hb4_; clear hb4_; have HQR := am (Kd.R_mono (Kd.R_bound ho4) (fun k_ h_ => (show k_ ≠ G from fun e_ => by have h1_ := (HM2.out.lt (by have := HAB.out; omega)).2; have h2_ := h_.2.1; exact absurd (Nat.lt_of_lt_of_le h1_ h2_) (by rw [e_]; exact Nat.lt_irrefl G)))); have HB4 := am (below_then HB2.out HB2.out.size hb4); have HK4 := am (HK2.out.below hb4); have HM4 := am (HM2.out.below hb4); clear hb4 ho4; obtain ⟨A4, c4, e4⟩ := Kd.R_slice HQR.out; subst e4) | (go_at_call 22; (with_reducible refine (IH.out B G A4 c4 q v2 w0 _ ?side1 ?side2 ?side3 ?side4 HV2.out).mono ?_); (case side1 => exact HB4.out); (case side2 => exact HM4.out); (case side3 => exact zq95); (case side4 => exact (Kd.R_reads' HQR.out).2.1); rintro e w5 ⟨rfl, hm5, hb5, hk5⟩; have HM5 := am hm5; have HB5 := am hb5; have HK5 := am (HK4.out.then_ hk5 (fun _ h_ => .inl h_)); clear hm5 hb5 hk5)); try go_wp2_with (first | (go_at_call 36; (with_reducible refine (spec_alSwap.calls _ _ l0 x8 q _ ?side1 HC.out HQ.out).mono ?_); (case side1 => exact HR.out _ zq25); rintro e w4 ⟨v4, rfl, ho4, hb4_⟩; have hb4 := below_step (w := wr) zq26 hb4_; clear hb4_; have HQR := am (Kd.R_mono (Kd.R_bound ho4) (fun k_ h_ => (show k_ ≠ G from fun e_ => by have h1_ := (HM2.out.lt (by have := HAB.out; omega)).2; have h2_ := h_.2.1; exact absurd (Nat.lt_of_lt_of_le h1_ h2_) (by rw [e_]; exact Nat.lt_irrefl G)))); have HB4 := am (below_then HB2.out HB2.out.size hb4); have HK4 := am (HK2.out.below hb4); have HM4 := am (HM2.out.below hb4); clear hb4 ho4; obtain ⟨A4, c4, e4⟩ := Kd.R_slice HQR.out; subst e4) | (go_at_call 22; (with_reducible refine (IH.out B G A4 c4 q v2 w0 _ ?side1 ?side2 ?side3 ?side4 HV2.out).mono ?_); (case side1 => exact HB4.out); (case side2 => exact HM4.out); (case side3 => exact zq95); (case side4 => exact (Kd.R_reads' HQR.out).2.1); rintro e w5 ⟨rfl, hm5, hb5, hk5⟩; have HM5 := am hm5; have HB5 := am hb5; have HK5 := am (HK4.out.then_ hk5 (fun _ h_ => .inl h_)); clear hm5 hb5 hk5)))
        go_roundg (l0.length - 1 - (i + 1))
        case measure => omega
        case rel => exact ⟨i + 1, ji, wrap64 (s + v2), false, zq93, rfl, (by first | rfl | (simp [*]; done)), ⟨by have := HJV.out; omega⟩, zq10, zq10, HLP, HM5, HB5, HK5⟩
       ·rw [if_neg hc] at hlp
        have HLP := am hlp
        have hc0 : decide (y < x) = false := decide_eq_false hc
        clear hlp hc
        go_wp2
        repeat (go_quiet (fail); try go_wp2)
        go_roundg (l0.length - 1 - (i + 1))
        case measure => omega
        case rel => exact ⟨i + 1, ji, s, b, rfl, rfl, (by first | rfl | (simp [*]; done)), ⟨by have := HJV.out; omega⟩, zq10, zq10, HLP, ⟨HM2.out.below zq26⟩, ⟨by repeat (first | exact HB2.out | apply pw_below_drewN | apply below_drew1)⟩, ⟨zq25⟩⟩
      ·have hltz : ¬ ji < (l0.length : Int) := by have := HJV.out; omega
       have hq3 : decide (ji < (l0.length : Int)) = false := decide_eq_false hltz
       have hlp := HLP.out
       rw [show l0.length - 1 - i = 0 by omega, spec_alCounter_count.lp] at hlp
       simp only [Option.some.injEq, Prod.mk.injEq] at hlp
       obtain ⟨rfl, rfl⟩ := hlp
       clear HLP
       obtain ⟨hGb, hBG, C2, kn2, hblk, hkl, hrow, hinv⟩ := HM2.out
       have hcellB := blk_cell hblk 0
       obtain ⟨hx0, hf0⟩ := Kd.R_celln 0 hrow a HAB.out.1 HAB.out.2
       have HP7 := am (Kd.R_putg hrow a r)
       have HS2 := am (show _ ∧ _ ∧ _ ∧ _ ∧ _ ∧ _ from ⟨hGb, hBG, hblk, hkl, hrow, hinv⟩)
       clear hGb hBG hblk hkl hrow hinv
       cases b with
       | true =>
        have hr1 : r = 1 := HRR.out
        subst hr1
        go_wp2_with (first | ((with_reducible refine gate_store (t := 3) (p := 57) rfl ?_); refine store_event (t := 3) (p := 57) (v := ?vo) (w1 := (wr.setCell ⟨G, a.toNat, none⟩ (.int .i64 1))) ?hg ?ho ?hn ?hr ?_; (case ho => rfl); (case hg => rfl); (case hn => rfl); (case hr => exact zq8); intro w8 hw; have hg_ : wr.grownBy w8 (some G) := (by rw [hw]; exact HP7.out.2); have n0_ := am (show spec_alCounter_count.Mem w0.heap.size w8 B G N n from ⟨HS2.out.1, HS2.out.2.1, C2, kn2.set a.toNat (1), by rw [hw]; exact blk_far HS2.out.2.2.1 HS2.out.2.1 _, by rw [List.length_set]; exact HS2.out.2.2.2.1, by rw [hw]; exact HP7.out.1, spec_alCounter_count.inv_set HS2.out.2.2.2.2.2 HS2.out.2.2.2.1 HJ.out HG.out HLN.out.1 HLN.out.2 HA.out HAB.out.1 HAB.out.2 H0.out⟩); have n1_ := am (HB2.out.grown hg_ HB2.out.size (fun k_ h_ => by cases h_; exact HS2.out.1)); have n2_ := am (Kept.of_grown hg_ HK2.out (fun k_ h_ => by cases h_; exact .inl rfl)); clear hg_ hw))
        go_ret
        exact ⟨rfl, n0_.out, n1_.out, n2_.out⟩
       | false =>
        have hr1 : r = s := HRR.out
        subst hr1
        go_wp2_with (first | ((with_reducible refine gate_store (t := 3) (p := 57) rfl ?_); refine store_event (t := 3) (p := 57) (v := ?vo) (w1 := (wr.setCell ⟨G, a.toNat, none⟩ (.int .i64 r))) ?hg ?ho ?hn ?hr ?_; (case ho => rfl); (case hg => rfl); (case hn => rfl); (case hr => exact zq8); intro w8 hw; have hg_ : wr.grownBy w8 (some G) := (by rw [hw]; exact HP7.out.2); have n0_ := am (show spec_alCounter_count.Mem w0.heap.size w8 B G N n from ⟨HS2.out.1, HS2.out.2.1, C2, kn2.set a.toNat (r), by rw [hw]; exact blk_far HS2.out.2.2.1 HS2.out.2.1 _, by rw [List.length_set]; exact HS2.out.2.2.2.1, by rw [hw]; exact HP7.out.1, spec_alCounter_count.inv_set HS2.out.2.2.2.2.2 HS2.out.2.2.2.1 HJ.out HG.out HLN.out.1 HLN.out.2 HA.out HAB.out.1 HAB.out.2 H0.out⟩); have n1_ := am (HB2.out.grown hg_ HB2.out.size (fun k_ h_ => by cases h_; exact HS2.out.1)); have n2_ := am (Kept.of_grown hg_ HK2.out (fun k_ h_ => by cases h_; exact .inl rfl)); clear hg_ hw))
        go_ret
        exact ⟨rfl, n0_.out, n1_.out, n2_.out⟩
   ·cases h
  ·cases h
theorem spec_alCounter_count.Mem.made {n : Nat} {w w' : World} {v : Value} (h : spec_alNew.Made n w w' v) : ∃ B G : Nat, v = .pointer (some ⟨B, 0, none⟩) ∧ w.heap.size ≤ B ∧ w.heap.size ≤ G ∧ spec_alCounter_count.Mem w.heap.size w' B G (spec_alNew.fc n) n := by
 obtain ⟨B, G, C, h1, h2, h3, h4, h5⟩ := h
 exact ⟨B, G, h1, zq10, h2, h2, zq10, C, _, h4, List.length_replicate, h5, spec_alCounter_count.inv_new _ _⟩
noncomputable def spec_alCounter_count.f (N : Nat) (l0 : List Int) : Option Int := spec_alCounter_count.g N l0.length 16 l0
end
end Go.Proofs.Ytlmiiijjjcddkaa.PKb
