-- Written for this claim by a program of this session (myprint.py) over the kit's printer.
import Derived.Test.YtlmiiijjjcddkaaGreatDoorPLgx0
import Derived.Test.YtlmiiijjjcddkaaGreatDoorPLgx1
import Derived.Test.YtlmiiijjjcddkaaGreatDoorPLgx2
import Derived.Test.YtlmiiijjjcddkaaGreatDoorPLgx5
namespace Go.Proofs.YtlmiiijjjcddkaaGreatDoor.PLg
noncomputable section
open Go.RowKit Go.Proofs.YtlmiiijjjcddkaaGreatDoorW.PrintWords Go.Proofs.YtlmiiijjjcddkaaGreatDoorW.PrintLast Go.Proofs.YtlmiiijjjcddkaaGreatDoorW.PrintMore
attribute [local go_sem] max2_int min2_int max_two min_two max_three min_three max_four min_four   -- for this text's walks alone
open List (setIfInBounds_toArray set_cons_zero set_cons_succ)
set_option maxHeartbeats 8000000
set_option maxRecDepth 100000
set_option linter.unusedVariables false
set_option linter.unusedSimpArgs false
/-! ### spec_AddRung: function 22 -/
def spec_AddRung.j0 : Nat → Int → Int → Bool → Int → List Int → Option (Int × List Int × Bool)
 | 0, _, _, _, _, _ => none
 | k + 1, x1, x2, x27, x409000, x409001 => if x27 = true then (some (0, ([] : List Int), false)) else (if 0 ≤ x1 then (if x1 ≤ (x409001.length : Int) then ((spec_l1Own.f (x409001.take (x1 : Int).toNat)).bind fun t417 => ((some (([x2] : List Int) : List Int)).bind fun y420 => (if t417.length + y420.length < 17592186044416 then ((some (t417 ++ y420 : List Int)).bind fun y423 => ((some (x409001.drop (x1 : Int).toNat : List Int)).bind fun y427 => (if y423.length + y427.length < 17592186044416 then ((spec_laIf.f k x409000 (y423 ++ y427)).bind fun bt434 => (some (bt434.1, bt434.2.1, bt434.2.2))) else (none)))) else (none)))) else (none)) else (none))
def spec_AddRung.f (k : Nat) (a0_0 : Int) (l0_1 : List Int) (a1 : Int) (a2 : Int) : Option (Int × List Int × Bool) := (spec_laGood.f k a0_0 l0_1).bind fun t410 => (if t410 = true then ((spec_l1In.f a1 0 (l0_1.length : Int)).bind fun t411 => (if t411 = true then ((spec_l1In.f a2 0 (wrap64 (a0_0 - 2))).bind fun t412 => (spec_AddRung.j0 k a1 a2 (!t412) a0_0 l0_1)) else (spec_AddRung.j0 k a1 a2 true a0_0 l0_1))) else (spec_AddRung.j0 k a1 a2 true a0_0 l0_1))
theorem spec_AddRung.mono_l : ∀ k, (∀ y0 y1 y2 y3 y4, LeO (spec_AddRung.j0 k y0 y1 y2 y3 y4) (spec_AddRung.j0 (k + 1) y0 y1 y2 y3 y4))
 | 0 => fun _ _ _ _ _ r h => by simp [spec_AddRung.j0] at h
 | k + 1 => by
  have ih0 := spec_AddRung.mono_l k
  ·intro y0 y1 y2 y3 y4
   unfold spec_AddRung.j0
   repeat' first | (with_reducible first | exact ih0 _ _ _ _ _ | exact spec_laGood.mono _ _ _ | exact spec_laIf.mono _ _ _ | exact LeO.refl _ | exact LeO.none _ | refine LeO.ite ?_ ?_ | refine LeO.bind ?_ (fun _ => ?_))
theorem spec_AddRung.mono : ∀ a0 a1 a2 a3 k, LeO (spec_AddRung.f k a0 a1 a2 a3) (spec_AddRung.f (k + 1) a0 a1 a2 a3) := by
 intro a0 a1 a2 a3 k
 have ih0 := spec_AddRung.mono_l k
 unfold spec_AddRung.f
 repeat' first | (with_reducible first | exact ih0 _ _ _ _ _ | exact spec_laGood.mono _ _ _ | exact spec_laIf.mono _ _ _ | exact LeO.refl _ | exact LeO.none _ | refine LeO.ite ?_ ?_ | refine LeO.bind ?_ (fun _ => ?_))
def spec_AddRung.T3 : Bool × List (List Nat × List Nat) := (true, [([], []), ([0], [0]), ([], []), ([2], [2]), ([], []), ([3, 4], [3, 4]), ([5], [5]), ([], []), ([7], [7]), ([6, 8, 6], [6, 8]), ([1, 9], [1, 9]), ([], []), ([11, 10, 9, 0, 1, 2, 3, 4, 5, 6, 7, 8, 9, 10, 11], [10, 11])])
def spec_AddRung.B3 : List Nat := [0, 1, 0, 4, 0, 28, 60, 0, 128, 508, 1023, 0, 4095]
theorem spec_AddRung.tab3 : rtab .any (opsOf Tryz.f22 3) = spec_AddRung.T3 := by kernel_rfl
theorem spec_AddRung.bits3 : waitsOk spec_AddRung.T3.2 spec_AddRung.B3 = true := by kernel_rfl
def spec_AddRung.T4 : Bool × List (List Nat × List Nat) := (true, [([], []), ([0], [0]), ([], []), ([2], [2]), ([], []), ([3, 4], [3, 4]), ([1, 5], [1, 5]), ([0, 1, 2, 3, 4, 5, 6], []), ([7, 6, 6, 0, 1, 2, 3, 4, 5, 6], [6, 7])])
def spec_AddRung.B4 : List Nat := [0, 1, 0, 4, 0, 28, 63, 127, 255]
theorem spec_AddRung.tab4 : rtab .any (opsOf Tryz.f22 4) = spec_AddRung.T4 := by kernel_rfl
theorem spec_AddRung.bits4 : waitsOk spec_AddRung.T4.2 spec_AddRung.B4 = true := by kernel_rfl
theorem spec_AddRung.calls (k : Nat) (a0_0 : Int) (A0_1 : Option Addr) (c0_1 : Nat) (l0_1 : List Int) (a1 : Int) (a2 : Int) (r1 : Int) (r2 : List Int) (r3 : Bool) (w : World) (hr0_1 : Kd.C (Kd.int .i64) w A0_1 l0_1.length l0_1) (hc0_1 : l0_1.length ≤ c0_1) (h : spec_AddRung.f k a0_0 l0_1 a1 a2 = some (r1, r2, r3)) :
  Calls Tryz.prog 22 #[.agg #[.int .i64 a0_0, .slice A0_1 l0_1.length c0_1], .int .i64 a1, .int .i64 a2] w fun e w' => ∃ v1_ : Value, e = .returned (.tuple #[.agg #[.int .i64 r1, v1_], .bool r3]) ∧ Kd.R (Kd.int .i64) 3 w' w.heap.size (fun _ => True) v1_ r2 ∧ Below w.heap.size w w' := by
 have hu26 := Tryz.underlying26
 have HR0_1 := am hr0_1
 have HC0_1 := am hc0_1
 clear hr0_1 hc0_1
 have HB := am (Below.refl w.heap.size w)
 unfold spec_AddRung.f at h
 have H := h
 clear h
 have HC4 := am H
 clear H
 go_enter Tryz.func22, Tryz.ntmps22
 go_upto_region 1 with (first | ((with_reducible refine gate_dst (N := 3) rfl ?_); (try (refine gate_guard (by rfl) ?_; dsimp only)); refine zE 3 (cs := #[.int .i64 a0_0, .slice A0_1 l0_1.length c0_1]) 26 ?_; intro gb408 hg w5 hbox hb; have BK408 := am (hbox); have GW408 := am ((zq51 : w.heap.size ≤ gb408)); replace HB := sB HB hb; clear hb hbox hg) | ((with_reducible refine gate_dst (N := 6) rfl ?_); (try (refine gate_guard (by rfl) ?_; dsimp only)); refine zE 6 (cs := #[.int .i64 0, .slice none 0 0]) 26 ?_; intro gb409 hg w6 hbox hb; have BK409 := am (hbox); have GW409 := am ((zq51 : w.heap.size ≤ gb409)); have NB408_409 := am ((zq88 : gb408 ≠ gb409)); have NB409_408 := am ((zq89 : gb409 ≠ gb408)); replace BK408 := sK BK408 hb; replace HB := sB HB hb; clear hb hbox hg))
 (try simp only [Act.put, setIfInBounds_toArray, set_cons_zero, set_cons_succ])
 go_cut [27] (fun v27 wc => ∃ (kq : Nat) (x27_3 : Bool), v27 = .bool x27_3 ∧ Aside0 (spec_AddRung.j0 kq a1 a2 x27_3 a0_0 l0_1 = some (r1, r2, r3)) ∧ Aside0 (kq ≤ k) ∧ Aside0 (wc.heap[gb408]? = some (.cells #[.int .i64 a0_0, (.slice A0_1 l0_1.length c0_1)] 26 (0, 0))) ∧ Aside0 (wc.heap[gb409]? = some (.cells #[.int .i64 0, (.slice none 0 0)] 26 (0, 0))) ∧ Aside0 (Below w.heap.size w wc))
 case first =>
  have H := HC4.out
  clear HC4
  obtain ⟨t410, A7, H⟩ := zS H
  (try dsimp only at H)
  by_cases c8 : t410 = true
  ·subst c8
   rw [if_pos rfl] at H
   obtain ⟨t411, A9, H⟩ := zS H
   (try dsimp only at H)
   by_cases c10 : t411 = true
   ·subst c10
    rw [if_pos rfl] at H
    obtain ⟨t412, A11, H⟩ := zS H
    (try dsimp only at H)
    have H' := am H
    clear H
    have hnb12 := NB408_409.out
    have hnc12 := NB409_408.out
    obtain ⟨hcz13_0, hcz13_1, hfz13_0, hfz13_1⟩ := sC BK408
    go_wp2_with (first | ((with_reducible refine gate_callee (f := 59) rfl ?_); refine goesL_ (some 10) rfl rfl Tryz.func59 zq15 rfl #[.agg #[.int .i64 a0_0, .slice A0_1 l0_1.length c0_1]] rfl zq0 ?_; (with_reducible refine (spec_laGood.calls k a0_0 _ _ l0_1 true _ ?side1 ?side2 A7.out).mono ?_); (case side1 => exact zq7); (case side2 => exact zq97); rintro e w14 ⟨rfl, hb⟩; refine ⟨_, rfl, ?_⟩; replace BK408 := sK BK408 hb; replace BK409 := sK BK409 hb; replace HB := sB HB hb; (try clear hb); obtain ⟨hcz15_0, hcz15_1, hfz15_0, hfz15_1⟩ := sC BK408) | (go_at_call 73; (with_reducible refine (spec_l1In.calls a1 0 (l0_1.length : Int) true _ A9.out).mono ?_); rintro e w' ⟨rfl, ⟨nd, rfl⟩⟩) | (go_at_call 73; (with_reducible refine (spec_l1In.calls a2 0 (wrap64 (a0_0 - 2)) t412 _ A11.out).mono ?_); rintro e w' ⟨rfl, ⟨nd, rfl⟩⟩))
    go_meet
    case rel => exact ⟨_, (!t412), zq10, H', ⟨zq41⟩, ⟨zq94⟩, ⟨zq93⟩, ⟨zq1⟩⟩
   ·replace c10 := Bool.eq_false_iff.mpr c10
    subst c10
    rw [if_neg (show ¬ (false = true) by decide)] at H
    have H' := am H
    clear H
    have hnb16 := NB408_409.out
    have hnc16 := NB409_408.out
    obtain ⟨hcz17_0, hcz17_1, hfz17_0, hfz17_1⟩ := sC BK408
    go_wp2_with (first | ((with_reducible refine gate_callee (f := 59) rfl ?_); refine goesL_ (some 10) rfl rfl Tryz.func59 zq15 rfl #[.agg #[.int .i64 a0_0, .slice A0_1 l0_1.length c0_1]] rfl zq0 ?_; (with_reducible refine (spec_laGood.calls k a0_0 _ _ l0_1 true _ ?side1 ?side2 A7.out).mono ?_); (case side1 => exact zq7); (case side2 => exact zq97); rintro e w18 ⟨rfl, hb⟩; refine ⟨_, rfl, ?_⟩; replace BK408 := sK BK408 hb; replace BK409 := sK BK409 hb; replace HB := sB HB hb; (try clear hb); obtain ⟨hcz19_0, hcz19_1, hfz19_0, hfz19_1⟩ := sC BK408) | (go_at_call 73; (with_reducible refine (spec_l1In.calls a1 0 (l0_1.length : Int) false _ A9.out).mono ?_); rintro e w' ⟨rfl, ⟨nd, rfl⟩⟩))
    go_meet
    case rel => exact ⟨_, (true), zq10, H', ⟨zq41⟩, ⟨zq94⟩, ⟨zq93⟩, ⟨zq1⟩⟩
  ·replace c8 := Bool.eq_false_iff.mpr c8
   subst c8
   rw [if_neg (show ¬ (false = true) by decide)] at H
   have H' := am H
   clear H
   have hnb20 := NB408_409.out
   have hnc20 := NB409_408.out
   obtain ⟨hcz21_0, hcz21_1, hfz21_0, hfz21_1⟩ := sC BK408
   go_wp2_with (first | ((with_reducible refine gate_callee (f := 59) rfl ?_); refine goesL_ (some 10) rfl rfl Tryz.func59 zq15 rfl #[.agg #[.int .i64 a0_0, .slice A0_1 l0_1.length c0_1]] rfl zq0 ?_; (with_reducible refine (spec_laGood.calls k a0_0 _ _ l0_1 false _ ?side1 ?side2 A7.out).mono ?_); (case side1 => exact zq7); (case side2 => exact zq97); rintro e w22 ⟨rfl, hb⟩; refine ⟨_, rfl, ?_⟩; replace BK408 := sK BK408 hb; replace BK409 := sK BK409 hb; replace HB := sB HB hb; (try clear hb)))
   go_meet
   case rel => exact ⟨_, (true), zq10, H', ⟨zq41⟩, ⟨zq94⟩, ⟨zq93⟩, ⟨zq1⟩⟩
 case rest =>
  clear HC4
  obtain ⟨kq, x27_3, rfl, HA, HJ3, BK408, BK409, HB⟩ := hcut
  cases kq with
  | zero => exact absurd HA.out (by simp [spec_AddRung.j0])
  | succ kj3 =>
   have H := HA.out
   clear HA
   simp only [spec_AddRung.j0] at H
   by_cases c23 : x27_3 = true
   ·subst c23
    rw [if_pos rfl] at H
    simp only [Option.some.injEq, Prod.mk.injEq] at H
    obtain ⟨rfl, rfl, rfl⟩ := H
    have hnb24 := NB409_408.out
    have hnc24 := NB408_409.out
    obtain ⟨hcz25_0, hcz25_1, hfz25_0, hfz25_1⟩ := sC BK409
    go_wp2
    refine bodyPost_ret (results_ct rfl _ _ gb409 26 #[.int .i64 0, .slice none 0 0] (0, 0) _ rfl (by (with_reducible repeat (first | refine blk_drewN ?_ _ | refine blk_drew ?_ | refine blk_alloc ?_ _)); refine blk_put (cs := #[.int .i64 0, .slice none 0 0]) ?_ 1 _ rfl; (with_reducible repeat (first | refine blk_drewN ?_ _ | refine blk_drew ?_ | refine blk_alloc ?_ _)); refine blk_put (cs := #[.int .i64 0, .slice none 0 0]) ?_ 0 _ rfl; (with_reducible repeat (first | refine blk_drewN ?_ _ | refine blk_drew ?_ | refine blk_alloc ?_ _)); exact BK409.out) Tryz.underlying26 rfl zq15) rfl ?_
    exact ⟨_, zq6, zq11, zq1⟩
   ·replace c23 := Bool.eq_false_iff.mpr c23
    subst c23
    rw [if_neg (show ¬ (false = true) by decide)] at H
    by_cases c26 : 0 ≤ a1
    ·rw [if_pos c26] at H
     have c26b0 := eq_true c26
     have c26b1 := decide_eq_true c26
     clear c26
     obtain ⟨c27, H⟩ := zI H
     have c27b0 := eq_true c27
     have c27b1 := decide_eq_true c27
     clear c27
     obtain ⟨y413, Ny413⟩ : ∃ y_ : List Int, Aside0 (y_ = (l0_1.take (a1 : Int).toNat)) := ⟨_, ⟨rfl⟩⟩
     rw [← Ny413.out] at H
     obtain ⟨t417, A28, H⟩ := zS H
     (try dsimp only at H)
     obtain ⟨y420, Ny420, H⟩ := zY H
     obtain ⟨c29, H⟩ := zI H
     have LMc29 := am c29
     clear c29
     obtain ⟨y423, Ny423, H⟩ := zY H
     have c30b0 := eq_true (of_decide_eq_true zq9 : 0 ≤ a1)
     have c31b0 := eq_true (of_decide_eq_true zq9 : a1 ≤ (l0_1.length : Int))
     obtain ⟨y427, Ny427, H⟩ := zY H
     obtain ⟨c32, H⟩ := zI H
     have LMc32 := am c32
     clear c32
     obtain ⟨y431, Ny431⟩ : ∃ y_ : List Int, Aside0 (y_ = (y423 ++ y427)) := ⟨_, ⟨rfl⟩⟩
     rw [← Ny431.out] at H
     replace H := Option.bind_eq_some_iff.mp H
     obtain ⟨⟨t434, t435, t438⟩, A330, H⟩ := H
     (try dsimp only at H)
     have A33 := am A330
     clear A330
     simp only [Option.some.injEq, Prod.mk.injEq] at H
     obtain ⟨rfl, rfl, rfl⟩ := H
     try go_wp2
     replace BK408 := am (blk_drew BK408.out)
     replace BK409 := am (blk_drew BK409.out)
     replace HB := am (below_drew1 HB.out)
     have q35 : (a1 : Int) ≤ ((l0_1.length : Int) : Int) := of_decide_eq_true zq9
     obtain ⟨i035, hi035, _, hsz35, _⟩ := info_parts info3
     have hroom35 : l0_1.length ≤ c0_1 := HC0_1.out
     have hC35 : Kd.C (Kd.int .i64) _ A0_1 l0_1.length l0_1 := HR0_1.out
     have hcut35 := cut_to (P := Tryz.prog) 24 3 .i64 Tryz.underlying24 hi035 A0_1 l0_1.length c0_1 a1 (of_decide_eq_true zq9) q35 hroom35
     have hr35 := Kd.C_take (m := (a1 : Int).toNat) hC35 zq32
     have hy35 : y413.length = (a1 : Int).toNat := (by rw [Ny413.out, List.length_take]; omega)
     rw [← Ny413.out] at hr35
     rw [← hy35] at hcut35
     have HR416 := am hr35
     have HC416 := am (show y413.length ≤ c0_1 from zq32)
     clear hr35 hC35 hroom35 hi035 hsz35
     have KY35 := am hy35
     clear hy35
     replace q35 := eq_true q35
     refine start_ (n := 13) (S := fun w' => w'.cell? ⟨gb408, 0, none⟩ = some (.int .i64 a0_0) ∧ w'.cell? ⟨gb408, 1, none⟩ = some (.slice A0_1 l0_1.length c0_1)) (ds := []) #[false, false, false, false, false, false, false, false, false, false, false, false, false] zq15 rfl rfl ⟨(blk_cell BK408.out 0).trans rfl, (blk_cell BK408.out 1).trans rfl⟩ (fun hHeld => ?_); refine with_tabW spec_AddRung.tab3 spec_AddRung.bits3 (fun HT_ HW_ => ?_)
     generalize wc.drew = w34 at BK408 BK409 HB HR416 hHeld ⊢
     refine zU 0 29 HT_ ?_
     refine zU 2 31 HT_ ?_
     refine zU 4 33 HT_ ?_
     refine zU 7 36 HT_ ?_
     refine zT 1 30 HT_ HW_ hHeld ?_
     refine zT 3 32 HT_ HW_ hHeld ?_
     refine zU 5 34 HT_ ?_
     refine join_ (σ := Value × Value × Value × Nat) 1 #[true, true, true, true, true, true, true, true, true, true, true, true, false] (fun s_ => [(35, s_.1), (37, s_.2.1), (38, s_.2.2.1), (8, .pointer (some ⟨s_.2.2.2, 0, none⟩)), (39, .agg #[.int .i64 a0_0, s_.2.2.1])]) (fun s_ w' => (w'.cell? ⟨gb408, 0, none⟩ = some (.int .i64 a0_0) ∧ w'.cell? ⟨gb408, 1, none⟩ = some (.slice A0_1 l0_1.length c0_1)) ∧ (Kd.R (Kd.int .i64) 3 w' w.heap.size (fun k_ => some k_ ≠ (s_.2.2.1 : Value).ownBlock) s_.2.1 y420) ∧ (Kd.R (Kd.int .i64) 3 w' w.heap.size (fun k_ => some k_ ≠ (s_.2.1 : Value).ownBlock) s_.2.2.1 y423) ∧ (w'.heap[gb408]? = some (.cells #[.int .i64 a0_0, .slice A0_1 l0_1.length c0_1] 26 (0, 0))) ∧ (w'.heap[gb409]? = some (.cells #[.int .i64 0, .slice none 0 0] 26 (0, 0))) ∧ (w'.heap[s_.2.2.2]? = some (.cells #[.int .i64 0, .slice none 0 0] 26 (0, 0))) ∧ (w.heap.size ≤ s_.2.2.2) ∧ (w.heap.size ≤ s_.2.2.2) ∧ (gb408 ≠ s_.2.2.2) ∧ (s_.2.2.2 ≠ gb408) ∧ (gb409 ≠ s_.2.2.2) ∧ (s_.2.2.2 ≠ gb409) ∧ (Below w.heap.size w w')) ?_ ?_
     rotate_left
     ·intro hJ6_8_9_11
      refine join_ (σ := Value × Value × Value) 2 #[true, true, true, true, true, true, true, true, true, true, true, false, false] (fun s_ => [(35, s_.1), (37, s_.2.1), (38, s_.2.2), (39, .agg #[.int .i64 a0_0, s_.2.2])]) (fun s_ w' => (w'.cell? ⟨gb408, 0, none⟩ = some (.int .i64 a0_0) ∧ w'.cell? ⟨gb408, 1, none⟩ = some (.slice A0_1 l0_1.length c0_1)) ∧ (Kd.R (Kd.int .i64) 3 w' w.heap.size (fun k_ => some k_ ≠ (s_.2.2 : Value).ownBlock) s_.2.1 y420) ∧ (Kd.R (Kd.int .i64) 3 w' w.heap.size (fun k_ => some k_ ≠ (s_.2.1 : Value).ownBlock) s_.2.2 y423) ∧ (w'.heap[gb408]? = some (.cells #[.int .i64 a0_0, .slice A0_1 l0_1.length c0_1] 26 (0, 0))) ∧ (w'.heap[gb409]? = some (.cells #[.int .i64 0, .slice none 0 0] 26 (0, 0))) ∧ (Below w.heap.size w w')) ?_ ?_
      rotate_left
      ·intro hJ6_8_9
       refine join_ (σ := Value × Value × Nat) 3 #[true, true, true, true, true, true, true, true, true, false, false, true, false] (fun s_ => [(35, s_.1), (37, s_.2.1), (8, .pointer (some ⟨s_.2.2, 0, none⟩))]) (fun s_ w' => (w'.cell? ⟨gb408, 0, none⟩ = some (.int .i64 a0_0) ∧ w'.cell? ⟨gb408, 1, none⟩ = some (.slice A0_1 l0_1.length c0_1)) ∧ (Kd.R (Kd.int .i64) 3 w' w.heap.size (fun k_ => some k_ ≠ (s_.2.1 : Value).ownBlock) s_.1 t417) ∧ (Kd.R (Kd.int .i64) 3 w' w.heap.size (fun k_ => some k_ ≠ (s_.1 : Value).ownBlock) s_.2.1 y420) ∧ (w'.heap[gb408]? = some (.cells #[.int .i64 a0_0, .slice A0_1 l0_1.length c0_1] 26 (0, 0))) ∧ (w'.heap[gb409]? = some (.cells #[.int .i64 0, .slice none 0 0] 26 (0, 0))) ∧ (w'.heap[s_.2.2]? = some (.cells #[.int .i64 0, .slice none 0 0] 26 (0, 0))) ∧ (w.heap.size ≤ s_.2.2) ∧ (w.heap.size ≤ s_.2.2) ∧ (gb408 ≠ s_.2.2) ∧ (s_.2.2 ≠ gb408) ∧ (gb409 ≠ s_.2.2) ∧ (s_.2.2 ≠ gb409) ∧ (Below w.heap.size w w')) ?_ ?_
       rotate_left
       ·intro hJ6_8_11
        refine join_ (σ := Value × Value) 4 #[true, true, true, true, true, true, true, true, true, false, false, false, false] (fun s_ => [(35, s_.1), (37, s_.2)]) (fun s_ w' => (w'.cell? ⟨gb408, 0, none⟩ = some (.int .i64 a0_0) ∧ w'.cell? ⟨gb408, 1, none⟩ = some (.slice A0_1 l0_1.length c0_1)) ∧ (Kd.R (Kd.int .i64) 3 w' w.heap.size (fun k_ => some k_ ≠ (s_.2 : Value).ownBlock) s_.1 t417) ∧ (Kd.R (Kd.int .i64) 3 w' w.heap.size (fun k_ => some k_ ≠ (s_.1 : Value).ownBlock) s_.2 y420) ∧ (w'.heap[gb408]? = some (.cells #[.int .i64 a0_0, .slice A0_1 l0_1.length c0_1] 26 (0, 0))) ∧ (w'.heap[gb409]? = some (.cells #[.int .i64 0, .slice none 0 0] 26 (0, 0))) ∧ (Below w.heap.size w w')) ?_ ?_
        rotate_left
        ·intro hJ6_8
         refine join_ (σ := Value × Nat) 4 #[true, true, true, true, true, true, true, true, false, false, false, true, false] (fun s_ => [(35, s_.1), (8, .pointer (some ⟨s_.2, 0, none⟩))]) (fun s_ w' => (w'.cell? ⟨gb408, 0, none⟩ = some (.int .i64 a0_0) ∧ w'.cell? ⟨gb408, 1, none⟩ = some (.slice A0_1 l0_1.length c0_1)) ∧ (Kd.R (Kd.int .i64) 3 w' w.heap.size (fun _ => True) s_.1 t417) ∧ (w'.heap[gb408]? = some (.cells #[.int .i64 a0_0, .slice A0_1 l0_1.length c0_1] 26 (0, 0))) ∧ (w'.heap[gb409]? = some (.cells #[.int .i64 0, .slice none 0 0] 26 (0, 0))) ∧ (w'.heap[s_.2]? = some (.cells #[.int .i64 0, .slice none 0 0] 26 (0, 0))) ∧ (w.heap.size ≤ s_.2) ∧ (w.heap.size ≤ s_.2) ∧ (gb408 ≠ s_.2) ∧ (s_.2 ≠ gb408) ∧ (gb409 ≠ s_.2) ∧ (s_.2 ≠ gb409) ∧ (Below w.heap.size w w')) ?_ ?_
         rotate_left
         ·intro hJ6_11
          refine join_ (σ := Value × Nat) 4 #[true, true, true, true, true, true, false, true, true, false, false, true, false] (fun s_ => [(37, s_.1), (8, .pointer (some ⟨s_.2, 0, none⟩))]) (fun s_ w' => (w'.cell? ⟨gb408, 0, none⟩ = some (.int .i64 a0_0) ∧ w'.cell? ⟨gb408, 1, none⟩ = some (.slice A0_1 l0_1.length c0_1)) ∧ (Kd.R (Kd.int .i64) 3 w' w.heap.size (fun _ => True) s_.1 y420) ∧ (w'.heap[gb408]? = some (.cells #[.int .i64 a0_0, .slice A0_1 l0_1.length c0_1] 26 (0, 0))) ∧ (w'.heap[gb409]? = some (.cells #[.int .i64 0, .slice none 0 0] 26 (0, 0))) ∧ (w'.heap[s_.2]? = some (.cells #[.int .i64 0, .slice none 0 0] 26 (0, 0))) ∧ (w.heap.size ≤ s_.2) ∧ (w.heap.size ≤ s_.2) ∧ (gb408 ≠ s_.2) ∧ (s_.2 ≠ gb408) ∧ (gb409 ≠ s_.2) ∧ (s_.2 ≠ gb409) ∧ (Below w.heap.size w w')) ?_ ?_
          rotate_left
          ·intro hJ8_11
           refine join_ (σ := Value) 5 #[true, true, true, true, true, true, true, true, false, false, false, false, false] (fun s_ => [(35, s_)]) (fun s_ w' => (w'.cell? ⟨gb408, 0, none⟩ = some (.int .i64 a0_0) ∧ w'.cell? ⟨gb408, 1, none⟩ = some (.slice A0_1 l0_1.length c0_1)) ∧ (Kd.R (Kd.int .i64) 3 w' w.heap.size (fun _ => True) s_ t417) ∧ (w'.heap[gb408]? = some (.cells #[.int .i64 a0_0, .slice A0_1 l0_1.length c0_1] 26 (0, 0))) ∧ (w'.heap[gb409]? = some (.cells #[.int .i64 0, .slice none 0 0] 26 (0, 0))) ∧ (Below w.heap.size w w')) ?_ ?_
           rotate_left
           ·intro hJ6
            refine join_ (σ := Value) 5 #[true, true, true, true, true, true, false, true, true, false, false, false, false] (fun s_ => [(37, s_)]) (fun s_ w' => (w'.cell? ⟨gb408, 0, none⟩ = some (.int .i64 a0_0) ∧ w'.cell? ⟨gb408, 1, none⟩ = some (.slice A0_1 l0_1.length c0_1)) ∧ (Kd.R (Kd.int .i64) 3 w' w.heap.size (fun _ => True) s_ y420) ∧ (w'.heap[gb408]? = some (.cells #[.int .i64 a0_0, .slice A0_1 l0_1.length c0_1] 26 (0, 0))) ∧ (w'.heap[gb409]? = some (.cells #[.int .i64 0, .slice none 0 0] 26 (0, 0))) ∧ (Below w.heap.size w w')) ?_ ?_
            rotate_left
            ·intro hJ8
             refine join_ (σ := Nat) 5 #[true, true, true, true, true, true, false, true, false, false, false, true, false] (fun s_ => [(8, .pointer (some ⟨s_, 0, none⟩))]) (fun s_ w' => (w'.cell? ⟨gb408, 0, none⟩ = some (.int .i64 a0_0) ∧ w'.cell? ⟨gb408, 1, none⟩ = some (.slice A0_1 l0_1.length c0_1)) ∧ (w'.heap[gb408]? = some (.cells #[.int .i64 a0_0, .slice A0_1 l0_1.length c0_1] 26 (0, 0))) ∧ (w'.heap[gb409]? = some (.cells #[.int .i64 0, .slice none 0 0] 26 (0, 0))) ∧ (w'.heap[s_]? = some (.cells #[.int .i64 0, .slice none 0 0] 26 (0, 0))) ∧ (w.heap.size ≤ s_) ∧ (w.heap.size ≤ s_) ∧ (gb408 ≠ s_) ∧ (s_ ≠ gb408) ∧ (gb409 ≠ s_) ∧ (s_ ≠ gb409) ∧ (Below w.heap.size w w')) ?_ ?_
             rotate_left
             ·intro hJ11
              refine three_ (i := 6) (j := 8) (k := 11) (Ni := some 35) (Nj := some 37) (Nk := some 8) #[true, true, true, true, true, true, true, true, false, false, false, false, false] #[true, true, true, true, true, true, false, true, true, false, false, false, false] #[true, true, true, true, true, true, false, true, false, false, false, true, false] rfl rfl rfl rfl rfl rfl (three_of HT_.out zq15) zq27 zq27 zq27 (fun K hK => ?_) (fun K hK => ?_) (fun K hK => ?_)
              ·skip
               refine goes_ Tryz.func74 zq15 rfl #[.slice A0_1 y413.length c0_1] (by rfl) rfl rfl zq0 ?_
               with_reducible refine (spec_l1Own.calls _ _ y413 t417 _ ?side1 ?side2 A28.out).mono ?_
               (case side1 => exact zq59)
               (case side2 => exact HC416.out)
               rintro e w36 ⟨v418, rfl, ho0, hb⟩
               refine ⟨_, rfl, ?_⟩
               have HO419 := am (Kd.R_lower ho0 (below_size (pBq HB)))
               replace BK408 := sK BK408 hb
               replace BK409 := sK BK409 hb
               replace HB := sB HB hb
               (try clear hb)
               (try clear hb2)
               (try clear hk)
               (try clear hi)
               (try clear ho0)
               refine hK.out _ _ ⟨(blk_cell BK408.out 0).trans rfl, (blk_cell BK408.out 1).trans rfl⟩ (fun hHeld => ?_)
               clear hK K
               refine zN 35 ?_
               exact norm_ zq16 (hJ6 (v418) _ ⟨hHeld, (pRq HO419), (pKq BK408), (pKq BK409), (pBq HB)⟩)
              ·skip
               refine Kd.R_lit_step (Kd.int .i64) _ 3 ?hg (N := 37) ?hd (xs := ([a2] : List Int)) (inner := [.int .i64 a2]) (ok := fun _ => True) (okp := fun _ => True) ?hr ?hp (fun _ hk => hk) trivial (Below.refl _ _) (Nat.le_refl _) zq42 ?_; (case hd => rfl); (case hg => rfl); (case hr => exact zq30); (case hp => exact zq68)
               intro v421 w36 ho37 hb hg_ hnew_
               clear hg_ hnew_
               (first | rw [← Ny420.out] at ho37 | (simp only [Int.reduceToNat] at ho37; rw [← Ny420.out] at ho37))
               have HO422 := am (Kd.R_lower ho37 (below_size (pBq HB)))
               replace BK408 := sK BK408 hb
               replace BK409 := sK BK409 hb
               replace HB := sB HB hb
               clear hb ho37
               refine hK.out _ _ ⟨(blk_cell BK408.out 0).trans rfl, (blk_cell BK408.out 1).trans rfl⟩ (fun hHeld => ?_)
               clear hK K
               refine zN 37 ?_
               exact norm_ zq16 (hJ8 (v421) _ ⟨hHeld, (pRq HO422), (pKq BK408), (pKq BK409), (pBq HB)⟩)
              ·skip
               refine box_step ?hg (N := 8) ?hd (cs := #[.int .i64 0, .slice none 0 0]) (t := 26) ?hr ?_; (case hd => rfl); (case hg => rfl); (case hr => exact zq30)
               intro gb426 hg w36 hbox hb
               have BK426 := am (hbox)
               have GW426 := am ((zq51 : w.heap.size ≤ gb426))
               have GE426 := am ((zq51 : w.heap.size ≤ gb426))
               have NB408_426 := am ((zq88 : gb408 ≠ gb426))
               have NB426_408 := am ((zq89 : gb426 ≠ gb408))
               have NB409_426 := am ((zq95 : gb409 ≠ gb426))
               have NB426_409 := am ((zq96 : gb426 ≠ gb409))
               replace BK408 := sK BK408 hb
               replace BK409 := sK BK409 hb
               replace HB := sB HB hb
               clear hb hbox hg
               refine hK.out _ _ ⟨(blk_cell BK408.out 0).trans rfl, (blk_cell BK408.out 1).trans rfl⟩ (fun hHeld => ?_)
               clear hK K
               refine zN 8 ?_
               exact norm_ zq16 (hJ11 (gb426) _ ⟨hHeld, (pKq BK408), (pKq BK409), (pKq BK426), GW426.out, GE426.out, NB408_426.out, NB426_408.out, NB409_426.out, NB426_409.out, (pBq HB)⟩)
             ·skip
              rintro gb426 w37 ⟨hS_, h0_, h1_, h2_, h3_, h4_, h5_, h6_, h7_, h8_, h9_⟩
              (try dsimp only at hS_ h0_ h1_ h2_ h3_ h4_ h5_ h6_ h7_ h8_ h9_)
              replace BK408 := am h0_
              replace BK409 := am h1_
              have BK426 := am h2_
              have GW426 := am h3_
              have GE426 := am h4_
              have NB408_426 := am h5_
              have NB426_408 := am h6_
              have NB409_426 := am h7_
              have NB426_409 := am h8_
              replace HB := am h9_
              clear h0_ h1_ h2_ h3_ h4_ h5_ h6_ h7_ h8_ h9_
              have hHeld := hS_
              refine norm_ (a' := ?_) ?_ ?_
              rotate_left
              ·simp only [putAll, Act.put, setIfInBounds_toArray, set_cons_zero, set_cons_succ]
               rfl
              refine two_ (i := 6) (j := 8) (Ni := some 35) (Nj := some 37) #[true, true, true, true, true, true, true, true, false, false, false, true, false] #[true, true, true, true, true, true, false, true, true, false, false, true, false] rfl rfl rfl rfl (two_of HT_.out zq15) zq27 zq27 (fun K hK => ?_) (fun K hK => ?_)
              ·skip
               refine goes_ Tryz.func74 zq15 rfl #[.slice A0_1 y413.length c0_1] (by rfl) rfl rfl zq0 ?_
               with_reducible refine (spec_l1Own.calls _ _ y413 t417 _ ?side1 ?side2 A28.out).mono ?_
               (case side1 => exact zq59)
               (case side2 => exact HC416.out)
               rintro e w38 ⟨v418, rfl, ho0, hb⟩
               refine ⟨_, rfl, ?_⟩
               have HO419 := am (Kd.R_lower ho0 (below_size (pBq HB)))
               replace BK408 := sK BK408 hb
               replace BK409 := sK BK409 hb
               replace BK426 := sK BK426 hb
               replace HB := sB HB hb
               (try clear hb)
               (try clear hb2)
               (try clear hk)
               (try clear hi)
               (try clear ho0)
               refine hK.out _ _ ⟨(blk_cell BK408.out 0).trans rfl, (blk_cell BK408.out 1).trans rfl⟩ (fun hHeld => ?_)
               clear hK K
               refine zN 35 ?_
               exact norm_ zq16 (hJ6_11 (v418, gb426) _ ⟨hHeld, (pRq HO419), (pKq BK408), (pKq BK409), (pKq BK426), GW426.out, GE426.out, NB408_426.out, NB426_408.out, NB409_426.out, NB426_409.out, (pBq HB)⟩)
              ·skip
               refine Kd.R_lit_step (Kd.int .i64) _ 3 ?hg (N := 37) ?hd (xs := ([a2] : List Int)) (inner := [.int .i64 a2]) (ok := fun _ => True) (okp := fun _ => True) ?hr ?hp (fun _ hk => hk) trivial (Below.refl _ _) (Nat.le_refl _) zq42 ?_; (case hd => rfl); (case hg => rfl); (case hr => exact zq30); (case hp => exact zq68)
               intro v421 w38 ho39 hb hg_ hnew_
               clear hg_ hnew_
               (first | rw [← Ny420.out] at ho39 | (simp only [Int.reduceToNat] at ho39; rw [← Ny420.out] at ho39))
               have HO422 := am (Kd.R_lower ho39 (below_size (pBq HB)))
               replace BK408 := sK BK408 hb
               replace BK409 := sK BK409 hb
               replace BK426 := sK BK426 hb
               replace HB := sB HB hb
               clear hb ho39
               refine hK.out _ _ ⟨(blk_cell BK408.out 0).trans rfl, (blk_cell BK408.out 1).trans rfl⟩ (fun hHeld => ?_)
               clear hK K
               refine zN 37 ?_
               exact norm_ zq16 (hJ8_11 (v421, gb426) _ ⟨hHeld, (pRq HO422), (pKq BK408), (pKq BK409), (pKq BK426), GW426.out, GE426.out, NB408_426.out, NB426_408.out, NB409_426.out, NB426_409.out, (pBq HB)⟩)
            ·skip
             rintro v421 w38 ⟨hS_, h0_, h1_, h2_, h3_⟩
             (try dsimp only at hS_ h0_ h1_ h2_ h3_)
             have HO422 := am h0_
             replace BK408 := am h1_
             replace BK409 := am h2_
             replace HB := am h3_
             clear h0_ h1_ h2_ h3_
             have hHeld := hS_
             refine norm_ (a' := ?_) ?_ ?_
             rotate_left
             ·simp only [putAll, Act.put, setIfInBounds_toArray, set_cons_zero, set_cons_succ]
              rfl
             refine two_ (i := 6) (j := 11) (Ni := some 35) (Nj := some 8) #[true, true, true, true, true, true, true, true, true, false, false, false, false] #[true, true, true, true, true, true, false, true, true, false, false, true, false] rfl rfl rfl rfl (two_of HT_.out zq15) zq27 zq27 (fun K hK => ?_) (fun K hK => ?_)
             ·skip
              refine goes_ Tryz.func74 zq15 rfl #[.slice A0_1 y413.length c0_1] (by rfl) rfl rfl zq0 ?_
              with_reducible refine (spec_l1Own.calls _ _ y413 t417 _ ?side1 ?side2 A28.out).mono ?_
              (case side1 => exact zq59)
              (case side2 => exact HC416.out)
              rintro e w39 ⟨v418, rfl, ho0, hb⟩
              refine ⟨_, rfl, ?_⟩
              have HO419 := am (Kd.R_lower (Kd.R_new' ho0 (Kd.R_lt (pRq HO422))) (below_size (pBq HB)))
              replace HO422 := am (Kd.R_elder' (pRq HO422) (Kd.R_base ho0) hb)
              replace BK408 := sK BK408 hb
              replace BK409 := sK BK409 hb
              replace HB := sB HB hb
              (try clear hb)
              (try clear hb2)
              (try clear hk)
              (try clear hi)
              (try clear ho0)
              refine hK.out _ _ ⟨(blk_cell BK408.out 0).trans rfl, (blk_cell BK408.out 1).trans rfl⟩ (fun hHeld => ?_)
              clear hK K
              refine zN 35 ?_
              exact norm_ zq16 (hJ6_8 (v418, v421) _ ⟨hHeld, zq67, zq44, (pKq BK408), (pKq BK409), (pBq HB)⟩)
             ·skip
              refine box_step ?hg (N := 8) ?hd (cs := #[.int .i64 0, .slice none 0 0]) (t := 26) ?hr ?_; (case hd => rfl); (case hg => rfl); (case hr => exact zq30)
              intro gb426 hg w39 hbox hb
              have BK426 := am (hbox)
              have GW426 := am ((zq51 : w.heap.size ≤ gb426))
              have GE426 := am ((zq51 : w.heap.size ≤ gb426))
              have NB408_426 := am ((zq88 : gb408 ≠ gb426))
              have NB426_408 := am ((zq89 : gb426 ≠ gb408))
              have NB409_426 := am ((zq95 : gb409 ≠ gb426))
              have NB426_409 := am ((zq96 : gb426 ≠ gb409))
              replace HO422 := sR HO422 hb
              replace BK408 := sK BK408 hb
              replace BK409 := sK BK409 hb
              replace HB := sB HB hb
              clear hb hbox hg
              refine hK.out _ _ ⟨(blk_cell BK408.out 0).trans rfl, (blk_cell BK408.out 1).trans rfl⟩ (fun hHeld => ?_)
              clear hK K
              refine zN 8 ?_
              exact norm_ zq16 (hJ8_11 (v421, gb426) _ ⟨hHeld, (pRq HO422), (pKq BK408), (pKq BK409), (pKq BK426), GW426.out, GE426.out, NB408_426.out, NB426_408.out, NB409_426.out, NB426_409.out, (pBq HB)⟩)
           ·skip
            rintro v418 w37 ⟨hS_, h0_, h1_, h2_, h3_⟩
            (try dsimp only at hS_ h0_ h1_ h2_ h3_)
            have HO419 := am h0_
            replace BK408 := am h1_
            replace BK409 := am h2_
            replace HB := am h3_
            clear h0_ h1_ h2_ h3_
            have hHeld := hS_
            refine norm_ (a' := ?_) ?_ ?_
            rotate_left
            ·simp only [putAll, Act.put, setIfInBounds_toArray, set_cons_zero, set_cons_succ]
             rfl
            refine two_ (i := 8) (j := 11) (Ni := some 37) (Nj := some 8) #[true, true, true, true, true, true, true, true, true, false, false, false, false] #[true, true, true, true, true, true, true, true, false, false, false, true, false] rfl rfl rfl rfl (two_of HT_.out zq15) zq27 zq27 (fun K hK => ?_) (fun K hK => ?_)
            ·skip
             refine Kd.R_lit_step (Kd.int .i64) _ 3 ?hg (N := 37) ?hd (xs := ([a2] : List Int)) (inner := [.int .i64 a2]) (ok := fun _ => True) (okp := fun _ => True) ?hr ?hp (fun _ hk => hk) trivial (Below.refl _ _) (Nat.le_refl _) zq42 ?_; (case hd => rfl); (case hg => rfl); (case hr => exact zq30); (case hp => exact zq68)
             intro v421 w38 ho39 hb hg_ hnew_
             clear hg_ hnew_
             (first | rw [← Ny420.out] at ho39 | (simp only [Int.reduceToNat] at ho39; rw [← Ny420.out] at ho39))
             have HO422 := am (Kd.R_lower (Kd.R_new' ho39 (Kd.R_lt (pRq HO419))) (below_size (pBq HB)))
             replace HO419 := am (Kd.R_elder' (pRq HO419) (Kd.R_base ho39) hb)
             replace BK408 := sK BK408 hb
             replace BK409 := sK BK409 hb
             replace HB := sB HB hb
             clear hb ho39
             refine hK.out _ _ ⟨(blk_cell BK408.out 0).trans rfl, (blk_cell BK408.out 1).trans rfl⟩ (fun hHeld => ?_)
             clear hK K
             refine zN 37 ?_
             exact norm_ zq16 (hJ6_8 (v418, v421) _ ⟨hHeld, zq67, zq44, (pKq BK408), (pKq BK409), (pBq HB)⟩)
            ·skip
             refine box_step ?hg (N := 8) ?hd (cs := #[.int .i64 0, .slice none 0 0]) (t := 26) ?hr ?_; (case hd => rfl); (case hg => rfl); (case hr => exact zq30)
             intro gb426 hg w38 hbox hb
             have BK426 := am (hbox)
             have GW426 := am ((zq51 : w.heap.size ≤ gb426))
             have GE426 := am ((zq51 : w.heap.size ≤ gb426))
             have NB408_426 := am ((zq88 : gb408 ≠ gb426))
             have NB426_408 := am ((zq89 : gb426 ≠ gb408))
             have NB409_426 := am ((zq95 : gb409 ≠ gb426))
             have NB426_409 := am ((zq96 : gb426 ≠ gb409))
             replace HO419 := sR HO419 hb
             replace BK408 := sK BK408 hb
             replace BK409 := sK BK409 hb
             replace HB := sB HB hb
             clear hb hbox hg
             refine hK.out _ _ ⟨(blk_cell BK408.out 0).trans rfl, (blk_cell BK408.out 1).trans rfl⟩ (fun hHeld => ?_)
             clear hK K
             refine zN 8 ?_
             exact norm_ zq16 (hJ6_11 (v418, gb426) _ ⟨hHeld, (pRq HO419), (pKq BK408), (pKq BK409), (pKq BK426), GW426.out, GE426.out, NB408_426.out, NB426_408.out, NB409_426.out, NB426_409.out, (pBq HB)⟩)
          ·skip
           rintro ⟨v421, gb426⟩ w39 ⟨hS_, h0_, h1_, h2_, h3_, h4_, h5_, h6_, h7_, h8_, h9_, h10_⟩
           (try dsimp only at hS_ h0_ h1_ h2_ h3_ h4_ h5_ h6_ h7_ h8_ h9_ h10_)
           have HO422 := am h0_
           replace BK408 := am h1_
           replace BK409 := am h2_
           have BK426 := am h3_
           have GW426 := am h4_
           have GE426 := am h5_
           have NB408_426 := am h6_
           have NB426_408 := am h7_
           have NB409_426 := am h8_
           have NB426_409 := am h9_
           replace HB := am h10_
           clear h0_ h1_ h2_ h3_ h4_ h5_ h6_ h7_ h8_ h9_ h10_
           have hHeld := hS_
           refine norm_ (a' := ?_) ?_ ?_
           rotate_left
           ·simp only [putAll, Act.put, setIfInBounds_toArray, set_cons_zero, set_cons_succ]
            rfl
           refine zO 6 35 HT_ fun K hK => ?_
           refine goes_ Tryz.func74 zq15 rfl #[.slice A0_1 y413.length c0_1] (by rfl) rfl rfl zq0 ?_
           with_reducible refine (spec_l1Own.calls _ _ y413 t417 _ ?side1 ?side2 A28.out).mono ?_
           (case side1 => exact zq59)
           (case side2 => exact HC416.out)
           rintro e w40 ⟨v418, rfl, ho0, hb⟩
           refine ⟨_, rfl, ?_⟩
           have HO419 := am (Kd.R_lower (Kd.R_new' ho0 (Kd.R_lt (pRq HO422))) (below_size (pBq HB)))
           replace HO422 := am (Kd.R_elder' (pRq HO422) (Kd.R_base ho0) hb)
           replace BK408 := sK BK408 hb
           replace BK409 := sK BK409 hb
           replace BK426 := sK BK426 hb
           replace HB := sB HB hb
           (try clear hb)
           (try clear hb2)
           (try clear hk)
           (try clear hi)
           (try clear ho0)
           refine hK.out _ _ ⟨(blk_cell BK408.out 0).trans rfl, (blk_cell BK408.out 1).trans rfl⟩ (fun hHeld => ?_)
           clear hK K
           refine zN 35 ?_
           exact norm_ zq16 (hJ6_8_11 (v418, v421, gb426) _ ⟨hHeld, zq67, zq44, (pKq BK408), (pKq BK409), (pKq BK426), GW426.out, GE426.out, NB408_426.out, NB426_408.out, NB409_426.out, NB426_409.out, (pBq HB)⟩)
         ·skip
          rintro ⟨v418, gb426⟩ w38 ⟨hS_, h0_, h1_, h2_, h3_, h4_, h5_, h6_, h7_, h8_, h9_, h10_⟩
          (try dsimp only at hS_ h0_ h1_ h2_ h3_ h4_ h5_ h6_ h7_ h8_ h9_ h10_)
          have HO419 := am h0_
          replace BK408 := am h1_
          replace BK409 := am h2_
          have BK426 := am h3_
          have GW426 := am h4_
          have GE426 := am h5_
          have NB408_426 := am h6_
          have NB426_408 := am h7_
          have NB409_426 := am h8_
          have NB426_409 := am h9_
          replace HB := am h10_
          clear h0_ h1_ h2_ h3_ h4_ h5_ h6_ h7_ h8_ h9_ h10_
          have hHeld := hS_
          refine norm_ (a' := ?_) ?_ ?_
          rotate_left
          ·simp only [putAll, Act.put, setIfInBounds_toArray, set_cons_zero, set_cons_succ]
           rfl
          refine zO 8 37 HT_ fun K hK => ?_
          refine Kd.R_lit_step (Kd.int .i64) _ 3 ?hg (N := 37) ?hd (xs := ([a2] : List Int)) (inner := [.int .i64 a2]) (ok := fun _ => True) (okp := fun _ => True) ?hr ?hp (fun _ hk => hk) trivial (Below.refl _ _) (Nat.le_refl _) zq42 ?_; (case hd => rfl); (case hg => rfl); (case hr => exact zq30); (case hp => exact zq68)
          intro v421 w39 ho40 hb hg_ hnew_
          clear hg_ hnew_
          (first | rw [← Ny420.out] at ho40 | (simp only [Int.reduceToNat] at ho40; rw [← Ny420.out] at ho40))
          have HO422 := am (Kd.R_lower (Kd.R_new' ho40 (Kd.R_lt (pRq HO419))) (below_size (pBq HB)))
          replace HO419 := am (Kd.R_elder' (pRq HO419) (Kd.R_base ho40) hb)
          replace BK408 := sK BK408 hb
          replace BK409 := sK BK409 hb
          replace BK426 := sK BK426 hb
          replace HB := sB HB hb
          clear hb ho40
          refine hK.out _ _ ⟨(blk_cell BK408.out 0).trans rfl, (blk_cell BK408.out 1).trans rfl⟩ (fun hHeld => ?_)
          clear hK K
          refine zN 37 ?_
          exact norm_ zq16 (hJ6_8_11 (v418, v421, gb426) _ ⟨hHeld, zq67, zq44, (pKq BK408), (pKq BK409), (pKq BK426), GW426.out, GE426.out, NB408_426.out, NB426_408.out, NB409_426.out, NB426_409.out, (pBq HB)⟩)
        ·skip
         rintro ⟨v418, v421⟩ w39 ⟨hS_, h0_, h1_, h2_, h3_, h4_⟩
         (try dsimp only at hS_ h0_ h1_ h2_ h3_ h4_)
         have HO419 := am h0_
         have HO422 := am h1_
         replace BK408 := am h2_
         replace BK409 := am h3_
         replace HB := am h4_
         clear h0_ h1_ h2_ h3_ h4_
         have hHeld := hS_
         obtain ⟨Ao41, co41, eo41⟩ := Kd.R_slice HO422.out
         (first | subst eo41 | (injection eo41 with f1_ f2_ f3_; have f4_ := f1_.symm; have f5_ := f3_.symm; clear f1_ f2_ f3_; subst f4_; subst f5_))
         refine norm_ (a' := ?_) ?_ ?_
         rotate_left
         ·simp only [putAll, Act.put, setIfInBounds_toArray, set_cons_zero, set_cons_succ]
          rfl
         refine two_ (i := 9) (j := 11) (Ni := some 38) (Nj := some 8) #[true, true, true, true, true, true, true, true, true, true, false, false, false] #[true, true, true, true, true, true, true, true, true, false, false, true, false] rfl rfl rfl rfl (two_of HT_.out zq15) zq27 zq27 (fun K hK => ?_) (fun K hK => ?_)
         ·skip
          refine Kd.R_append_rows_step (Kd.int .i64) (w0 := w) w.heap.size (by rfl) (.tmp 35) (.tmp 37) 24 3 (.int .i64 0) 8 rfl Tryz.underlying24 info3 rfl zq27 zq32 v418 t417 y420 _ _ _ (fun k_ => some k_ ≠ (.slice Ao41 y420.length co41 : Value).ownBlock) (fun _ => False) rfl rfl ?aO ?aR (fun _ _ h => h) (fun _ h => h.elim) ?aF ?aB ?aS ?aL ?_
          (case aR => exact zq104)
          (case aB => exact (pBq HB))
          (case aF => exact (fun k_ hk => Kd.fresh' (Kd.R_lt (pRq HO422)) k_ hk))
          (case aO => exact (pRq HO419))
          (case aS => exact (below_size (pBq HB)))
          (case aL => have := LMc29.out; omega)
          intro v424 w40 ho hb hg hat
          rw [← Ny423.out] at ho
          have HO425 := am (ho)
          replace BK408 := am (blk_grown (g := gb408) (o := .cells #[.int .i64 a0_0, .slice A0_1 l0_1.length c0_1] 26 (0, 0)) (pKq BK408) hg (Kd.R_ne HO419.out BK408.out zq27))
          replace BK409 := am (blk_grown (g := gb409) (o := .cells #[.int .i64 0, .slice none 0 0] 26 (0, 0)) (pKq BK409) hg (Kd.R_ne HO419.out BK409.out zq27))
          replace HO422 := am (Kd.R_after (ok := (fun _ => True)) zq84 hg hat)
          replace HB := am (hb)
          clear HO419
          clear ho hb hg hat
          obtain ⟨Ao42, co42, eo42⟩ := Kd.R_slice HO425.out
          (first | subst eo42 | (injection eo42 with f1_ f2_ f3_; have f4_ := f1_.symm; have f5_ := f3_.symm; clear f1_ f2_ f3_; subst f4_; subst f5_))
          refine hK.out _ _ ⟨(blk_cell BK408.out 0).trans rfl, (blk_cell BK408.out 1).trans rfl⟩ (fun hHeld => ?_)
          clear hK K
          refine zN 38 ?_
          refine zU 10 39 HT_ ?_
          exact norm_ zq16 (hJ6_8_9 (v418, .slice Ao41 y420.length co41, .slice Ao42 y423.length co42) _ ⟨hHeld, zq44, (pRq HO425), (pKq BK408), (pKq BK409), (pBq HB)⟩)
         ·skip
          refine box_step ?hg (N := 8) ?hd (cs := #[.int .i64 0, .slice none 0 0]) (t := 26) ?hr ?_; (case hd => rfl); (case hg => rfl); (case hr => exact zq30)
          intro gb426 hg w40 hbox hb
          have BK426 := am (hbox)
          have GW426 := am ((zq51 : w.heap.size ≤ gb426))
          have GE426 := am ((zq51 : w.heap.size ≤ gb426))
          have NB408_426 := am ((zq88 : gb408 ≠ gb426))
          have NB426_408 := am ((zq89 : gb426 ≠ gb408))
          have NB409_426 := am ((zq95 : gb409 ≠ gb426))
          have NB426_409 := am ((zq96 : gb426 ≠ gb409))
          replace HO419 := sR HO419 hb
          replace HO422 := sR HO422 hb
          replace BK408 := sK BK408 hb
          replace BK409 := sK BK409 hb
          replace HB := sB HB hb
          clear hb hbox hg
          refine hK.out _ _ ⟨(blk_cell BK408.out 0).trans rfl, (blk_cell BK408.out 1).trans rfl⟩ (fun hHeld => ?_)
          clear hK K
          refine zN 8 ?_
          exact norm_ zq16 (hJ6_8_11 (v418, .slice Ao41 y420.length co41, gb426) _ ⟨hHeld, (pRq HO419), (pRq HO422), (pKq BK408), (pKq BK409), (pKq BK426), GW426.out, GE426.out, NB408_426.out, NB426_408.out, NB409_426.out, NB426_409.out, (pBq HB)⟩)
       ·skip
        rintro ⟨v418, v421, gb426⟩ w40 ⟨hS_, h0_, h1_, h2_, h3_, h4_, h5_, h6_, h7_, h8_, h9_, h10_, h11_⟩
        (try dsimp only at hS_ h0_ h1_ h2_ h3_ h4_ h5_ h6_ h7_ h8_ h9_ h10_ h11_)
        have HO419 := am h0_
        have HO422 := am h1_
        replace BK408 := am h2_
        replace BK409 := am h3_
        have BK426 := am h4_
        have GW426 := am h5_
        have GE426 := am h6_
        have NB408_426 := am h7_
        have NB426_408 := am h8_
        have NB409_426 := am h9_
        have NB426_409 := am h10_
        replace HB := am h11_
        clear h0_ h1_ h2_ h3_ h4_ h5_ h6_ h7_ h8_ h9_ h10_ h11_
        have hHeld := hS_
        obtain ⟨Ao42, co42, eo42⟩ := Kd.R_slice HO422.out
        (first | subst eo42 | (injection eo42 with f1_ f2_ f3_; have f4_ := f1_.symm; have f5_ := f3_.symm; clear f1_ f2_ f3_; subst f4_; subst f5_))
        refine norm_ (a' := ?_) ?_ ?_
        rotate_left
        ·simp only [putAll, Act.put, setIfInBounds_toArray, set_cons_zero, set_cons_succ]
         rfl
        refine zO 9 38 HT_ fun K hK => ?_
        refine Kd.R_append_rows_step (Kd.int .i64) (w0 := w) w.heap.size (by rfl) (.tmp 35) (.tmp 37) 24 3 (.int .i64 0) 8 rfl Tryz.underlying24 info3 rfl zq27 zq32 v418 t417 y420 _ _ _ (fun k_ => some k_ ≠ (.slice Ao42 y420.length co42 : Value).ownBlock) (fun _ => False) rfl rfl ?aO ?aR (fun _ _ h => h) (fun _ h => h.elim) ?aF ?aB ?aS ?aL ?_
        (case aR => exact zq104)
        (case aB => exact (pBq HB))
        (case aF => exact (fun k_ hk => Kd.fresh' (Kd.R_lt (pRq HO422)) k_ hk))
        (case aO => exact (pRq HO419))
        (case aS => exact (below_size (pBq HB)))
        (case aL => have := LMc29.out; omega)
        intro v424 w41 ho hb hg hat
        rw [← Ny423.out] at ho
        have HO425 := am (ho)
        replace BK408 := am (blk_grown (g := gb408) (o := .cells #[.int .i64 a0_0, .slice A0_1 l0_1.length c0_1] 26 (0, 0)) (pKq BK408) hg (Kd.R_ne HO419.out BK408.out zq27))
        replace BK409 := am (blk_grown (g := gb409) (o := .cells #[.int .i64 0, .slice none 0 0] 26 (0, 0)) (pKq BK409) hg (Kd.R_ne HO419.out BK409.out zq27))
        replace HO422 := am (Kd.R_after (ok := (fun _ => True)) zq84 hg hat)
        replace BK426 := am (blk_grown (g := gb426) (o := .cells #[.int .i64 0, .slice none 0 0] 26 (0, 0)) (pKq BK426) hg (Kd.R_ne HO419.out BK426.out zq27))
        replace HB := am (hb)
        clear HO419
        clear ho hb hg hat
        obtain ⟨Ao43, co43, eo43⟩ := Kd.R_slice HO425.out
        (first | subst eo43 | (injection eo43 with f1_ f2_ f3_; have f4_ := f1_.symm; have f5_ := f3_.symm; clear f1_ f2_ f3_; subst f4_; subst f5_))
        refine hK.out _ _ ⟨(blk_cell BK408.out 0).trans rfl, (blk_cell BK408.out 1).trans rfl⟩ (fun hHeld => ?_)
        clear hK K
        refine zN 38 ?_
        refine zU 10 39 HT_ ?_
        exact norm_ zq16 (hJ6_8_9_11 (v418, .slice Ao42 y420.length co42, .slice Ao43 y423.length co43, gb426) _ ⟨hHeld, zq44, (pRq HO425), (pKq BK408), (pKq BK409), (pKq BK426), GW426.out, GE426.out, NB408_426.out, NB426_408.out, NB409_426.out, NB426_409.out, (pBq HB)⟩)
      ·skip
       rintro ⟨v418, v421, v424⟩ w42 ⟨hS_, h0_, h1_, h2_, h3_, h4_⟩
       (try dsimp only at hS_ h0_ h1_ h2_ h3_ h4_)
       have HO422 := am h0_
       have HO425 := am h1_
       replace BK408 := am h2_
       replace BK409 := am h3_
       replace HB := am h4_
       clear h0_ h1_ h2_ h3_ h4_
       have hHeld := hS_
       obtain ⟨Ao43, co43, eo43⟩ := Kd.R_slice HO425.out
       (first | subst eo43 | (injection eo43 with f1_ f2_ f3_; have f4_ := f1_.symm; have f5_ := f3_.symm; clear f1_ f2_ f3_; subst f4_; subst f5_))
       refine norm_ (a' := ?_) ?_ ?_
       rotate_left
       ·simp only [putAll, Act.put, setIfInBounds_toArray, set_cons_zero, set_cons_succ]
        rfl
       refine zO 11 8 HT_ fun K hK => ?_
       refine box_step ?hg (N := 8) ?hd (cs := #[.int .i64 0, .slice none 0 0]) (t := 26) ?hr ?_; (case hd => rfl); (case hg => rfl); (case hr => exact zq30)
       intro gb426 hg w44 hbox hb
       have BK426 := am (hbox)
       have GW426 := am ((zq51 : w.heap.size ≤ gb426))
       have GE426 := am ((zq51 : w.heap.size ≤ gb426))
       have NB408_426 := am ((zq88 : gb408 ≠ gb426))
       have NB426_408 := am ((zq89 : gb426 ≠ gb408))
       have NB409_426 := am ((zq95 : gb409 ≠ gb426))
       have NB426_409 := am ((zq96 : gb426 ≠ gb409))
       replace HO422 := sR HO422 hb
       replace HO425 := sR HO425 hb
       replace BK408 := sK BK408 hb
       replace BK409 := sK BK409 hb
       replace HB := sB HB hb
       clear hb hbox hg
       refine hK.out _ _ ⟨(blk_cell BK408.out 0).trans rfl, (blk_cell BK408.out 1).trans rfl⟩ (fun hHeld => ?_)
       clear hK K
       refine zN 8 ?_
       exact norm_ zq16 (hJ6_8_9_11 (v418, v421, .slice Ao43 y423.length co43, gb426) _ ⟨hHeld, (pRq HO422), (pRq HO425), (pKq BK408), (pKq BK409), (pKq BK426), GW426.out, GE426.out, NB408_426.out, NB426_408.out, NB409_426.out, NB426_409.out, (pBq HB)⟩)
     rintro ⟨v418, v421, v424, gb426⟩ w43 ⟨hS_, h0_, h1_, h2_, h3_, h4_, h5_, h6_, h7_, h8_, h9_, h10_, h11_⟩
     (try dsimp only at hS_ h0_ h1_ h2_ h3_ h4_ h5_ h6_ h7_ h8_ h9_ h10_ h11_)
     have HO422 := am h0_
     have HO425 := am h1_
     replace BK408 := am h2_
     replace BK409 := am h3_
     have BK426 := am h4_
     have GW426 := am h5_
     have GE426 := am h6_
     have NB408_426 := am h7_
     have NB426_408 := am h8_
     have NB409_426 := am h9_
     have NB426_409 := am h10_
     replace HB := am h11_
     clear h0_ h1_ h2_ h3_ h4_ h5_ h6_ h7_ h8_ h9_ h10_ h11_
     have hHeld := hS_
     obtain ⟨Ao44, co44, eo44⟩ := Kd.R_slice HO425.out
     (first | subst eo44 | (injection eo44 with f1_ f2_ f3_; have f4_ := f1_.symm; have f5_ := f3_.symm; clear f1_ f2_ f3_; subst f4_; subst f5_))
     refine norm_ (a' := ?_) ?_ ?_
     rotate_left
     ·simp only [putAll, Act.put, setIfInBounds_toArray, set_cons_zero, set_cons_succ]
      rfl
     refine one_ (i := 12) (N := none) #[true, true, true, true, true, true, true, true, true, true, true, true, true] rfl rfl (one_of HT_.out zq15) zq27 (fun K hK => ?_)
     have hs45 : w43.cell? ⟨gb426, 0, none⟩ = some (.int .i64 0) := (blk_cell BK426.out 0).trans rfl
     have hfs45 := blk_frozen BK426.out 0
     have hns45_0 := NB408_426.out
     have hns45_1 := NB409_426.out
     have hms45_0 := NB426_408.out
     have hms45_1 := NB426_409.out
     have hs46 : w43.cell? ⟨gb426, 1, none⟩ = some (.slice none 0 0) := (blk_cell BK426.out 1).trans rfl
     have hfs46 := blk_frozen BK426.out 1
     have hns46_0 := NB408_426.out
     have hns46_1 := NB409_426.out
     have hms46_0 := NB426_408.out
     have hms46_1 := NB426_409.out
     refine skip_ (w1 := ?_) (by rfl) rfl ?_ ?_
     rotate_left
     ·go_simp
      rfl
     refine hK.out _ _ ⟨((cell_far (p := ⟨gb426, _, none⟩) NB408_426.out _).trans (((cell_far (p := ⟨gb426, _, none⟩) NB408_426.out _).trans (hHeld.1)))), ((cell_far (p := ⟨gb426, _, none⟩) NB408_426.out _).trans (((cell_far (p := ⟨gb426, _, none⟩) NB408_426.out _).trans (hHeld.2))))⟩ (fun hHeld => ?_)
     clear hK K
     refine done_ (done_of HT_.out zq15) ?_
     try go_wp2
     have n0_ : Aside0 (Kd.R (Kd.int .i64) 3 ((w43.setCell ⟨gb426, 0, none⟩ (.int .i64 a0_0)).setCell ⟨gb426, 1, none⟩ (.slice Ao44 y423.length co44)) w.heap.size (fun k_ => some k_ ≠ (.slice Ao44 y423.length co44 : Value).ownBlock) v421 y420) := ⟨by (with_reducible repeat (first | apply Kd.R_alloc | apply Kd.R_drewN | apply Kd.R_drew)); exact Kd.R_mono (Kd.R_far (p := ⟨gb426, 1, none⟩) (Kd.R_far (p := ⟨gb426, 0, none⟩) (Kd.R_types HO422.out BK426.out zq27) (fun _ hk => hk.2) (.int .i64 a0_0)) (fun _ hk => hk.2) (.slice Ao44 y423.length co44)) (fun _ hk => hk.1)⟩
     have n1_ : Aside0 (Kd.R (Kd.int .i64) 3 ((w43.setCell ⟨gb426, 0, none⟩ (.int .i64 a0_0)).setCell ⟨gb426, 1, none⟩ (.slice Ao44 y423.length co44)) w.heap.size (fun k_ => some k_ ≠ (v421 : Value).ownBlock) (.slice Ao44 y423.length co44) y423) := ⟨by (with_reducible repeat (first | apply Kd.R_alloc | apply Kd.R_drewN | apply Kd.R_drew)); exact Kd.R_mono (Kd.R_far (p := ⟨gb426, 1, none⟩) (Kd.R_far (p := ⟨gb426, 0, none⟩) (Kd.R_types HO425.out BK426.out zq27) (fun _ hk => hk.2) (.int .i64 a0_0)) (fun _ hk => hk.2) (.slice Ao44 y423.length co44)) (fun _ hk => hk.1)⟩
     have n2_ : Aside0 (((w43.setCell ⟨gb426, 0, none⟩ (.int .i64 a0_0)).setCell ⟨gb426, 1, none⟩ (.slice Ao44 y423.length co44)).heap[gb408]? = some (.cells #[.int .i64 a0_0, .slice A0_1 l0_1.length c0_1] 26 (0, 0))) := ⟨by (with_reducible repeat (first | refine blk_drewN ?_ _ | refine blk_drew ?_ | refine blk_alloc ?_ _)); refine blk_far ?_ NB408_426.out _; (with_reducible repeat (first | refine blk_drewN ?_ _ | refine blk_drew ?_ | refine blk_alloc ?_ _)); refine blk_far ?_ NB408_426.out _; (with_reducible repeat (first | refine blk_drewN ?_ _ | refine blk_drew ?_ | refine blk_alloc ?_ _)); exact BK408.out⟩
     have n3_ : Aside0 (((w43.setCell ⟨gb426, 0, none⟩ (.int .i64 a0_0)).setCell ⟨gb426, 1, none⟩ (.slice Ao44 y423.length co44)).heap[gb409]? = some (.cells #[.int .i64 0, .slice none 0 0] 26 (0, 0))) := ⟨by (with_reducible repeat (first | refine blk_drewN ?_ _ | refine blk_drew ?_ | refine blk_alloc ?_ _)); refine blk_far ?_ NB409_426.out _; (with_reducible repeat (first | refine blk_drewN ?_ _ | refine blk_drew ?_ | refine blk_alloc ?_ _)); refine blk_far ?_ NB409_426.out _; (with_reducible repeat (first | refine blk_drewN ?_ _ | refine blk_drew ?_ | refine blk_alloc ?_ _)); exact BK409.out⟩
     have n4_ : Aside0 (((w43.setCell ⟨gb426, 0, none⟩ (.int .i64 a0_0)).setCell ⟨gb426, 1, none⟩ (.slice Ao44 y423.length co44)).heap[gb426]? = some (.cells #[.int .i64 a0_0, .slice Ao44 y423.length co44] 26 (0, 0))) := ⟨by (with_reducible repeat (first | refine blk_drewN ?_ _ | refine blk_drew ?_ | refine blk_alloc ?_ _)); refine blk_put (cs := #[.int .i64 a0_0, .slice none 0 0]) ?_ 1 _ rfl; (with_reducible repeat (first | refine blk_drewN ?_ _ | refine blk_drew ?_ | refine blk_alloc ?_ _)); refine blk_put (cs := #[.int .i64 0, .slice none 0 0]) ?_ 0 _ rfl; (with_reducible repeat (first | refine blk_drewN ?_ _ | refine blk_drew ?_ | refine blk_alloc ?_ _)); exact BK426.out⟩
     have n5_ : Aside0 (Below w.heap.size w ((w43.setCell ⟨gb426, 0, none⟩ (.int .i64 a0_0)).setCell ⟨gb426, 1, none⟩ (.slice Ao44 y423.length co44))) := ⟨zq1⟩
     (try clear HO422)
     (try clear HO425)
     (try clear BK408)
     (try clear BK409)
     (try clear BK426)
     (try clear HB)
     generalize ((w43.setCell ⟨gb426, 0, none⟩ (.int .i64 a0_0)).setCell ⟨gb426, 1, none⟩ (.slice Ao44 y423.length co44)) = w47 at n0_ n1_ n2_ n3_ n4_ n5_ ⊢
     have HO422 := n0_
     have HO425 := n1_
     have BK408 := n2_
     have BK409 := n3_
     have BK426 := n4_
     have HB := n5_
     clear n0_ n1_ n2_ n3_ n4_ n5_
     replace HO422 := am (Kd.R_drew HO422.out)
     replace HO425 := am (Kd.R_drew HO425.out)
     replace BK408 := am (blk_drew BK408.out)
     replace BK409 := am (blk_drew BK409.out)
     replace BK426 := am (blk_drew BK426.out)
     replace HB := am (below_drew1 HB.out)
     have q49 : (a1 : Int) ≤ ((l0_1.length : Int) : Int) := of_decide_eq_true zq9
     obtain ⟨i049, hi049, _, hsz49, _⟩ := info_parts info3
     have hroom49 : l0_1.length ≤ c0_1 := HC0_1.out
     have hC49 : Kd.C (Kd.int .i64) _ A0_1 l0_1.length l0_1 := HR0_1.out
     have q049 : (0 : Int) ≤ (a1 : Int) := of_decide_eq_true zq9
     have hcut49 := cut_from (P := Tryz.prog) 24 3 .i64 Tryz.underlying24 hi049 1 hsz49 A0_1 l0_1.length c0_1 a1 q049 q49
     have hr49 := Kd.C_drop (m := (a1 : Int).toNat) (c := c0_1) hC49 zq32 hroom49
     obtain ⟨A49, hA49⟩ : ∃ A1, A1 = (if c0_1 = (a1 : Int).toNat then A0_1 else (A0_1 : Option Addr).map (·.add ((a1 : Int).toNat * 1))) := ⟨_, rfl⟩
     obtain ⟨c49, hc49⟩ : ∃ c1, c1 = c0_1 - (a1 : Int).toNat := ⟨_, rfl⟩
     have hy49 : y427.length = l0_1.length - (a1 : Int).toNat := (by rw [Ny427.out, List.length_drop] <;> omega)
     rw [show (l0_1).drop (a1 : Int).toNat = y427 from Ny427.out.symm] at hr49
     replace hr49 : Kd.C (Kd.int .i64) _ A49 y427.length y427 := (by rw [hA49]; exact hr49)
     rw [← hy49, ← hA49, ← hc49] at hcut49
     have HR430 := am hr49
     have HC430 := am (show y427.length ≤ c49 from by rw [hy49, hc49]; exact Nat.sub_le_sub_right hroom49 _)
     clear hr49 hC49 hroom49 hi049 hsz49 hc49
     have KY49 := am hy49
     have KA49 := am hA49
     clear hy49 hA49
     replace q49 := eq_true q49
     refine start_ (n := 9) (S := fun w' => w'.cell? ⟨gb426, 0, none⟩ = some (.int .i64 a0_0) ∧ w'.cell? ⟨gb426, 1, none⟩ = some (.slice Ao44 y423.length co44) ∧ w'.cell? ⟨gb408, 0, none⟩ = some (.int .i64 a0_0) ∧ w'.cell? ⟨gb408, 1, none⟩ = some (.slice A0_1 l0_1.length c0_1)) (ds := [8]) #[false, false, false, false, false, false, false, false, false] zq15 rfl rfl ⟨(blk_cell BK426.out 0).trans rfl, (blk_cell BK426.out 1).trans rfl, (blk_cell BK408.out 0).trans rfl, (blk_cell BK408.out 1).trans rfl⟩ (fun hHeld => ?_); refine with_tabW spec_AddRung.tab4 spec_AddRung.bits4 (fun HT_ HW_ => ?_)
     generalize w47.drew = w48 at HO422 HO425 BK408 BK409 BK426 HB HR430 hHeld ⊢
     refine zU 0 40 HT_ ?_
     refine zU 2 42 HT_ ?_
     refine zU 4 44 HT_ ?_
     refine zT 1 41 HT_ HW_ hHeld ?_
     refine zT 3 43 HT_ HW_ hHeld ?_
     refine zU 5 45 HT_ ?_
     refine zO 6 46 HT_ fun K hK => ?_
     refine Kd.R_append_rows_step (Kd.int .i64) (w0 := w) w.heap.size (by rfl) (.tmp 41) (.tmp 45) 24 3 (.int .i64 0) 8 rfl Tryz.underlying24 info3 rfl zq27 zq32 (.slice Ao44 y423.length co44) y423 y427 _ _ _ (fun k_ => some k_ ≠ (v421 : Value).ownBlock) (fun _ => False) rfl rfl ?aO ?aR (fun _ _ h => h) (fun _ h => h.elim) ?aF ?aB ?aS ?aL ?_
     (case aR => repeat (first | exact (Kd.C_below HR430.out HB.out) | (with_reducible refine Kd.C_alloc ?_ _) | (with_reducible refine Kd.C_drewN ?_ _) | (with_reducible refine Kd.C_drew ?_)))
     (case aB => exact (pBq HB))
     (case aF => exact (fun k_ hk => Kd.fresh' (Kd.R_lt (pRq HO422)) k_ hk))
     (case aO => exact (pRq HO425))
     (case aS => exact (below_size (pBq HB)))
     (case aL => have := LMc32.out; omega)
     intro v432 w50 ho hb hg hat
     rw [← Ny431.out] at ho
     have HO433 := am (ho)
     replace BK408 := am (blk_grown (g := gb408) (o := .cells #[.int .i64 a0_0, .slice A0_1 l0_1.length c0_1] 26 (0, 0)) (pKq BK408) hg (Kd.R_ne HO425.out BK408.out zq27))
     replace BK409 := am (blk_grown (g := gb409) (o := .cells #[.int .i64 0, .slice none 0 0] 26 (0, 0)) (pKq BK409) hg (Kd.R_ne HO425.out BK409.out zq27))
     replace HO422 := am (Kd.R_after (ok := (fun _ => True)) zq84 hg hat)
     replace BK426 := am (blk_grown (g := gb426) (o := .cells #[.int .i64 a0_0, .slice Ao44 y423.length co44] 26 (0, 0)) (pKq BK426) hg (Kd.R_ne HO425.out BK426.out zq27))
     replace HB := am (hb)
     clear HO425
     clear ho hb hg hat
     obtain ⟨Ao51, co51, eo51⟩ := Kd.R_slice HO433.out
     (first | subst eo51 | (injection eo51 with f1_ f2_ f3_; have f4_ := f1_.symm; have f5_ := f3_.symm; clear f1_ f2_ f3_; subst f4_; subst f5_))
     refine hK.out _ _ ⟨(blk_cell BK426.out 0).trans rfl, (blk_cell BK426.out 1).trans rfl, (blk_cell BK408.out 0).trans rfl, (blk_cell BK408.out 1).trans rfl⟩ (fun hHeld => ?_)
     clear hK K
     refine zN 46 ?_
     refine zU 7 47 HT_ ?_
     refine last_ (i := 8) (N := none) #[true, true, true, true, true, true, true, true, true] rfl rfl (one_of HT_.out zq15) zq27 (fun K hK => ?_)
     have hs52 : w50.cell? ⟨gb426, 1, none⟩ = some (.slice Ao44 y423.length co44) := (blk_cell BK426.out 1).trans rfl
     have hfs52 := blk_frozen BK426.out 1
     have hns52_0 := NB408_426.out
     have hns52_1 := NB409_426.out
     have hms52_0 := NB426_408.out
     have hms52_1 := NB426_409.out
     refine skip_ (w1 := ?_) (by rfl) rfl ?_ ?_
     rotate_left
     ·go_simp
      rfl
     refine hK.out _ _ ?_
     clear hK K
     refine done_ (done_of HT_.out zq15) ?_
     have n0_ : Aside0 (Kd.R (Kd.int .i64) 3 (w50.setCell ⟨gb426, 1, none⟩ (.slice Ao51 y431.length co51)) w.heap.size (fun k_ => some k_ ≠ (.slice Ao51 y431.length co51 : Value).ownBlock) v421 y420) := ⟨by (with_reducible repeat (first | apply Kd.R_alloc | apply Kd.R_drewN | apply Kd.R_drew)); exact Kd.R_mono (Kd.R_far (p := ⟨gb426, 1, none⟩) (Kd.R_types HO422.out BK426.out zq27) (fun _ hk => hk.2) (.slice Ao51 y431.length co51)) (fun _ hk => hk.1.2)⟩
     have n1_ : Aside0 (Kd.R (Kd.int .i64) 3 (w50.setCell ⟨gb426, 1, none⟩ (.slice Ao51 y431.length co51)) w.heap.size (fun k_ => some k_ ≠ (v421 : Value).ownBlock) (.slice Ao51 y431.length co51) y431) := ⟨by (with_reducible repeat (first | apply Kd.R_alloc | apply Kd.R_drewN | apply Kd.R_drew)); exact Kd.R_mono (Kd.R_far (p := ⟨gb426, 1, none⟩) (Kd.R_types HO433.out BK426.out zq27) (fun _ hk => hk.2) (.slice Ao51 y431.length co51)) (fun _ hk => hk.1)⟩
     have n2_ : Aside0 ((w50.setCell ⟨gb426, 1, none⟩ (.slice Ao51 y431.length co51)).heap[gb408]? = some (.cells #[.int .i64 a0_0, .slice A0_1 l0_1.length c0_1] 26 (0, 0))) := ⟨by (with_reducible repeat (first | refine blk_drewN ?_ _ | refine blk_drew ?_ | refine blk_alloc ?_ _)); refine blk_far ?_ NB408_426.out _; (with_reducible repeat (first | refine blk_drewN ?_ _ | refine blk_drew ?_ | refine blk_alloc ?_ _)); exact BK408.out⟩
     have n3_ : Aside0 ((w50.setCell ⟨gb426, 1, none⟩ (.slice Ao51 y431.length co51)).heap[gb409]? = some (.cells #[.int .i64 0, .slice none 0 0] 26 (0, 0))) := ⟨by (with_reducible repeat (first | refine blk_drewN ?_ _ | refine blk_drew ?_ | refine blk_alloc ?_ _)); refine blk_far ?_ NB409_426.out _; (with_reducible repeat (first | refine blk_drewN ?_ _ | refine blk_drew ?_ | refine blk_alloc ?_ _)); exact BK409.out⟩
     have n4_ : Aside0 ((w50.setCell ⟨gb426, 1, none⟩ (.slice Ao51 y431.length co51)).heap[gb426]? = some (.cells #[.int .i64 a0_0, .slice Ao51 y431.length co51] 26 (0, 0))) := ⟨by (with_reducible repeat (first | refine blk_drewN ?_ _ | refine blk_drew ?_ | refine blk_alloc ?_ _)); refine blk_put (cs := #[.int .i64 a0_0, .slice Ao44 y423.length co44]) ?_ 1 _ rfl; (with_reducible repeat (first | refine blk_drewN ?_ _ | refine blk_drew ?_ | refine blk_alloc ?_ _)); exact BK426.out⟩
     have n5_ : Aside0 (Below w.heap.size w (w50.setCell ⟨gb426, 1, none⟩ (.slice Ao51 y431.length co51))) := ⟨zq1⟩
     (try clear HO422)
     (try clear HO433)
     (try clear BK408)
     (try clear BK409)
     (try clear BK426)
     (try clear HB)
     generalize (w50.setCell ⟨gb426, 1, none⟩ (.slice Ao51 y431.length co51)) = w53 at n0_ n1_ n2_ n3_ n4_ n5_ ⊢
     have HO422 := n0_
     have HO433 := n1_
     have BK408 := n2_
     have BK409 := n3_
     have BK426 := n4_
     have HB := n5_
     clear n0_ n1_ n2_ n3_ n4_ n5_
     have hnb54 := NB426_408.out
     have hnc54 := NB408_426.out
     have hnb55 := NB426_409.out
     have hnc55 := NB409_426.out
     obtain ⟨hcz56_0, hcz56_1, hfz56_0, hfz56_1⟩ := sC BK426
     try go_wp2_with (first | ((with_reducible refine gate_callee (f := 75) rfl ?_); refine goesL_ (some 49) rfl rfl Tryz.func75 zq15 rfl #[.agg #[.int .i64 a0_0, .slice Ao51 y431.length co51]] rfl zq0 ?_; (with_reducible refine (spec_laIf.calls kj3 a0_0 (fun k_ => some k_ = (.slice Ao51 y431.length co51 : Value).ownBlock) (.slice Ao51 y431.length co51) y431 t434 t435 t438 w _ ?side1 ?side2 A33.out).mono ?_); (case side1 => exact zq1); (case side2 => exact Kd.R_tight rfl HO433.out); rintro e w57 ⟨v436, rfl, ho0, hb, hkp⟩; refine ⟨_, rfl, ?_⟩; have HO437 := am (Kd.R_mono (ok' := fun k_ => some k_ ≠ (v421 : Value).ownBlock) ho0 (fun k_ hk_ => Or.elim hk_ (fun hs_ => fun e_ => (((HO422.out).1 k_ e_.symm)) hs_) (fun hn_ => (Kd.fresh' (Kd.R_lt (pRq HO422)) k_ hn_)))); replace BK408 := am (blk_kept (pKq BK408) hkp (fun hs_ => (fun e_ => (Kd.R_ne HO433.out BK408.out zq27) e_) hs_)); replace BK409 := am (blk_kept (pKq BK409) hkp (fun hs_ => (fun e_ => (Kd.R_ne HO433.out BK409.out zq27) e_) hs_)); replace HO422 := am (Kd.R_mono (ok' := fun k_ => some k_ ≠ (v436 : Value).ownBlock) (Kd.R_keptB (HO422.out) hkp (fun k_ hk_ hs_ => (hk_) hs_)) (fun k_ hk_ => fun e_ => Or.elim (ho0.1 k_ e_.symm) (fun hs_ => hk_.2.1 hs_) (fun hn_ => Nat.not_le.2 hk_.2.2 hn_))); replace BK426 := am (blk_kept (pKq BK426) hkp (fun hs_ => (fun e_ => (Kd.R_ne HO433.out BK426.out zq27) e_) hs_)); replace HB := am (hb); clear HO433; (try clear hb hkp ho0); have hnb58 := NB409_408.out; have hnc58 := NB408_409.out; obtain ⟨hcz59_0, hcz59_1, hfz59_0, hfz59_1⟩ := sC BK409; obtain ⟨Ao60, co60, eo60⟩ := Kd.R_slice HO437.out; subst eo60))
     refine bodyPost_ret (results_ct rfl _ _ gb409 26 #[.int .i64 t434, .slice Ao60 t435.length co60] (0, 0) _ rfl (by (with_reducible repeat (first | refine blk_drewN ?_ _ | refine blk_drew ?_ | refine blk_alloc ?_ _)); refine blk_put (cs := #[.int .i64 t434, .slice none 0 0]) ?_ 1 _ rfl; (with_reducible repeat (first | refine blk_drewN ?_ _ | refine blk_drew ?_ | refine blk_alloc ?_ _)); refine blk_put (cs := #[.int .i64 0, .slice none 0 0]) ?_ 0 _ rfl; (with_reducible repeat (first | refine blk_drewN ?_ _ | refine blk_drew ?_ | refine blk_alloc ?_ _)); exact BK409.out) Tryz.underlying26 rfl zq15) rfl ?_
     exact ⟨_, zq6, by (with_reducible repeat (first | apply Kd.R_alloc | apply Kd.R_drewN | apply Kd.R_drew)); exact Kd.R_mono (Kd.R_far (p := ⟨gb409, 1, none⟩) (Kd.R_far (p := ⟨gb409, 0, none⟩) (Kd.R_types HO437.out BK409.out zq27) (fun _ hk => hk.2) (.int .i64 t434)) (fun _ hk => hk.2) (.slice Ao60 t435.length co60)) (fun _ hk => trivial), zq1⟩
    ·rw [if_neg c26] at H
     exact absurd H zq42
/-! ### spec_DrawTakeRung: function 23 -/
def spec_DrawTakeRung.f (k : Nat) (l0 : List Int) : Option (Int × List Int × Int) := (spec_l1Cur_ladder.f k l0 0 0).bind fun bt441 => ((spec_l1Cur_pick.f l0 bt441.2.2.1 bt441.2.2.2 9).bind fun bt447 => ((spec_l1Cur_pick.f l0 bt447.2.1 bt447.2.2 9).bind fun bt450 => (some (bt441.1, bt441.2.1, wrap64 (bt447.1 - (wrap64 (Int.tdiv bt450.1 8)))))))
theorem spec_DrawTakeRung.mono : ∀ a0 k, LeO (spec_DrawTakeRung.f k a0) (spec_DrawTakeRung.f (k + 1) a0) := by
 intro a0 k
 unfold spec_DrawTakeRung.f
 repeat' first | (with_reducible first | exact spec_l1Cur_ladder.mono _ _ _ _ | exact LeO.refl _ | exact LeO.none _ | refine LeO.ite ?_ ?_ | refine LeO.bind ?_ (fun _ => ?_))
theorem spec_DrawTakeRung.calls (k : Nat) (A0 : Option Addr) (c0 : Nat) (l0 : List Int) (r1 : Int) (r2 : List Int) (r3 : Int) (w : World) (hr0 : Kd.C (Kd.int .u8) w A0 l0.length l0) (hc0 : l0.length ≤ c0) (h : spec_DrawTakeRung.f k l0 = some (r1, r2, r3)) :
  Calls Tryz.prog 23 #[.slice A0 l0.length c0] w fun e w' => ∃ v1_ : Value, e = .returned (.tuple #[.agg #[.int .i64 r1, v1_], .int .i64 r3]) ∧ Kd.R (Kd.int .i64) 3 w' w.heap.size (fun _ => True) v1_ r2 ∧ Below w.heap.size w w' := by
 have hu26 := Tryz.underlying26
 have hu76 := Tryz.underlying76
 have HR0 := am hr0
 have HC0 := am hc0
 clear hr0 hc0
 have HB := am (Below.refl w.heap.size w)
 unfold spec_DrawTakeRung.f at h
 have H := h
 clear h
 replace H := Option.bind_eq_some_iff.mp H
 obtain ⟨⟨t441, t442, t445, t446⟩, A20, H⟩ := H
 (try dsimp only at H)
 have A2 := am A20
 clear A20
 replace H := Option.bind_eq_some_iff.mp H
 obtain ⟨⟨t447, t448, t449⟩, A30, H⟩ := H
 (try dsimp only at H)
 have A3 := am A30
 clear A30
 replace H := Option.bind_eq_some_iff.mp H
 obtain ⟨⟨t450, t451, t452⟩, A40, H⟩ := H
 (try dsimp only at H)
 have A4 := am A40
 clear A40
 simp only [Option.some.injEq, Prod.mk.injEq] at H
 obtain ⟨rfl, rfl, rfl⟩ := H
 go_enter Tryz.func23, Tryz.ntmps23
 go_wp2_with (first | ((with_reducible refine gate_dst (N := 2) rfl ?_); refine zE 2 (cs := #[.int .i64 0, .slice none 0 0]) 26 ?_; intro gb439 hg w5 hbox hb; have BK439 := am (hbox); have GW439 := am ((zq51 : w.heap.size ≤ gb439)); replace HB := sB HB hb; clear hb hbox hg) | ((with_reducible refine gate_dst (N := 7) rfl ?_); refine zE 7 (cs := #[.slice A0 l0.length c0, .int .i64 0, .int .u64 0]) 76 ?_; intro gb440 hg w6 hbox hb; have BK440 := am (hbox); have GW440 := am ((zq51 : w.heap.size ≤ gb440)); have NB439_440 := am ((by rw [hg]; exact Nat.ne_of_lt (blk_lt (pKq BK439)) : gb439 ≠ gb440)); have NB440_439 := am ((by rw [hg]; exact Nat.ne_of_gt (blk_lt (pKq BK439)) : gb440 ≠ gb439)); replace BK439 := sK BK439 hb; replace HB := sB HB hb; clear hb hbox hg) | ((with_reducible refine gate_callee (f := 69) rfl ?_); refine goesL_ (some 9) rfl rfl Tryz.func69 zq15 rfl #[.pointer (some ⟨gb440, 0, none⟩)] rfl zq0 ?_; (with_reducible refine (spec_l1Cur_ladder.calls k gb440 l0 0 0 t441 t442 t445 t446 w _ ?side1 ?side2 A2.out).mono ?_); (case side1 => unfold IsS76; exact ⟨_, _, (pKq BK440), GW440.out, HR0.out⟩); (case side2 => exact zq1); rintro e w7 ⟨v443, rfl, ho0, hi, hb, hk⟩; refine ⟨_, rfl, ?_⟩; have HO444 := am (Kd.R_lower ho0 (below_size (pBq HB))); replace BK439 := am (KeepBut.blk hk (g' := gb439) (o := .cells #[.int .i64 0, .slice none 0 0] 26 (0, 0)) (pKq BK439) NB439_440.out zq42); replace HB := am (hb); replace BK440 := am (hi); (try clear hb hk hi ho0)) | ((with_reducible refine gate_callee (f := 70) rfl ?_); refine goesL_ (some 11) rfl rfl Tryz.func70 zq15 rfl #[.pointer (some ⟨gb440, 0, none⟩), .int .i64 9] rfl zq0 ?_; (with_reducible refine (spec_l1Cur_pick.calls gb440 l0 t445 t446 9 t447 t448 t449 w _ ?side1 ?side2 A3.out).mono ?_); (case side1 => exact zq45); (case side2 => exact zq65); rintro e w8 ⟨rfl, hi, hb, hk⟩; refine ⟨_, rfl, ?_⟩; replace BK439 := am (KeepBut.blk hk (g' := gb439) (o := .cells #[.int .i64 0, .slice none 0 0] 26 (0, 0)) (pKq BK439) NB439_440.out zq42); replace HO444 := am (Kd.R_mono (Kd.R_keep (IsS76.apart (show IsS76 w _ gb440 l0 t445 t446 from zq45) (pRq HO444) zq27) hk (fun _ h => h.2)) (fun _ h => h.1)); replace HB := am (hb); replace BK440 := am (hi); (try clear hb hk hi)) | ((with_reducible refine gate_callee (f := 70) rfl ?_); refine goesL_ (some 13) rfl rfl Tryz.func70 zq15 rfl #[.pointer (some ⟨gb440, 0, none⟩), .int .i64 9] rfl zq0 ?_; (with_reducible refine (spec_l1Cur_pick.calls gb440 l0 t448 t449 9 t450 t451 t452 w _ ?side1 ?side2 A4.out).mono ?_); (case side1 => exact zq45); (case side2 => exact zq65); rintro e w9 ⟨rfl, hi, hb, hk⟩; refine ⟨_, rfl, ?_⟩; replace BK439 := am (KeepBut.blk hk (g' := gb439) (o := .cells #[.int .i64 0, .slice none 0 0] 26 (0, 0)) (pKq BK439) NB439_440.out zq42); replace HO444 := am (Kd.R_mono (Kd.R_keep (IsS76.apart (show IsS76 w _ gb440 l0 t448 t449 from zq45) (pRq HO444) zq27) hk (fun _ h => h.2)) (fun _ h => h.1)); replace HB := am (hb); replace BK440 := am (hi); (try clear hb hk hi); have hnb10 := NB439_440.out; have hnc10 := NB440_439.out; obtain ⟨hcz11_0, hcz11_1, hfz11_0, hfz11_1⟩ := sC BK439; obtain ⟨Ao12, co12, eo12⟩ := Kd.R_slice HO444.out; subst eo12))
 refine bodyPost_ret (results_ct rfl _ _ gb439 26 #[.int .i64 t441, .slice Ao12 t442.length co12] (0, 0) _ rfl (by (with_reducible repeat (first | refine blk_drewN ?_ _ | refine blk_drew ?_ | refine blk_alloc ?_ _)); refine blk_put (cs := #[.int .i64 t441, .slice none 0 0]) ?_ 1 _ rfl; (with_reducible repeat (first | refine blk_drewN ?_ _ | refine blk_drew ?_ | refine blk_alloc ?_ _)); refine blk_put (cs := #[.int .i64 0, .slice none 0 0]) ?_ 0 _ rfl; (with_reducible repeat (first | refine blk_drewN ?_ _ | refine blk_drew ?_ | refine blk_alloc ?_ _)); exact BK439.out) Tryz.underlying26 rfl zq15) rfl ?_
 exact ⟨_, zq6, by (with_reducible repeat (first | apply Kd.R_alloc | apply Kd.R_drewN | apply Kd.R_drew)); exact Kd.R_mono (Kd.R_far (p := ⟨gb439, 1, none⟩) (Kd.R_far (p := ⟨gb439, 0, none⟩) (Kd.R_types HO444.out BK439.out zq27) (fun _ hk => hk.2) (.int .i64 t441)) (fun _ hk => hk.2) (.slice Ao12 t442.length co12)) (fun _ hk => trivial), zq65⟩
end
end Go.Proofs.YtlmiiijjjcddkaaGreatDoor.PLg
