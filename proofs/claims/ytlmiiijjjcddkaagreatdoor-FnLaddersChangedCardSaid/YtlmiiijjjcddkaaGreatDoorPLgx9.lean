-- Written for this claim by a program of this session (myprint.py) over the kit's printer.
import Derived.Test.YtlmiiijjjcddkaaGreatDoorPLgx0
import Derived.Test.YtlmiiijjjcddkaaGreatDoorPLgx1
import Derived.Test.YtlmiiijjjcddkaaGreatDoorPLgx2
import Derived.Test.YtlmiiijjjcddkaaGreatDoorPLgx3
import Derived.Test.YtlmiiijjjcddkaaGreatDoorPLgx7
namespace Go.Proofs.YtlmiiijjjcddkaaGreatDoor.PLg
noncomputable section
open Go.RowKit Go.Proofs.YtlmiiijjjcddkaaGreatDoorW.PrintWords Go.Proofs.YtlmiiijjjcddkaaGreatDoorW.PrintLast Go.Proofs.YtlmiiijjjcddkaaGreatDoorW.PrintMore
attribute [local go_sem] max2_int min2_int max_two min_two max_three min_three max_four min_four   -- for this text's walks alone
open List (setIfInBounds_toArray set_cons_zero set_cons_succ)
set_option maxHeartbeats 8000000
set_option maxRecDepth 100000
set_option linter.unusedVariables false
set_option linter.unusedSimpArgs false
/-! ### spec_l1Cur_spoilt: function 82 -/
mutual
def spec_l1Cur_spoilt.l0 : Nat → ByteArray → ByteArray → Int → List Int → Int → Int → Option (ByteArray × Int × Int)
 | 0, _, _, _, _, _, _ => none
 | k + 1, x1, x2, x7, x1000, x1001, x1002 => if x7 > 0 then (spec_l1Cur_spoilt.j1 k x1 x2 x7 (decide ((x1.size : Int) > 0)) x1000 x1001 x1002) else (spec_l1Cur_spoilt.j1 k x1 x2 x7 false x1000 x1001 x1002)
def spec_l1Cur_spoilt.j1 : Nat → ByteArray → ByteArray → Int → Bool → List Int → Int → Int → Option (ByteArray × Int × Int)
 | 0, _, _, _, _, _, _, _ => none
 | k + 1, x1, x2, x7, x19, x1000, x1001, x1002 => if x19 = true then ((spec_l1Cur_pick.f x1000 x1001 x1002 (x1.size : Int)).bind fun bt547 => ((spec_l1Cur_pick.f x1000 bt547.2.1 bt547.2.2 (x2.size : Int)).bind fun bt550 => (if 0 ≤ bt550.1 then (if bt550.1 < (x2.size : Int) then ((some (([bt x2 bt550.1] : List Int) : List Int)).bind fun y553 => ((spec_l1Cur_pick.f x1000 bt550.2.1 bt550.2.2 3).bind fun bt556 => (if bt556.1 = 0 then (if 0 ≤ bt547.1 then (if bt547.1 ≤ (x1.size : Int) then (if (x1.extract 0 (bt547.1 : Int).toNat).size + (strOfNums y553).size ≤ 9223372036854775807 then (if ((x1.extract 0 (bt547.1 : Int).toNat) ++ (strOfNums y553)).size + (x1.extract (bt547.1 : Int).toNat x1.size).size ≤ 9223372036854775807 then (spec_l1Cur_spoilt.l0 k (((x1.extract 0 (bt547.1 : Int).toNat) ++ (strOfNums y553)) ++ (x1.extract (bt547.1 : Int).toNat x1.size)) x2 (wrap64 (x7 - 1)) x1000 bt556.2.1 bt556.2.2) else (none)) else (none)) else (none)) else (none)) else (if bt556.1 = 1 then (if 0 ≤ bt547.1 then (if bt547.1 ≤ (x1.size : Int) then (if (x1.extract 0 (bt547.1 : Int).toNat).size + (strOfNums y553).size ≤ 9223372036854775807 then (if 0 ≤ (wrap64 (bt547.1 + 1)) then (if (wrap64 (bt547.1 + 1)) ≤ (x1.size : Int) then (if ((x1.extract 0 (bt547.1 : Int).toNat) ++ (strOfNums y553)).size + (x1.extract ((wrap64 (bt547.1 + 1)) : Int).toNat x1.size).size ≤ 9223372036854775807 then (spec_l1Cur_spoilt.l0 k (((x1.extract 0 (bt547.1 : Int).toNat) ++ (strOfNums y553)) ++ (x1.extract ((wrap64 (bt547.1 + 1)) : Int).toNat x1.size)) x2 (wrap64 (x7 - 1)) x1000 bt556.2.1 bt556.2.2) else (none)) else (none)) else (none)) else (none)) else (none)) else (none)) else (if 0 ≤ bt547.1 then (if bt547.1 ≤ (x1.size : Int) then (if 0 ≤ (wrap64 (bt547.1 + 1)) then (if (wrap64 (bt547.1 + 1)) ≤ (x1.size : Int) then (if (x1.extract 0 (bt547.1 : Int).toNat).size + (x1.extract ((wrap64 (bt547.1 + 1)) : Int).toNat x1.size).size ≤ 9223372036854775807 then (spec_l1Cur_spoilt.l0 k ((x1.extract 0 (bt547.1 : Int).toNat) ++ (x1.extract ((wrap64 (bt547.1 + 1)) : Int).toNat x1.size)) x2 (wrap64 (x7 - 1)) x1000 bt556.2.1 bt556.2.2) else (none)) else (none)) else (none)) else (none)) else (none)))))) else (none)) else (none)))) else (some (x1, x1001, x1002))
end
def spec_l1Cur_spoilt.f (k : Nat) (s0_0 : List Int) (s0_1 : Int) (s0_2 : Int) (a1 : ByteArray) (a2 : ByteArray) : Option (ByteArray × Int × Int) := (spec_l1Cur_pick.f s0_0 s0_1 s0_2 2).bind fun bt544 => (spec_l1Cur_spoilt.l0 k a1 a2 (wrap64 (1 + bt544.1)) s0_0 bt544.2.1 bt544.2.2)
theorem spec_l1Cur_spoilt.mono_l : ∀ k, (∀ y0 y1 y2 y3 y4 y5, LeO (spec_l1Cur_spoilt.l0 k y0 y1 y2 y3 y4 y5) (spec_l1Cur_spoilt.l0 (k + 1) y0 y1 y2 y3 y4 y5)) ∧ (∀ y0 y1 y2 y3 y4 y5 y6, LeO (spec_l1Cur_spoilt.j1 k y0 y1 y2 y3 y4 y5 y6) (spec_l1Cur_spoilt.j1 (k + 1) y0 y1 y2 y3 y4 y5 y6))
 | 0 => ⟨fun _ _ _ _ _ _ r h => by simp [spec_l1Cur_spoilt.l0] at h, fun _ _ _ _ _ _ _ r h => by simp [spec_l1Cur_spoilt.j1] at h⟩
 | k + 1 => by
  obtain ⟨ih0, ih1⟩ := spec_l1Cur_spoilt.mono_l k
  refine ⟨?_, ?_⟩
  ·intro y0 y1 y2 y3 y4 y5
   unfold spec_l1Cur_spoilt.l0
   repeat' first | (with_reducible first | exact ih0 _ _ _ _ _ _ | exact ih1 _ _ _ _ _ _ _ | exact LeO.refl _ | exact LeO.none _ | refine LeO.ite ?_ ?_ | refine LeO.bind ?_ (fun _ => ?_))
  ·intro y0 y1 y2 y3 y4 y5 y6
   unfold spec_l1Cur_spoilt.j1
   repeat' first | (with_reducible first | exact ih0 _ _ _ _ _ _ | exact ih1 _ _ _ _ _ _ _ | exact LeO.refl _ | exact LeO.none _ | refine LeO.ite ?_ ?_ | refine LeO.bind ?_ (fun _ => ?_))
theorem spec_l1Cur_spoilt.mono : ∀ a0 a1 a2 a3 a4 k, LeO (spec_l1Cur_spoilt.f k a0 a1 a2 a3 a4) (spec_l1Cur_spoilt.f (k + 1) a0 a1 a2 a3 a4) := by
 intro a0 a1 a2 a3 a4 k
 obtain ⟨ih0, ih1⟩ := spec_l1Cur_spoilt.mono_l k
 unfold spec_l1Cur_spoilt.f
 repeat' first | (with_reducible first | exact ih0 _ _ _ _ _ _ | exact ih1 _ _ _ _ _ _ _ | exact LeO.refl _ | exact LeO.none _ | refine LeO.ite ?_ ?_ | refine LeO.bind ?_ (fun _ => ?_))
theorem spec_l1Cur_spoilt.calls (k : Nat) (g : Nat) (s0_0 : List Int) (s0_1 : Int) (s0_2 : Int) (a1 : ByteArray) (a2 : ByteArray) (r1 : ByteArray) (r2 : Int) (r3 : Int) (w0 w : World) (hI : IsS76 w0 w g s0_0 s0_1 s0_2) (hB : Below w0.heap.size w0 w) (h : spec_l1Cur_spoilt.f k s0_0 s0_1 s0_2 a1 a2 = some (r1, r2, r3)) :
  Calls Tryz.prog 82 #[.pointer (some ⟨g, 0, none⟩), .string a1, .string a2] w fun e w' => e = .returned (.string r1) ∧ IsS76 w0 w' g s0_0 r2 r3 ∧ Below w0.heap.size w0 w' ∧ KeepBut w w' g none := by
 have HI0 := am hI
 have HK := am (KeepBut.refl w g none)
 have HL := am hB.size
 clear hI
 have HW0 := am hB.size
 have HB := am hB
 clear hB
 unfold spec_l1Cur_spoilt.f at h
 have H := h
 clear h
 replace H := Option.bind_eq_some_iff.mp H
 obtain ⟨⟨t544, t545, t546⟩, A40, H⟩ := H
 (try dsimp only at H)
 have A4 := am A40
 clear A40
 have H' := am H
 clear H
 go_enter Tryz.func82, Tryz.ntmps82
 go_wp2_with (first | (go_at_call 70; (with_reducible refine (spec_l1Cur_pick.calls g s0_0 s0_1 s0_2 2 t544 t545 t546 w0 _ ?side1 ?side2 A4.out).mono ?_); (case side1 => exact zq2); (case side2 => exact zq5); rintro e w5 ⟨rfl, hi, hb, hk⟩; replace HK := am (KeepBut.trans zq3 hk (.inl rfl)); replace HB := am (hb); replace HI0 := am (hi); (try clear hb hk hi)))
 repeat (go_quiet (first | (go_at_call 70; (with_reducible refine (spec_l1Cur_pick.calls g s0_0 s0_1 s0_2 2 t544 t545 t546 w0 _ ?side1 ?side2 A4.out).mono ?_); (case side1 => exact zq2); (case side2 => exact zq5); rintro e w5 ⟨rfl, hi, hb, hk⟩; replace HK := am (KeepBut.trans zq3 hk (.inl rfl)); replace HB := am (hb); replace HI0 := am (hi); (try clear hb hk hi))); try go_wp2_with (first | (go_at_call 70; (with_reducible refine (spec_l1Cur_pick.calls g s0_0 s0_1 s0_2 2 t544 t545 t546 w0 _ ?side1 ?side2 A4.out).mono ?_); (case side1 => exact zq2); (case side2 => exact zq5); rintro e w5 ⟨rfl, hi, hb, hk⟩; replace HK := am (KeepBut.trans zq3 hk (.inl rfl)); replace HB := am (hb); replace HI0 := am (hi); (try clear hb hk hi))))
 go_loopg [1, 7] k (fun kq v1 v7 w' => ∃ (x1_1 : ByteArray) (x7_1 : Int) (x1001_1 : Int) (x1002_1 : Int), v1 = .string x1_1 ∧ v7 = .int .i64 x7_1 ∧ Aside0 (spec_l1Cur_spoilt.l0 kq x1_1 a2 x7_1 s0_0 x1001_1 x1002_1 = some (r1, r2, r3)) ∧ Aside0 (kq ≤ k) ∧ Aside0 (IsS76 w0 w' g s0_0 x1001_1 x1002_1) ∧ Aside0 (KeepBut w w' g none) ∧ Aside0 (Below w0.heap.size w0 w'))
 case atStart => exact ⟨(a1), (wrap64 (1 + t544)), (t545), (t546), zq10, zq10, H', ⟨Nat.le_refl _⟩, ⟨zq2⟩, ⟨zq3⟩, ⟨zq5⟩⟩
 case round =>
  clear H'
  obtain ⟨x1_1, x7_1, x1001_1, x1002_1, rfl, rfl, HA, HK1, HI0, HK, HB⟩ := hrel
  cases gk with
  | zero => exact absurd HA.out (by simp [spec_l1Cur_spoilt.l0])
  | succ k1 =>
   have H := HA.out
   clear HA
   simp only [spec_l1Cur_spoilt.l0] at H
   have HC6 := am H
   clear H
   go_upto_region 2 with (fail)
   repeat (go_quiet (fail); go_upto_region 2 with (fail))
   go_cut [19] (fun v19 wc => ∃ (kq : Nat) (x19_5 : Bool), v19 = .bool x19_5 ∧ Aside0 (spec_l1Cur_spoilt.j1 kq x1_1 a2 x7_1 x19_5 s0_0 x1001_1 x1002_1 = some (r1, r2, r3)) ∧ Aside0 (kq ≤ k1) ∧ Aside0 (IsS76 w0 wc g s0_0 x1001_1 x1002_1) ∧ Aside0 (KeepBut w wc g none) ∧ Aside0 (Below w0.heap.size w0 wc))
   case first =>
    have H := HC6.out
    clear HC6
    by_cases c7 : x7_1 > 0
    ·rw [if_pos c7] at H
     have c7b0 : decide (0 < x7_1) = true := decide_eq_true c7
     clear c7
     (first | rw [c7b0] | (simp only [i64_w, i32_w]; rw [c7b0]) | skip)
     have H' := am H
     clear H
     go_wp2
     repeat (go_quiet (fail); try go_wp2)
     go_meet
     case rel => exact ⟨_, (decide ((x1_1.size : Int) > 0)), zq10, H', ⟨by have := HK1.out; first | omega | exact Nat.le_refl _⟩, ⟨zq2⟩, ⟨zq3⟩, ⟨zq5⟩⟩
    ·rw [if_neg c7] at H
     have c7b0 : decide (0 < x7_1) = false := decide_eq_false c7
     clear c7
     (first | rw [c7b0] | (simp only [i64_w, i32_w]; rw [c7b0]) | skip)
     have H' := am H
     clear H
     go_wp2
     repeat (go_quiet (fail); try go_wp2)
     go_meet
     case rel => exact ⟨_, (false), zq10, H', ⟨by have := HK1.out; first | omega | exact Nat.le_refl _⟩, ⟨zq2⟩, ⟨zq3⟩, ⟨zq5⟩⟩
   case rest =>
    clear HC6
    obtain ⟨kq, x19_5, rfl, HA, HJ5, HI0, HK, HB⟩ := hcut
    cases kq with
    | zero => exact absurd HA.out (by simp [spec_l1Cur_spoilt.j1])
    | succ kj5 =>
     have H := HA.out
     clear HA
     simp only [spec_l1Cur_spoilt.j1] at H
     by_cases c8 : x19_5 = true
     ·subst c8
      rw [if_pos rfl] at H
      replace H := Option.bind_eq_some_iff.mp H
      obtain ⟨⟨t547, t548, t549⟩, A90, H⟩ := H
      (try dsimp only at H)
      have A9 := am A90
      clear A90
      replace H := Option.bind_eq_some_iff.mp H
      obtain ⟨⟨t550, t551, t552⟩, A100, H⟩ := H
      (try dsimp only at H)
      have A10 := am A100
      clear A100
      obtain ⟨c11, H⟩ := zI H
      have c11b0 := decide_eq_true c11
      clear c11
      obtain ⟨c12, H⟩ := zI H
      have c12b0 := decide_eq_true c12
      clear c12
      obtain ⟨y553, Ny553, H⟩ := zY H
      replace H := Option.bind_eq_some_iff.mp H
      obtain ⟨⟨t556, t557, t558⟩, A140, H⟩ := H
      (try dsimp only at H)
      have A14 := am A140
      clear A140
      by_cases c15 : t556 = 0
      ·rw [if_pos c15] at H
       have c15b0 : (t556 == 0) = true := beq_iff_eq.mpr c15
       have c15b1 : (t556 != 0) = false := bne_eq_false_iff_eq.mpr c15
       clear c15
       obtain ⟨c16, H⟩ := zI H
       have c16b0 := eq_true c16
       have c16b1 := decide_eq_true c16
       clear c16
       obtain ⟨c17, H⟩ := zI H
       have c17b0 := eq_true c17
       have c17b1 := decide_eq_true c17
       clear c17
       obtain ⟨c18, H⟩ := zI H
       have c18b0 := eq_true c18
       have c18b1 := decide_eq_true c18
       try have c18b2 : (9223372036854775807 < (x1_1.extract 0 (t547 : Int).toNat).size + (strOfNums y553).size) = False := eq_false (Nat.not_lt.2 c18)
       have c19b0 := eq_true (of_decide_eq_true zq9 : 0 ≤ t547)
       have c20b0 := eq_true (of_decide_eq_true zq9 : t547 ≤ (x1_1.size : Int))
       obtain ⟨c21, H⟩ := zI H
       have c21b0 := eq_true c21
       have c21b1 := decide_eq_true c21
       try have c21b2 : (9223372036854775807 < ((x1_1.extract 0 (t547 : Int).toNat) ++ (strOfNums y553)).size + (x1_1.extract (t547 : Int).toNat x1_1.size).size) = False := eq_false (Nat.not_lt.2 c21)
       have H' := am H
       clear H
       go_wp2_with (first | (go_at_call 70; (with_reducible refine (spec_l1Cur_pick.calls g s0_0 x1001_1 x1002_1 (x1_1.size : Int) t547 t548 t549 w0 _ ?side1 ?side2 A9.out).mono ?_); (case side1 => exact zq2); (case side2 => exact zq5); rintro e w22 ⟨rfl, hi, hb, hk⟩; replace HK := am (KeepBut.trans zq3 hk (.inl rfl)); replace HB := am (hb); replace HI0 := am (hi); (try clear hb hk hi)) | (go_at_call 70; (with_reducible refine (spec_l1Cur_pick.calls g s0_0 t548 t549 (a2.size : Int) t550 t551 t552 w0 _ ?side1 ?side2 A10.out).mono ?_); (case side1 => exact zq2); (case side2 => exact zq5); rintro e w23 ⟨rfl, hi, hb, hk⟩; replace HK := am (KeepBut.trans zq3 hk (.inl rfl)); replace HB := am (hb); replace HI0 := am (hi); (try clear hb hk hi); have p13 : 0 ≤ (t550 : Int) := of_decide_eq_true zq9; have q13 : t550 < (a2.size : Int) := of_decide_eq_true zq9; have hx13 := bt_at a2 t550; replace p13 := eq_true p13; replace q13 := eq_true q13) | ((with_reducible refine gate_dst (N := 32) rfl ?_); (try (refine gate_guard (by rfl) ?_; dsimp only)); refine Kd.R_lit (Kd.int .u8) _ 5 ?hg (N := 32) ?hd (xs := ([bt a2 t550] : List Int)) (inner := [.int .u8 (bt a2 t550)]) (ok := fun _ => True) (okp := fun _ => True) ?hr ?hp (fun _ hk => hk) trivial (Below.refl _ _) (Nat.le_refl _) zq42 ?_; (case hd => rfl); (case hg => rfl); (case hr => exact zq30); (case hp => exact zq38); intro v554 w24 ho25 hb hg_ hnew_; clear hg_ hnew_; (first | rw [← Ny553.out] at ho25 | (simp only [Int.reduceToNat] at ho25; rw [← Ny553.out] at ho25)); have HO555 := am (Kd.R_lower ho25 (keep_size (w := w) (g := g) (row := none) zq3)); replace HK := am (KeepBut.trans zq3 (KeepBut.of_below hb g none) (.inl rfl)); replace HB := am (below_step zq5 hb); replace HI0 := am (IsS76.below zq2 hb); clear hb ho25; have hcv26 := own_string (P := Tryz.prog) Tryz.underlying22 Tryz.underlying5 Tryz.underlying9 (Kd.own_of_R HO555.out)) | (go_at_call 70; (with_reducible refine (spec_l1Cur_pick.calls g s0_0 t551 t552 3 t556 t557 t558 w0 _ ?side1 ?side2 A14.out).mono ?_); (case side1 => exact zq2); (case side2 => exact zq5); rintro e w27 ⟨rfl, hi, hb, hk⟩; replace HO555 := am (Kd.R_mono (Kd.R_keep (IsS76.apart (show IsS76 w0 _ g s0_0 t551 t552 from zq2) (pRq HO555) zq27) hk (fun _ h => h.2)) (fun _ h => h.1)); replace HK := am (KeepBut.trans zq3 hk (.inl rfl)); replace HB := am (hb); replace HI0 := am (hi); (try clear hb hk hi)))
       repeat (go_quiet (first | (go_at_call 70; (with_reducible refine (spec_l1Cur_pick.calls g s0_0 x1001_1 x1002_1 (x1_1.size : Int) t547 t548 t549 w0 _ ?side1 ?side2 A9.out).mono ?_); (case side1 => exact zq2); (case side2 => exact zq5); rintro e w22 ⟨rfl, hi, hb, hk⟩; replace HK := am (KeepBut.trans zq3 hk (.inl rfl)); replace HB := am (hb); replace HI0 := am (hi); (try clear hb hk hi)) | (go_at_call 70; (with_reducible refine (spec_l1Cur_pick.calls g s0_0 t548 t549 (a2.size : Int) t550 t551 t552 w0 _ ?side1 ?side2 A10.out).mono ?_); (case side1 => exact zq2); (case side2 => exact zq5); rintro e w23 ⟨rfl, hi, hb, hk⟩; replace HK := am (KeepBut.trans zq3 hk (.inl rfl)); replace HB := am (hb); replace HI0 := am (hi); (try clear hb hk hi); have p13 : 0 ≤ (t550 : Int) := of_decide_eq_true zq9; have q13 : t550 < (a2.size : Int) := of_decide_eq_true zq9; have hx13 := bt_at a2 t550; replace p13 := eq_true p13; replace q13 := eq_true q13) | ((with_reducible refine gate_dst (N := 32) rfl ?_); (try (refine gate_guard (by rfl) ?_; dsimp only)); refine Kd.R_lit (Kd.int .u8) _ 5 ?hg (N := 32) ?hd (xs := ([bt a2 t550] : List Int)) (inner := [.int .u8 (bt a2 t550)]) (ok := fun _ => True) (okp := fun _ => True) ?hr ?hp (fun _ hk => hk) trivial (Below.refl _ _) (Nat.le_refl _) zq42 ?_; (case hd => rfl); (case hg => rfl); (case hr => exact zq30); (case hp => exact zq38); intro v554 w24 ho25 hb hg_ hnew_; clear hg_ hnew_; (first | rw [← Ny553.out] at ho25 | (simp only [Int.reduceToNat] at ho25; rw [← Ny553.out] at ho25)); have HO555 := am (Kd.R_lower ho25 (keep_size (w := w) (g := g) (row := none) zq3)); replace HK := am (KeepBut.trans zq3 (KeepBut.of_below hb g none) (.inl rfl)); replace HB := am (below_step zq5 hb); replace HI0 := am (IsS76.below zq2 hb); clear hb ho25; have hcv26 := own_string (P := Tryz.prog) Tryz.underlying22 Tryz.underlying5 Tryz.underlying9 (Kd.own_of_R HO555.out)) | (go_at_call 70; (with_reducible refine (spec_l1Cur_pick.calls g s0_0 t551 t552 3 t556 t557 t558 w0 _ ?side1 ?side2 A14.out).mono ?_); (case side1 => exact zq2); (case side2 => exact zq5); rintro e w27 ⟨rfl, hi, hb, hk⟩; replace HO555 := am (Kd.R_mono (Kd.R_keep (IsS76.apart (show IsS76 w0 _ g s0_0 t551 t552 from zq2) (pRq HO555) zq27) hk (fun _ h => h.2)) (fun _ h => h.1)); replace HK := am (KeepBut.trans zq3 hk (.inl rfl)); replace HB := am (hb); replace HI0 := am (hi); (try clear hb hk hi))); try go_wp2_with (first | (go_at_call 70; (with_reducible refine (spec_l1Cur_pick.calls g s0_0 x1001_1 x1002_1 (x1_1.size : Int) t547 t548 t549 w0 _ ?side1 ?side2 A9.out).mono ?_); (case side1 => exact zq2); (case side2 => exact zq5); rintro e w22 ⟨rfl, hi, hb, hk⟩; replace HK := am (KeepBut.trans zq3 hk (.inl rfl)); replace HB := am (hb); replace HI0 := am (hi); (try clear hb hk hi)) | (go_at_call 70; (with_reducible refine (spec_l1Cur_pick.calls g s0_0 t548 t549 (a2.size : Int) t550 t551 t552 w0 _ ?side1 ?side2 A10.out).mono ?_); (case side1 => exact zq2); (case side2 => exact zq5); rintro e w23 ⟨rfl, hi, hb, hk⟩; replace HK := am (KeepBut.trans zq3 hk (.inl rfl)); replace HB := am (hb); replace HI0 := am (hi); (try clear hb hk hi); have p13 : 0 ≤ (t550 : Int) := of_decide_eq_true zq9; have q13 : t550 < (a2.size : Int) := of_decide_eq_true zq9; have hx13 := bt_at a2 t550; replace p13 := eq_true p13; replace q13 := eq_true q13) | ((with_reducible refine gate_dst (N := 32) rfl ?_); (try (refine gate_guard (by rfl) ?_; dsimp only)); refine Kd.R_lit (Kd.int .u8) _ 5 ?hg (N := 32) ?hd (xs := ([bt a2 t550] : List Int)) (inner := [.int .u8 (bt a2 t550)]) (ok := fun _ => True) (okp := fun _ => True) ?hr ?hp (fun _ hk => hk) trivial (Below.refl _ _) (Nat.le_refl _) zq42 ?_; (case hd => rfl); (case hg => rfl); (case hr => exact zq30); (case hp => exact zq38); intro v554 w24 ho25 hb hg_ hnew_; clear hg_ hnew_; (first | rw [← Ny553.out] at ho25 | (simp only [Int.reduceToNat] at ho25; rw [← Ny553.out] at ho25)); have HO555 := am (Kd.R_lower ho25 (keep_size (w := w) (g := g) (row := none) zq3)); replace HK := am (KeepBut.trans zq3 (KeepBut.of_below hb g none) (.inl rfl)); replace HB := am (below_step zq5 hb); replace HI0 := am (IsS76.below zq2 hb); clear hb ho25; have hcv26 := own_string (P := Tryz.prog) Tryz.underlying22 Tryz.underlying5 Tryz.underlying9 (Kd.own_of_R HO555.out)) | (go_at_call 70; (with_reducible refine (spec_l1Cur_pick.calls g s0_0 t551 t552 3 t556 t557 t558 w0 _ ?side1 ?side2 A14.out).mono ?_); (case side1 => exact zq2); (case side2 => exact zq5); rintro e w27 ⟨rfl, hi, hb, hk⟩; replace HO555 := am (Kd.R_mono (Kd.R_keep (IsS76.apart (show IsS76 w0 _ g s0_0 t551 t552 from zq2) (pRq HO555) zq27) hk (fun _ h => h.2)) (fun _ h => h.1)); replace HK := am (KeepBut.trans zq3 hk (.inl rfl)); replace HB := am (hb); replace HI0 := am (hi); (try clear hb hk hi))))
       go_roundg kj5
       case measure => have := HK1.out; have := HJ5.out; omega
       case rel => exact ⟨(((x1_1.extract 0 (t547 : Int).toNat) ++ (strOfNums y553)) ++ (x1_1.extract (t547 : Int).toNat x1_1.size)), (wrap64 (x7_1 - 1)), (t557), (t558), zq10, zq10, H', ⟨by have := HK1.out; have := HJ5.out; omega⟩, ⟨zq2⟩, ⟨zq3⟩, ⟨zq5⟩⟩
      ·rw [if_neg c15] at H
       have c15b0 : (t556 == 0) = false := beq_eq_false_iff_ne.mpr c15
       have c15b1 : (t556 != 0) = true := bne_iff_ne.mpr c15
       by_cases c28 : t556 = 1
       ·rw [if_pos c28] at H
        have c28b0 : (t556 == 1) = true := beq_iff_eq.mpr c28
        have c28b1 : (t556 != 1) = false := bne_eq_false_iff_eq.mpr c28
        clear c28
        obtain ⟨c29, H⟩ := zI H
        have c29b0 := eq_true c29
        have c29b1 := decide_eq_true c29
        clear c29
        obtain ⟨c30, H⟩ := zI H
        have c30b0 := eq_true c30
        have c30b1 := decide_eq_true c30
        clear c30
        obtain ⟨c31, H⟩ := zI H
        have c31b0 := eq_true c31
        have c31b1 := decide_eq_true c31
        try have c31b2 : (9223372036854775807 < (x1_1.extract 0 (t547 : Int).toNat).size + (strOfNums y553).size) = False := eq_false (Nat.not_lt.2 c31)
        obtain ⟨ji32, hji32⟩ : ∃ j_ : Int, (wrap64 (t547 + 1)) = j_ := ⟨_, rfl⟩
        replace H : (if 0 ≤ (ji32) then (if (ji32) ≤ (x1_1.size : Int) then (if ((x1_1.extract 0 (t547 : Int).toNat) ++ (strOfNums y553)).size + (x1_1.extract ((ji32) : Int).toNat x1_1.size).size ≤ 9223372036854775807 then (spec_l1Cur_spoilt.l0 kj5 (((x1_1.extract 0 (t547 : Int).toNat) ++ (strOfNums y553)) ++ (x1_1.extract ((ji32) : Int).toNat x1_1.size)) a2 (wrap64 (x7_1 - 1)) s0_0 t557 t558) else (none)) else (none)) else (none)) = some (r1, r2, r3) := by first | (rw [hji32] at H; exact H) | (simp only [hji32] at H ⊢; exact H)
        (try rw [hji32] at A9)
        (try rw [hji32] at A10)
        (try rw [hji32] at A14)
        have hji32w : (IntKind.i64.wrap (t547 + 1)) = ji32 := (i64_w _).trans hji32
        obtain ⟨c33, H⟩ := zI H
        have c33b0 := eq_true c33
        have c33b1 := decide_eq_true c33
        clear c33
        obtain ⟨c34, H⟩ := zI H
        have c34b0 := eq_true c34
        have c34b1 := decide_eq_true c34
        clear c34
        obtain ⟨c35, H⟩ := zI H
        have c35b0 := eq_true c35
        have c35b1 := decide_eq_true c35
        try have c35b2 : (9223372036854775807 < ((x1_1.extract 0 (t547 : Int).toNat) ++ (strOfNums y553)).size + (x1_1.extract ((ji32) : Int).toNat x1_1.size).size) = False := eq_false (Nat.not_lt.2 c35)
        have H' := am H
        clear H
        go_wp2_with (first | (go_at_call 70; (with_reducible refine (spec_l1Cur_pick.calls g s0_0 x1001_1 x1002_1 (x1_1.size : Int) t547 t548 t549 w0 _ ?side1 ?side2 A9.out).mono ?_); (case side1 => exact zq2); (case side2 => exact zq5); rintro e w36 ⟨rfl, hi, hb, hk⟩; replace HK := am (KeepBut.trans zq3 hk (.inl rfl)); replace HB := am (hb); replace HI0 := am (hi); (try clear hb hk hi)) | (go_at_call 70; (with_reducible refine (spec_l1Cur_pick.calls g s0_0 t548 t549 (a2.size : Int) t550 t551 t552 w0 _ ?side1 ?side2 A10.out).mono ?_); (case side1 => exact zq2); (case side2 => exact zq5); rintro e w37 ⟨rfl, hi, hb, hk⟩; replace HK := am (KeepBut.trans zq3 hk (.inl rfl)); replace HB := am (hb); replace HI0 := am (hi); (try clear hb hk hi); have p13 : 0 ≤ (t550 : Int) := of_decide_eq_true zq9; have q13 : t550 < (a2.size : Int) := of_decide_eq_true zq9; have hx13 := bt_at a2 t550; replace p13 := eq_true p13; replace q13 := eq_true q13) | ((with_reducible refine gate_dst (N := 32) rfl ?_); (try (refine gate_guard (by rfl) ?_; dsimp only)); refine Kd.R_lit (Kd.int .u8) _ 5 ?hg (N := 32) ?hd (xs := ([bt a2 t550] : List Int)) (inner := [.int .u8 (bt a2 t550)]) (ok := fun _ => True) (okp := fun _ => True) ?hr ?hp (fun _ hk => hk) trivial (Below.refl _ _) (Nat.le_refl _) zq42 ?_; (case hd => rfl); (case hg => rfl); (case hr => exact zq30); (case hp => exact zq38); intro v554 w38 ho39 hb hg_ hnew_; clear hg_ hnew_; (first | rw [← Ny553.out] at ho39 | (simp only [Int.reduceToNat] at ho39; rw [← Ny553.out] at ho39)); have HO555 := am (Kd.R_lower ho39 (keep_size (w := w) (g := g) (row := none) zq3)); replace HK := am (KeepBut.trans zq3 (KeepBut.of_below hb g none) (.inl rfl)); replace HB := am (below_step zq5 hb); replace HI0 := am (IsS76.below zq2 hb); clear hb ho39; have hcv40 := own_string (P := Tryz.prog) Tryz.underlying22 Tryz.underlying5 Tryz.underlying9 (Kd.own_of_R HO555.out)) | (go_at_call 70; (with_reducible refine (spec_l1Cur_pick.calls g s0_0 t551 t552 3 t556 t557 t558 w0 _ ?side1 ?side2 A14.out).mono ?_); (case side1 => exact zq2); (case side2 => exact zq5); rintro e w41 ⟨rfl, hi, hb, hk⟩; replace HO555 := am (Kd.R_mono (Kd.R_keep (IsS76.apart (show IsS76 w0 _ g s0_0 t551 t552 from zq2) (pRq HO555) zq27) hk (fun _ h => h.2)) (fun _ h => h.1)); replace HK := am (KeepBut.trans zq3 hk (.inl rfl)); replace HB := am (hb); replace HI0 := am (hi); (try clear hb hk hi)))
        repeat (go_quiet (first | (go_at_call 70; (with_reducible refine (spec_l1Cur_pick.calls g s0_0 x1001_1 x1002_1 (x1_1.size : Int) t547 t548 t549 w0 _ ?side1 ?side2 A9.out).mono ?_); (case side1 => exact zq2); (case side2 => exact zq5); rintro e w36 ⟨rfl, hi, hb, hk⟩; replace HK := am (KeepBut.trans zq3 hk (.inl rfl)); replace HB := am (hb); replace HI0 := am (hi); (try clear hb hk hi)) | (go_at_call 70; (with_reducible refine (spec_l1Cur_pick.calls g s0_0 t548 t549 (a2.size : Int) t550 t551 t552 w0 _ ?side1 ?side2 A10.out).mono ?_); (case side1 => exact zq2); (case side2 => exact zq5); rintro e w37 ⟨rfl, hi, hb, hk⟩; replace HK := am (KeepBut.trans zq3 hk (.inl rfl)); replace HB := am (hb); replace HI0 := am (hi); (try clear hb hk hi); have p13 : 0 ≤ (t550 : Int) := of_decide_eq_true zq9; have q13 : t550 < (a2.size : Int) := of_decide_eq_true zq9; have hx13 := bt_at a2 t550; replace p13 := eq_true p13; replace q13 := eq_true q13) | ((with_reducible refine gate_dst (N := 32) rfl ?_); (try (refine gate_guard (by rfl) ?_; dsimp only)); refine Kd.R_lit (Kd.int .u8) _ 5 ?hg (N := 32) ?hd (xs := ([bt a2 t550] : List Int)) (inner := [.int .u8 (bt a2 t550)]) (ok := fun _ => True) (okp := fun _ => True) ?hr ?hp (fun _ hk => hk) trivial (Below.refl _ _) (Nat.le_refl _) zq42 ?_; (case hd => rfl); (case hg => rfl); (case hr => exact zq30); (case hp => exact zq38); intro v554 w38 ho39 hb hg_ hnew_; clear hg_ hnew_; (first | rw [← Ny553.out] at ho39 | (simp only [Int.reduceToNat] at ho39; rw [← Ny553.out] at ho39)); have HO555 := am (Kd.R_lower ho39 (keep_size (w := w) (g := g) (row := none) zq3)); replace HK := am (KeepBut.trans zq3 (KeepBut.of_below hb g none) (.inl rfl)); replace HB := am (below_step zq5 hb); replace HI0 := am (IsS76.below zq2 hb); clear hb ho39; have hcv40 := own_string (P := Tryz.prog) Tryz.underlying22 Tryz.underlying5 Tryz.underlying9 (Kd.own_of_R HO555.out)) | (go_at_call 70; (with_reducible refine (spec_l1Cur_pick.calls g s0_0 t551 t552 3 t556 t557 t558 w0 _ ?side1 ?side2 A14.out).mono ?_); (case side1 => exact zq2); (case side2 => exact zq5); rintro e w41 ⟨rfl, hi, hb, hk⟩; replace HO555 := am (Kd.R_mono (Kd.R_keep (IsS76.apart (show IsS76 w0 _ g s0_0 t551 t552 from zq2) (pRq HO555) zq27) hk (fun _ h => h.2)) (fun _ h => h.1)); replace HK := am (KeepBut.trans zq3 hk (.inl rfl)); replace HB := am (hb); replace HI0 := am (hi); (try clear hb hk hi))); try go_wp2_with (first | (go_at_call 70; (with_reducible refine (spec_l1Cur_pick.calls g s0_0 x1001_1 x1002_1 (x1_1.size : Int) t547 t548 t549 w0 _ ?side1 ?side2 A9.out).mono ?_); (case side1 => exact zq2); (case side2 => exact zq5); rintro e w36 ⟨rfl, hi, hb, hk⟩; replace HK := am (KeepBut.trans zq3 hk (.inl rfl)); replace HB := am (hb); replace HI0 := am (hi); (try clear hb hk hi)) | (go_at_call 70; (with_reducible refine (spec_l1Cur_pick.calls g s0_0 t548 t549 (a2.size : Int) t550 t551 t552 w0 _ ?side1 ?side2 A10.out).mono ?_); (case side1 => exact zq2); (case side2 => exact zq5); rintro e w37 ⟨rfl, hi, hb, hk⟩; replace HK := am (KeepBut.trans zq3 hk (.inl rfl)); replace HB := am (hb); replace HI0 := am (hi); (try clear hb hk hi); have p13 : 0 ≤ (t550 : Int) := of_decide_eq_true zq9; have q13 : t550 < (a2.size : Int) := of_decide_eq_true zq9; have hx13 := bt_at a2 t550; replace p13 := eq_true p13; replace q13 := eq_true q13) | ((with_reducible refine gate_dst (N := 32) rfl ?_); (try (refine gate_guard (by rfl) ?_; dsimp only)); refine Kd.R_lit (Kd.int .u8) _ 5 ?hg (N := 32) ?hd (xs := ([bt a2 t550] : List Int)) (inner := [.int .u8 (bt a2 t550)]) (ok := fun _ => True) (okp := fun _ => True) ?hr ?hp (fun _ hk => hk) trivial (Below.refl _ _) (Nat.le_refl _) zq42 ?_; (case hd => rfl); (case hg => rfl); (case hr => exact zq30); (case hp => exact zq38); intro v554 w38 ho39 hb hg_ hnew_; clear hg_ hnew_; (first | rw [← Ny553.out] at ho39 | (simp only [Int.reduceToNat] at ho39; rw [← Ny553.out] at ho39)); have HO555 := am (Kd.R_lower ho39 (keep_size (w := w) (g := g) (row := none) zq3)); replace HK := am (KeepBut.trans zq3 (KeepBut.of_below hb g none) (.inl rfl)); replace HB := am (below_step zq5 hb); replace HI0 := am (IsS76.below zq2 hb); clear hb ho39; have hcv40 := own_string (P := Tryz.prog) Tryz.underlying22 Tryz.underlying5 Tryz.underlying9 (Kd.own_of_R HO555.out)) | (go_at_call 70; (with_reducible refine (spec_l1Cur_pick.calls g s0_0 t551 t552 3 t556 t557 t558 w0 _ ?side1 ?side2 A14.out).mono ?_); (case side1 => exact zq2); (case side2 => exact zq5); rintro e w41 ⟨rfl, hi, hb, hk⟩; replace HO555 := am (Kd.R_mono (Kd.R_keep (IsS76.apart (show IsS76 w0 _ g s0_0 t551 t552 from zq2) (pRq HO555) zq27) hk (fun _ h => h.2)) (fun _ h => h.1)); replace HK := am (KeepBut.trans zq3 hk (.inl rfl)); replace HB := am (hb); replace HI0 := am (hi); (try clear hb hk hi))))
        go_roundg kj5
        case measure => have := HK1.out; have := HJ5.out; omega
        case rel => exact ⟨(((x1_1.extract 0 (t547 : Int).toNat) ++ (strOfNums y553)) ++ (x1_1.extract ((ji32) : Int).toNat x1_1.size)), (wrap64 (x7_1 - 1)), (t557), (t558), (by first | rfl | (simp; done) | (simp only [← hji32] <;> (first | rfl | simp)) | (simp [*]; done)), zq10, H', ⟨by have := HK1.out; have := HJ5.out; omega⟩, ⟨zq2⟩, ⟨zq3⟩, ⟨zq5⟩⟩
       ·rw [if_neg c28] at H
        have c28b0 : (t556 == 1) = false := beq_eq_false_iff_ne.mpr c28
        have c28b1 : (t556 != 1) = true := bne_iff_ne.mpr c28
        obtain ⟨c42, H⟩ := zI H
        have c42b0 := eq_true c42
        have c42b1 := decide_eq_true c42
        clear c42
        obtain ⟨c43, H⟩ := zI H
        have c43b0 := eq_true c43
        have c43b1 := decide_eq_true c43
        clear c43
        obtain ⟨ji44, hji44⟩ : ∃ j_ : Int, (wrap64 (t547 + 1)) = j_ := ⟨_, rfl⟩
        replace H : (if 0 ≤ (ji44) then (if (ji44) ≤ (x1_1.size : Int) then (if (x1_1.extract 0 (t547 : Int).toNat).size + (x1_1.extract ((ji44) : Int).toNat x1_1.size).size ≤ 9223372036854775807 then (spec_l1Cur_spoilt.l0 kj5 ((x1_1.extract 0 (t547 : Int).toNat) ++ (x1_1.extract ((ji44) : Int).toNat x1_1.size)) a2 (wrap64 (x7_1 - 1)) s0_0 t557 t558) else (none)) else (none)) else (none)) = some (r1, r2, r3) := by first | (rw [hji44] at H; exact H) | (simp only [hji44] at H ⊢; exact H)
        (try rw [hji44] at A9)
        (try rw [hji44] at A10)
        (try rw [hji44] at A14)
        have hji44w : (IntKind.i64.wrap (t547 + 1)) = ji44 := (i64_w _).trans hji44
        obtain ⟨c45, H⟩ := zI H
        have c45b0 := eq_true c45
        have c45b1 := decide_eq_true c45
        clear c45
        obtain ⟨c46, H⟩ := zI H
        have c46b0 := eq_true c46
        have c46b1 := decide_eq_true c46
        clear c46
        obtain ⟨c47, H⟩ := zI H
        have c47b0 := eq_true c47
        have c47b1 := decide_eq_true c47
        try have c47b2 : (9223372036854775807 < (x1_1.extract 0 (t547 : Int).toNat).size + (x1_1.extract ((ji44) : Int).toNat x1_1.size).size) = False := eq_false (Nat.not_lt.2 c47)
        have H' := am H
        clear H
        go_wp2_with (first | (go_at_call 70; (with_reducible refine (spec_l1Cur_pick.calls g s0_0 x1001_1 x1002_1 (x1_1.size : Int) t547 t548 t549 w0 _ ?side1 ?side2 A9.out).mono ?_); (case side1 => exact zq2); (case side2 => exact zq5); rintro e w48 ⟨rfl, hi, hb, hk⟩; replace HK := am (KeepBut.trans zq3 hk (.inl rfl)); replace HB := am (hb); replace HI0 := am (hi); (try clear hb hk hi)) | (go_at_call 70; (with_reducible refine (spec_l1Cur_pick.calls g s0_0 t548 t549 (a2.size : Int) t550 t551 t552 w0 _ ?side1 ?side2 A10.out).mono ?_); (case side1 => exact zq2); (case side2 => exact zq5); rintro e w49 ⟨rfl, hi, hb, hk⟩; replace HK := am (KeepBut.trans zq3 hk (.inl rfl)); replace HB := am (hb); replace HI0 := am (hi); (try clear hb hk hi); have p13 : 0 ≤ (t550 : Int) := of_decide_eq_true zq9; have q13 : t550 < (a2.size : Int) := of_decide_eq_true zq9; have hx13 := bt_at a2 t550; replace p13 := eq_true p13; replace q13 := eq_true q13) | ((with_reducible refine gate_dst (N := 32) rfl ?_); (try (refine gate_guard (by rfl) ?_; dsimp only)); refine Kd.R_lit (Kd.int .u8) _ 5 ?hg (N := 32) ?hd (xs := ([bt a2 t550] : List Int)) (inner := [.int .u8 (bt a2 t550)]) (ok := fun _ => True) (okp := fun _ => True) ?hr ?hp (fun _ hk => hk) trivial (Below.refl _ _) (Nat.le_refl _) zq42 ?_; (case hd => rfl); (case hg => rfl); (case hr => exact zq30); (case hp => exact zq38); intro v554 w50 ho51 hb hg_ hnew_; clear hg_ hnew_; (first | rw [← Ny553.out] at ho51 | (simp only [Int.reduceToNat] at ho51; rw [← Ny553.out] at ho51)); have HO555 := am (Kd.R_lower ho51 (keep_size (w := w) (g := g) (row := none) zq3)); replace HK := am (KeepBut.trans zq3 (KeepBut.of_below hb g none) (.inl rfl)); replace HB := am (below_step zq5 hb); replace HI0 := am (IsS76.below zq2 hb); clear hb ho51; have hcv52 := own_string (P := Tryz.prog) Tryz.underlying22 Tryz.underlying5 Tryz.underlying9 (Kd.own_of_R HO555.out)) | (go_at_call 70; (with_reducible refine (spec_l1Cur_pick.calls g s0_0 t551 t552 3 t556 t557 t558 w0 _ ?side1 ?side2 A14.out).mono ?_); (case side1 => exact zq2); (case side2 => exact zq5); rintro e w53 ⟨rfl, hi, hb, hk⟩; replace HO555 := am (Kd.R_mono (Kd.R_keep (IsS76.apart (show IsS76 w0 _ g s0_0 t551 t552 from zq2) (pRq HO555) zq27) hk (fun _ h => h.2)) (fun _ h => h.1)); replace HK := am (KeepBut.trans zq3 hk (.inl rfl)); replace HB := am (hb); replace HI0 := am (hi); (try clear hb hk hi)))
        repeat (go_quiet (first | (go_at_call 70; (with_reducible refine (spec_l1Cur_pick.calls g s0_0 x1001_1 x1002_1 (x1_1.size : Int) t547 t548 t549 w0 _ ?side1 ?side2 A9.out).mono ?_); (case side1 => exact zq2); (case side2 => exact zq5); rintro e w48 ⟨rfl, hi, hb, hk⟩; replace HK := am (KeepBut.trans zq3 hk (.inl rfl)); replace HB := am (hb); replace HI0 := am (hi); (try clear hb hk hi)) | (go_at_call 70; (with_reducible refine (spec_l1Cur_pick.calls g s0_0 t548 t549 (a2.size : Int) t550 t551 t552 w0 _ ?side1 ?side2 A10.out).mono ?_); (case side1 => exact zq2); (case side2 => exact zq5); rintro e w49 ⟨rfl, hi, hb, hk⟩; replace HK := am (KeepBut.trans zq3 hk (.inl rfl)); replace HB := am (hb); replace HI0 := am (hi); (try clear hb hk hi); have p13 : 0 ≤ (t550 : Int) := of_decide_eq_true zq9; have q13 : t550 < (a2.size : Int) := of_decide_eq_true zq9; have hx13 := bt_at a2 t550; replace p13 := eq_true p13; replace q13 := eq_true q13) | ((with_reducible refine gate_dst (N := 32) rfl ?_); (try (refine gate_guard (by rfl) ?_; dsimp only)); refine Kd.R_lit (Kd.int .u8) _ 5 ?hg (N := 32) ?hd (xs := ([bt a2 t550] : List Int)) (inner := [.int .u8 (bt a2 t550)]) (ok := fun _ => True) (okp := fun _ => True) ?hr ?hp (fun _ hk => hk) trivial (Below.refl _ _) (Nat.le_refl _) zq42 ?_; (case hd => rfl); (case hg => rfl); (case hr => exact zq30); (case hp => exact zq38); intro v554 w50 ho51 hb hg_ hnew_; clear hg_ hnew_; (first | rw [← Ny553.out] at ho51 | (simp only [Int.reduceToNat] at ho51; rw [← Ny553.out] at ho51)); have HO555 := am (Kd.R_lower ho51 (keep_size (w := w) (g := g) (row := none) zq3)); replace HK := am (KeepBut.trans zq3 (KeepBut.of_below hb g none) (.inl rfl)); replace HB := am (below_step zq5 hb); replace HI0 := am (IsS76.below zq2 hb); clear hb ho51; have hcv52 := own_string (P := Tryz.prog) Tryz.underlying22 Tryz.underlying5 Tryz.underlying9 (Kd.own_of_R HO555.out)) | (go_at_call 70; (with_reducible refine (spec_l1Cur_pick.calls g s0_0 t551 t552 3 t556 t557 t558 w0 _ ?side1 ?side2 A14.out).mono ?_); (case side1 => exact zq2); (case side2 => exact zq5); rintro e w53 ⟨rfl, hi, hb, hk⟩; replace HO555 := am (Kd.R_mono (Kd.R_keep (IsS76.apart (show IsS76 w0 _ g s0_0 t551 t552 from zq2) (pRq HO555) zq27) hk (fun _ h => h.2)) (fun _ h => h.1)); replace HK := am (KeepBut.trans zq3 hk (.inl rfl)); replace HB := am (hb); replace HI0 := am (hi); (try clear hb hk hi))); try go_wp2_with (first | (go_at_call 70; (with_reducible refine (spec_l1Cur_pick.calls g s0_0 x1001_1 x1002_1 (x1_1.size : Int) t547 t548 t549 w0 _ ?side1 ?side2 A9.out).mono ?_); (case side1 => exact zq2); (case side2 => exact zq5); rintro e w48 ⟨rfl, hi, hb, hk⟩; replace HK := am (KeepBut.trans zq3 hk (.inl rfl)); replace HB := am (hb); replace HI0 := am (hi); (try clear hb hk hi)) | (go_at_call 70; (with_reducible refine (spec_l1Cur_pick.calls g s0_0 t548 t549 (a2.size : Int) t550 t551 t552 w0 _ ?side1 ?side2 A10.out).mono ?_); (case side1 => exact zq2); (case side2 => exact zq5); rintro e w49 ⟨rfl, hi, hb, hk⟩; replace HK := am (KeepBut.trans zq3 hk (.inl rfl)); replace HB := am (hb); replace HI0 := am (hi); (try clear hb hk hi); have p13 : 0 ≤ (t550 : Int) := of_decide_eq_true zq9; have q13 : t550 < (a2.size : Int) := of_decide_eq_true zq9; have hx13 := bt_at a2 t550; replace p13 := eq_true p13; replace q13 := eq_true q13) | ((with_reducible refine gate_dst (N := 32) rfl ?_); (try (refine gate_guard (by rfl) ?_; dsimp only)); refine Kd.R_lit (Kd.int .u8) _ 5 ?hg (N := 32) ?hd (xs := ([bt a2 t550] : List Int)) (inner := [.int .u8 (bt a2 t550)]) (ok := fun _ => True) (okp := fun _ => True) ?hr ?hp (fun _ hk => hk) trivial (Below.refl _ _) (Nat.le_refl _) zq42 ?_; (case hd => rfl); (case hg => rfl); (case hr => exact zq30); (case hp => exact zq38); intro v554 w50 ho51 hb hg_ hnew_; clear hg_ hnew_; (first | rw [← Ny553.out] at ho51 | (simp only [Int.reduceToNat] at ho51; rw [← Ny553.out] at ho51)); have HO555 := am (Kd.R_lower ho51 (keep_size (w := w) (g := g) (row := none) zq3)); replace HK := am (KeepBut.trans zq3 (KeepBut.of_below hb g none) (.inl rfl)); replace HB := am (below_step zq5 hb); replace HI0 := am (IsS76.below zq2 hb); clear hb ho51; have hcv52 := own_string (P := Tryz.prog) Tryz.underlying22 Tryz.underlying5 Tryz.underlying9 (Kd.own_of_R HO555.out)) | (go_at_call 70; (with_reducible refine (spec_l1Cur_pick.calls g s0_0 t551 t552 3 t556 t557 t558 w0 _ ?side1 ?side2 A14.out).mono ?_); (case side1 => exact zq2); (case side2 => exact zq5); rintro e w53 ⟨rfl, hi, hb, hk⟩; replace HO555 := am (Kd.R_mono (Kd.R_keep (IsS76.apart (show IsS76 w0 _ g s0_0 t551 t552 from zq2) (pRq HO555) zq27) hk (fun _ h => h.2)) (fun _ h => h.1)); replace HK := am (KeepBut.trans zq3 hk (.inl rfl)); replace HB := am (hb); replace HI0 := am (hi); (try clear hb hk hi))))
        go_roundg kj5
        case measure => have := HK1.out; have := HJ5.out; omega
        case rel => exact ⟨((x1_1.extract 0 (t547 : Int).toNat) ++ (x1_1.extract ((ji44) : Int).toNat x1_1.size)), (wrap64 (x7_1 - 1)), (t557), (t558), (by first | rfl | (simp; done) | (simp only [← hji44] <;> (first | rfl | simp)) | (simp [*]; done)), zq10, H', ⟨by have := HK1.out; have := HJ5.out; omega⟩, ⟨zq2⟩, ⟨zq3⟩, ⟨zq5⟩⟩
     ·replace c8 := Bool.eq_false_iff.mpr c8
      subst c8
      rw [if_neg (show ¬ (false = true) by decide)] at H
      simp only [Option.some.injEq, Prod.mk.injEq] at H
      obtain ⟨rfl, rfl, rfl⟩ := H
      go_wp2
      repeat (go_quiet (fail); try go_wp2)
      go_ret
      exact ⟨zq6, zq2, zq5, zq3⟩
/-! ### spec_DrawParseLadder: function 30 -/
def spec_DrawParseLadder.f (k : Nat) (l0 : List Int) : Option (ByteArray) := (spec_l1Cur_sureLadder.f k l0 0 0 6 8).bind fun bt560 => ((spec_laText.f k bt560.1 bt560.2.1).bind fun t566 => ((spec_l1Cur_one.f l0 bt560.2.2.1 bt560.2.2.2 3).bind fun bt567 => (if bt567.1 = true then ((spec_l1Cur_spoilt.f k l0 bt567.2.1 bt567.2.2 t566 (⟨#[48, 49, 50, 51, 52, 53, 54, 55, 56, 57, 58, 44, 45]⟩ : ByteArray)).bind fun bt570 => (some bt570.1)) else (some t566))))
theorem spec_DrawParseLadder.mono : ∀ a0 k, LeO (spec_DrawParseLadder.f k a0) (spec_DrawParseLadder.f (k + 1) a0) := by
 intro a0 k
 unfold spec_DrawParseLadder.f
 repeat' first | (with_reducible first | exact spec_l1Cur_spoilt.mono _ _ _ _ _ _ | exact spec_l1Cur_sureLadder.mono _ _ _ _ _ _ | exact spec_laText.mono _ _ _ | exact LeO.refl _ | exact LeO.none _ | refine LeO.ite ?_ ?_ | refine LeO.bind ?_ (fun _ => ?_))
theorem spec_DrawParseLadder.calls (k : Nat) (A0 : Option Addr) (c0 : Nat) (l0 : List Int) (r : ByteArray) (w : World) (hr0 : Kd.C (Kd.int .u8) w A0 l0.length l0) (hc0 : l0.length ≤ c0) (h : spec_DrawParseLadder.f k l0 = some r) :
  Calls Tryz.prog 30 #[.slice A0 l0.length c0] w fun e w' => e = .returned (.string r) ∧ Below w.heap.size w w' := by
 have hu76 := Tryz.underlying76
 have HR0 := am hr0
 have HC0 := am hc0
 clear hr0 hc0
 have HB := am (Below.refl w.heap.size w)
 unfold spec_DrawParseLadder.f at h
 have H := h
 clear h
 replace H := Option.bind_eq_some_iff.mp H
 obtain ⟨⟨t560, t561, t564, t565⟩, A20, H⟩ := H
 (try dsimp only at H)
 have A2 := am A20
 clear A20
 obtain ⟨t566, A3, H⟩ := zS H
 (try dsimp only at H)
 replace H := Option.bind_eq_some_iff.mp H
 obtain ⟨⟨t567, t568, t569⟩, A40, H⟩ := H
 (try dsimp only at H)
 have A4 := am A40
 clear A40
 by_cases c5 : t567 = true
 ·subst c5
  rw [if_pos rfl] at H
  replace H := Option.bind_eq_some_iff.mp H
  obtain ⟨⟨t570, t571, t572⟩, A60, H⟩ := H
  (try dsimp only at H)
  have A6 := am A60
  clear A60
  obtain rfl := Option.some.inj H
  go_enter Tryz.func30, Tryz.ntmps30
  go_wp2_with (first | ((with_reducible refine gate_dst (N := 7) rfl ?_); refine zE 7 (cs := #[.slice A0 l0.length c0, .int .i64 0, .int .u64 0]) 76 ?_; intro gb559 hg w7 hbox hb; have BK559 := am (hbox); have GW559 := am ((zq78 : w.heap.size ≤ gb559)); have GE559 := am ((zq78 : w.heap.size ≤ gb559)); replace HB := sB HB hb; clear hb hbox hg) | ((with_reducible refine gate_callee (f := 79) rfl ?_); refine goesL_ (some 9) rfl rfl Tryz.func79 zq15 rfl #[.pointer (some ⟨gb559, 0, none⟩), .int .i64 6, .int .i64 8] rfl zq0 ?_; (with_reducible refine (spec_l1Cur_sureLadder.calls k gb559 l0 0 0 6 8 t560 t561 t564 t565 w _ ?side1 ?side2 A2.out).mono ?_); (case side1 => unfold IsS76; exact ⟨_, _, (pKq BK559), GW559.out, HR0.out⟩); (case side2 => exact zq1); rintro e w8 ⟨v562, rfl, ho0, hi, hb, hk⟩; refine ⟨_, rfl, ?_⟩; have HO563 := am (Kd.R_lower ho0 (below_size (pBq HB))); replace HB := am (hb); replace BK559 := am (hi); (try clear hb hk hi ho0); obtain ⟨Ao9, co9, eo9⟩ := Kd.R_slice HO563.out; subst eo9) | ((with_reducible refine gate_callee (f := 61) rfl ?_); refine goesL_ (some 10) rfl rfl Tryz.func61 zq15 rfl #[.agg #[.int .i64 t560, .slice Ao9 t561.length co9]] rfl zq0 ?_; (with_reducible refine (spec_laText.calls k t560 _ _ t561 t566 _ ?side1 ?side2 A3.out).mono ?_); (case side1 => exact zq103); (case side2 => exact (Kd.R_reads' HO563.out).2.1); rintro e w10 ⟨rfl, hb⟩; refine ⟨_, rfl, ?_⟩; replace HO563 := sR HO563 hb; replace HB := am (below_step zq31 hb); replace BK559 := am (IsS76.below zq25 hb); (try clear hb)) | ((with_reducible refine gate_callee (f := 77) rfl ?_); refine goesL_ (some 12) rfl rfl Tryz.func77 zq15 rfl #[.pointer (some ⟨gb559, 0, none⟩), .int .i64 3] rfl zq0 ?_; (with_reducible refine (spec_l1Cur_one.calls gb559 l0 t564 t565 3 true t568 t569 w _ ?side1 ?side2 A4.out).mono ?_); (case side1 => exact zq25); (case side2 => exact zq31); rintro e w11 ⟨rfl, hi, hb, hk⟩; refine ⟨_, rfl, ?_⟩; replace HO563 := am (Kd.R_mono (Kd.R_keep (IsS76.apart (show IsS76 w _ gb559 l0 t564 t565 from zq25) (pRq HO563) zq27) hk (fun _ h => h.2)) (fun _ h => h.1)); replace HB := am (hb); replace BK559 := am (hi); (try clear hb hk hi)) | ((with_reducible refine gate_callee (f := 82) rfl ?_); refine goesL_ (some 15) rfl rfl Tryz.func82 zq15 rfl #[.pointer (some ⟨gb559, 0, none⟩), .string t566, .string (⟨#[48, 49, 50, 51, 52, 53, 54, 55, 56, 57, 58, 44, 45]⟩ : ByteArray)] rfl zq0 ?_; (with_reducible refine (spec_l1Cur_spoilt.calls k gb559 l0 t568 t569 t566 (⟨#[48, 49, 50, 51, 52, 53, 54, 55, 56, 57, 58, 44, 45]⟩ : ByteArray) t570 t571 t572 w _ ?side1 ?side2 A6.out).mono ?_); (case side1 => exact zq25); (case side2 => exact zq31); rintro e w12 ⟨rfl, hi, hb, hk⟩; refine ⟨_, rfl, ?_⟩; replace HO563 := am (Kd.R_mono (Kd.R_keep (IsS76.apart (show IsS76 w _ gb559 l0 t568 t569 from zq25) (pRq HO563) zq27) hk (fun _ h => h.2)) (fun _ h => h.1)); replace HB := am (hb); replace BK559 := am (hi); (try clear hb hk hi)))
  go_ret
  exact ⟨zq6, zq31⟩
 ·replace c5 := Bool.eq_false_iff.mpr c5
  subst c5
  rw [if_neg (show ¬ (false = true) by decide)] at H
  obtain rfl := Option.some.inj H
  go_enter Tryz.func30, Tryz.ntmps30
  go_wp2_with (first | ((with_reducible refine gate_dst (N := 7) rfl ?_); refine zE 7 (cs := #[.slice A0 l0.length c0, .int .i64 0, .int .u64 0]) 76 ?_; intro gb559 hg w13 hbox hb; have BK559 := am (hbox); have GW559 := am ((zq78 : w.heap.size ≤ gb559)); have GE559 := am ((zq78 : w.heap.size ≤ gb559)); replace HB := sB HB hb; clear hb hbox hg) | ((with_reducible refine gate_callee (f := 79) rfl ?_); refine goesL_ (some 9) rfl rfl Tryz.func79 zq15 rfl #[.pointer (some ⟨gb559, 0, none⟩), .int .i64 6, .int .i64 8] rfl zq0 ?_; (with_reducible refine (spec_l1Cur_sureLadder.calls k gb559 l0 0 0 6 8 t560 t561 t564 t565 w _ ?side1 ?side2 A2.out).mono ?_); (case side1 => unfold IsS76; exact ⟨_, _, (pKq BK559), GW559.out, HR0.out⟩); (case side2 => exact zq1); rintro e w14 ⟨v562, rfl, ho0, hi, hb, hk⟩; refine ⟨_, rfl, ?_⟩; have HO563 := am (Kd.R_lower ho0 (below_size (pBq HB))); replace HB := am (hb); replace BK559 := am (hi); (try clear hb hk hi ho0); obtain ⟨Ao15, co15, eo15⟩ := Kd.R_slice HO563.out; subst eo15) | ((with_reducible refine gate_callee (f := 61) rfl ?_); refine goesL_ (some 10) rfl rfl Tryz.func61 zq15 rfl #[.agg #[.int .i64 t560, .slice Ao15 t561.length co15]] rfl zq0 ?_; (with_reducible refine (spec_laText.calls k t560 _ _ t561 t566 _ ?side1 ?side2 A3.out).mono ?_); (case side1 => exact zq103); (case side2 => exact (Kd.R_reads' HO563.out).2.1); rintro e w16 ⟨rfl, hb⟩; refine ⟨_, rfl, ?_⟩; replace HO563 := sR HO563 hb; replace HB := am (below_step zq31 hb); replace BK559 := am (IsS76.below zq25 hb); (try clear hb)) | ((with_reducible refine gate_callee (f := 77) rfl ?_); refine goesL_ (some 12) rfl rfl Tryz.func77 zq15 rfl #[.pointer (some ⟨gb559, 0, none⟩), .int .i64 3] rfl zq0 ?_; (with_reducible refine (spec_l1Cur_one.calls gb559 l0 t564 t565 3 false t568 t569 w _ ?side1 ?side2 A4.out).mono ?_); (case side1 => exact zq25); (case side2 => exact zq31); rintro e w17 ⟨rfl, hi, hb, hk⟩; refine ⟨_, rfl, ?_⟩; replace HO563 := am (Kd.R_mono (Kd.R_keep (IsS76.apart (show IsS76 w _ gb559 l0 t564 t565 from zq25) (pRq HO563) zq27) hk (fun _ h => h.2)) (fun _ h => h.1)); replace HB := am (hb); replace BK559 := am (hi); (try clear hb hk hi)))
  go_ret
  exact ⟨zq6, zq31⟩
/-! ### spec_laParse: function 83 -/
mutual
def spec_laParse.j0 : Nat → ByteArray → Bool → Option (Int × List Int × Bool)
 | 0, _, _ => none
 | k + 1, x0, x28 => if x28 = true then (some (0, ([] : List Int), false)) else (if 0 < (x0.size : Int) then (spec_laParse.l0 k x0 2 (((bt x0 0) - 48) % 256) ([] : List Int)) else (none))
def spec_laParse.l0 : Nat → ByteArray → Int → Int → List Int → Option (Int × List Int × Bool)
 | 0, _, _, _, _ => none
 | k + 1, x0, x5, x575000, x575001 => if x5 < (x0.size : Int) then (if 2 ≤ (x0.size : Int) then (spec_laParse.j2 k x0 x5 ((x0.extract 2 x0.size).toList != ([45] : List UInt8)) x575000 x575001) else (none)) else (spec_laParse.j2 k x0 x5 false x575000 x575001)
def spec_laParse.j2 : Nat → ByteArray → Int → Bool → Int → List Int → Option (Int × List Int × Bool)
 | 0, _, _, _, _, _ => none
 | k + 1, x0, x5, x43, x575000, x575001 => if x43 = true then (if (Int.tmod x5 2) = 0 then (if 0 ≤ x5 then (if x5 < (x0.size : Int) then (if (bt x0 x5) ≥ 48 then (spec_laParse.j3 k x0 x5 (decide ((bt x0 x5) ≤ 57)) x575000 x575001) else (spec_laParse.j3 k x0 x5 false x575000 x575001)) else (none)) else (none)) else (spec_laParse.j3 k x0 x5 false x575000 x575001)) else ((spec_laGood.f k x575000 x575001).bind fun t578 => (if t578 = true then ((spec_laText.f k x575000 x575001).bind fun t579 => (if t579.toList = x0.toList then (some (x575000, x575001, true)) else (some (0, ([] : List Int), false)))) else (some (0, ([] : List Int), false))))
def spec_laParse.j3 : Nat → ByteArray → Int → Bool → Int → List Int → Option (Int × List Int × Bool)
 | 0, _, _, _, _, _ => none
 | k + 1, x0, x5, x47, x575000, x575001 => if x47 = true then (if 0 ≤ x5 then (if x5 < (x0.size : Int) then (if x575001.length < 17592186044416 then (spec_laParse.l0 k x0 (wrap64 (x5 + 1)) x575000 (x575001 ++ [((bt x0 x5) - 48) % 256])) else (none)) else (none)) else (none)) else (if (Int.tmod x5 2) = 1 then (if 0 ≤ x5 then (if x5 < (x0.size : Int) then (if (bt x0 x5) = 44 then (spec_laParse.l0 k x0 (wrap64 (x5 + 1)) x575000 x575001) else (some (0, ([] : List Int), false))) else (none)) else (none)) else (some (0, ([] : List Int), false)))
end
def spec_laParse.f (k : Nat) (a0 : ByteArray) : Option (Int × List Int × Bool) := if (a0.size : Int) < 3 then (spec_laParse.j0 k a0 true) else (if (a0.size : Int) > 121 then (spec_laParse.j0 k a0 true) else (if 0 < (a0.size : Int) then (if (bt a0 0) < 50 then (spec_laParse.j0 k a0 true) else (if (bt a0 0) > 56 then (spec_laParse.j0 k a0 true) else (if 1 < (a0.size : Int) then (spec_laParse.j0 k a0 ((bt a0 1) != 58)) else (none)))) else (none)))
theorem spec_laParse.mono_l : ∀ k, (∀ y0 y1, LeO (spec_laParse.j0 k y0 y1) (spec_laParse.j0 (k + 1) y0 y1)) ∧ (∀ y0 y1 y2 y3, LeO (spec_laParse.l0 k y0 y1 y2 y3) (spec_laParse.l0 (k + 1) y0 y1 y2 y3)) ∧ (∀ y0 y1 y2 y3 y4, LeO (spec_laParse.j2 k y0 y1 y2 y3 y4) (spec_laParse.j2 (k + 1) y0 y1 y2 y3 y4)) ∧ (∀ y0 y1 y2 y3 y4, LeO (spec_laParse.j3 k y0 y1 y2 y3 y4) (spec_laParse.j3 (k + 1) y0 y1 y2 y3 y4))
 | 0 => ⟨fun _ _ r h => by simp [spec_laParse.j0] at h, fun _ _ _ _ r h => by simp [spec_laParse.l0] at h, fun _ _ _ _ _ r h => by simp [spec_laParse.j2] at h, fun _ _ _ _ _ r h => by simp [spec_laParse.j3] at h⟩
 | k + 1 => by
  obtain ⟨ih0, ih1, ih2, ih3⟩ := spec_laParse.mono_l k
  refine ⟨?_, ?_, ?_, ?_⟩
  ·intro y0 y1
   unfold spec_laParse.j0
   repeat' first | (with_reducible first | exact ih0 _ _ | exact ih1 _ _ _ _ | exact ih2 _ _ _ _ _ | exact ih3 _ _ _ _ _ | exact spec_laGood.mono _ _ _ | exact spec_laText.mono _ _ _ | exact LeO.refl _ | exact LeO.none _ | refine LeO.ite ?_ ?_ | refine LeO.bind ?_ (fun _ => ?_))
  ·intro y0 y1 y2 y3
   unfold spec_laParse.l0
   repeat' first | (with_reducible first | exact ih0 _ _ | exact ih1 _ _ _ _ | exact ih2 _ _ _ _ _ | exact ih3 _ _ _ _ _ | exact spec_laGood.mono _ _ _ | exact spec_laText.mono _ _ _ | exact LeO.refl _ | exact LeO.none _ | refine LeO.ite ?_ ?_ | refine LeO.bind ?_ (fun _ => ?_))
  ·intro y0 y1 y2 y3 y4
   unfold spec_laParse.j2
   repeat' first | (with_reducible first | exact ih0 _ _ | exact ih1 _ _ _ _ | exact ih2 _ _ _ _ _ | exact ih3 _ _ _ _ _ | exact spec_laGood.mono _ _ _ | exact spec_laText.mono _ _ _ | exact LeO.refl _ | exact LeO.none _ | refine LeO.ite ?_ ?_ | refine LeO.bind ?_ (fun _ => ?_))
  ·intro y0 y1 y2 y3 y4
   unfold spec_laParse.j3
   repeat' first | (with_reducible first | exact ih0 _ _ | exact ih1 _ _ _ _ | exact ih2 _ _ _ _ _ | exact ih3 _ _ _ _ _ | exact spec_laGood.mono _ _ _ | exact spec_laText.mono _ _ _ | exact LeO.refl _ | exact LeO.none _ | refine LeO.ite ?_ ?_ | refine LeO.bind ?_ (fun _ => ?_))
theorem spec_laParse.mono : ∀ a0 k, LeO (spec_laParse.f k a0) (spec_laParse.f (k + 1) a0) := by
 intro a0 k
 obtain ⟨ih0, ih1, ih2, ih3⟩ := spec_laParse.mono_l k
 unfold spec_laParse.f
 repeat' first | (with_reducible first | exact ih0 _ _ | exact ih1 _ _ _ _ | exact ih2 _ _ _ _ _ | exact ih3 _ _ _ _ _ | exact spec_laGood.mono _ _ _ | exact spec_laText.mono _ _ _ | exact LeO.refl _ | exact LeO.none _ | refine LeO.ite ?_ ?_ | refine LeO.bind ?_ (fun _ => ?_))
def spec_laParse.T9 : Bool × List (List Nat × List Nat) := (true, [([], []), ([0], [0]), ([], []), ([], []), ([2, 3], [2, 3]), ([4], [4]), ([5], [5]), ([6], [6]), ([1, 7], [1, 7]), ([0, 1, 2, 3, 4, 5, 6, 7, 8], []), ([9, 8, 8, 0, 1, 2, 3, 4, 5, 6, 7, 8], [8, 9])])
def spec_laParse.B9 : List Nat := [0, 1, 0, 0, 12, 28, 60, 124, 255, 511, 1023]
theorem spec_laParse.tab9 : rtab .any (opsOf Tryz.f83 9) = spec_laParse.T9 := by kernel_rfl
theorem spec_laParse.bits9 : waitsOk spec_laParse.T9.2 spec_laParse.B9 = true := by kernel_rfl
theorem spec_laParse.calls (k : Nat) (a0 : ByteArray) (r1 : Int) (r2 : List Int) (r3 : Bool) (w : World) (h : spec_laParse.f k a0 = some (r1, r2, r3)) :
  Calls Tryz.prog 83 #[.string a0] w fun e w' => ∃ v1_ : Value, e = .returned (.tuple #[.agg #[.int .i64 r1, v1_], .bool r3]) ∧ Kd.R (Kd.int .i64) 3 w' w.heap.size (fun _ => True) v1_ r2 ∧ Below w.heap.size w w' := by
 have hu26 := Tryz.underlying26
 have HB := am (Below.refl w.heap.size w)
 unfold spec_laParse.f at h
 have H := h
 clear h
 have HC2 := am H
 clear H
 go_enter Tryz.func83, Tryz.ntmps83
 go_upto_region 1 with (first | ((with_reducible refine gate_dst (N := 2) rfl ?_); (try (refine gate_guard (by rfl) ?_; dsimp only)); refine zE 2 (cs := #[.int .i64 0, .slice none 0 0]) 26 ?_; intro gb573 hg w3 hbox hb; have BK573 := am (hbox); have GW573 := am ((zq78 : w.heap.size ≤ gb573)); replace HB := sB HB hb; clear hb hbox hg))
 (try simp only [Act.put, setIfInBounds_toArray, set_cons_zero, set_cons_succ])
 go_cut [28] (fun v28 wc => ∃ (kq : Nat) (x28_1 : Bool), v28 = .bool x28_1 ∧ Aside0 (spec_laParse.j0 kq a0 x28_1 = some (r1, r2, r3)) ∧ Aside0 (kq ≤ k) ∧ Aside0 (wc.heap[gb573]? = some (.cells #[.int .i64 0, (.slice none 0 0)] 26 (0, 0))) ∧ Aside0 (Below w.heap.size w wc))
 case first =>
  have H := HC2.out
  clear HC2
  by_cases c4 : (a0.size : Int) < 3
  ·rw [if_pos c4] at H
   have c4b0 := decide_eq_true c4
   have c4b1 : decide (a0.size < 3) = true := decide_eq_true zq32
   clear c4
   (first | rw [c4b0] | (simp only [i64_w, i32_w]; rw [c4b0]) | skip)
   have H' := am H
   clear H
   go_wp2
   go_meet
   case rel => exact ⟨_, (true), zq10, H', ⟨zq41⟩, ⟨zq28⟩, ⟨zq1⟩⟩
  ·rw [if_neg c4] at H
   have c4b0 := decide_eq_false c4
   have c4b1 : decide (a0.size < 3) = false := decide_eq_false zq32
   clear c4
   (first | rw [c4b0] | (simp only [i64_w, i32_w]; rw [c4b0]) | skip)
   by_cases c5 : (a0.size : Int) > 121
   ·rw [if_pos c5] at H
    have c5b0 : decide (121 < (a0.size : Int)) = true := decide_eq_true c5
    have c5b1 : decide (121 < a0.size) = true := decide_eq_true zq32
    clear c5
    have H' := am H
    clear H
    go_wp2
    go_meet
    case rel => exact ⟨_, (true), zq10, H', ⟨zq41⟩, ⟨zq28⟩, ⟨zq1⟩⟩
   ·rw [if_neg c5] at H
    have c5b0 : decide (121 < (a0.size : Int)) = false := decide_eq_false c5
    have c5b1 : decide (121 < a0.size) = false := decide_eq_false zq32
    clear c5
    obtain ⟨c6, H⟩ := zI H
    have c6b0 := decide_eq_true c6
    have c6b1 : decide (0 < a0.size) = true := decide_eq_true zq32
    clear c6
    by_cases c8 : (bt a0 0) < 50
    ·rw [if_pos c8] at H
     have c8b0 := decide_eq_true c8
     clear c8
     have H' := am H
     clear H
     have p7 : 0 ≤ (0 : Int) := zq32
     have q7 : 0 < a0.size := (by have : (0 : Int) < (a0.size : Int) := of_decide_eq_true zq9; omega)
     have hx7 : ∀ h : 0 < a0.size, ((a0[0]'h).toNat : Int) = bt a0 0 := bt_at a0 0
     clear p7
     have qi7 : (0 < (a0.size : Int)) = True := eq_true (of_decide_eq_true zq9)
     replace q7 := eq_true q7
     go_wp2
     go_meet
     case rel => exact ⟨_, (true), zq10, H', ⟨zq41⟩, ⟨zq28⟩, ⟨zq1⟩⟩
    ·rw [if_neg c8] at H
     have c8b0 := decide_eq_false c8
     clear c8
     by_cases c10 : (bt a0 0) > 56
     ·rw [if_pos c10] at H
      have c10b0 : decide (56 < (bt a0 0)) = true := decide_eq_true c10
      clear c10
      have H' := am H
      clear H
      have p7 : 0 ≤ (0 : Int) := zq32
      have q7 : 0 < a0.size := (by have : (0 : Int) < (a0.size : Int) := of_decide_eq_true zq9; omega)
      have hx7 : ∀ h : 0 < a0.size, ((a0[0]'h).toNat : Int) = bt a0 0 := bt_at a0 0
      clear p7
      have qi7 : (0 < (a0.size : Int)) = True := eq_true (of_decide_eq_true zq9)
      replace q7 := eq_true q7
      have p9 : 0 ≤ (0 : Int) := zq32
      have q9 : 0 < a0.size := (by have : (0 : Int) < (a0.size : Int) := of_decide_eq_true zq9; omega)
      have hx9 : ∀ h : 0 < a0.size, ((a0[0]'h).toNat : Int) = bt a0 0 := bt_at a0 0
      clear p9
      have qi9 : (0 < (a0.size : Int)) = True := eq_true (of_decide_eq_true zq9)
      replace q9 := eq_true q9
      go_wp2
      go_meet
      case rel => exact ⟨_, (true), zq10, H', ⟨zq41⟩, ⟨zq28⟩, ⟨zq1⟩⟩
     ·rw [if_neg c10] at H
      have c10b0 : decide (56 < (bt a0 0)) = false := decide_eq_false c10
      clear c10
      obtain ⟨c11, H⟩ := zI H
      have c11b0 := decide_eq_true c11
      have c11b1 : decide (1 < a0.size) = true := decide_eq_true zq32
      clear c11
      have H' := am H
      clear H
      have p7 : 0 ≤ (0 : Int) := zq32
      have q7 : 0 < a0.size := (by have : (0 : Int) < (a0.size : Int) := of_decide_eq_true zq9; omega)
      have hx7 : ∀ h : 0 < a0.size, ((a0[0]'h).toNat : Int) = bt a0 0 := bt_at a0 0
      clear p7
      have qi7 : (0 < (a0.size : Int)) = True := eq_true (of_decide_eq_true zq9)
      replace q7 := eq_true q7
      have p9 : 0 ≤ (0 : Int) := zq32
      have q9 : 0 < a0.size := (by have : (0 : Int) < (a0.size : Int) := of_decide_eq_true zq9; omega)
      have hx9 : ∀ h : 0 < a0.size, ((a0[0]'h).toNat : Int) = bt a0 0 := bt_at a0 0
      clear p9
      have qi9 : (0 < (a0.size : Int)) = True := eq_true (of_decide_eq_true zq9)
      replace q9 := eq_true q9
      have p12 : 0 ≤ (1 : Int) := zq32
      have q12 : 1 < a0.size := (by have : (1 : Int) < (a0.size : Int) := of_decide_eq_true zq9; omega)
      have hx12 : ∀ h : 1 < a0.size, ((a0[1]'h).toNat : Int) = bt a0 1 := bt_at a0 1
      clear p12
      have qi12 : (1 < (a0.size : Int)) = True := eq_true (of_decide_eq_true zq9)
      replace q12 := eq_true q12
      go_wp2
      go_meet
      case rel => exact ⟨_, (((bt a0 1) != 58)), zq10, H', ⟨zq41⟩, ⟨zq28⟩, ⟨zq1⟩⟩
 case rest =>
  clear HC2
  try clear hx1
  try clear qi1
  try clear hx7
  try clear qi7
  try clear hx9
  try clear qi9
  try clear hx12
  try clear qi12
  obtain ⟨kq, x28_1, rfl, HA, HJ1, BK573, HB⟩ := hcut
  cases kq with
  | zero => exact absurd HA.out (by simp [spec_laParse.j0])
  | succ kj1 =>
   have H := HA.out
   clear HA
   simp only [spec_laParse.j0] at H
   by_cases c13 : x28_1 = true
   ·subst c13
    rw [if_pos rfl] at H
    simp only [Option.some.injEq, Prod.mk.injEq] at H
    obtain ⟨rfl, rfl, rfl⟩ := H
    obtain ⟨hcz14_0, hcz14_1, hfz14_0, hfz14_1⟩ := sC BK573
    go_wp2
    refine bodyPost_ret (results_ct rfl _ _ gb573 26 #[.int .i64 0, .slice none 0 0] (0, 0) _ rfl (by (with_reducible repeat (first | refine blk_drewN ?_ _ | refine blk_drew ?_ | refine blk_alloc ?_ _)); refine blk_put (cs := #[.int .i64 0, .slice none 0 0]) ?_ 1 _ rfl; (with_reducible repeat (first | refine blk_drewN ?_ _ | refine blk_drew ?_ | refine blk_alloc ?_ _)); refine blk_put (cs := #[.int .i64 0, .slice none 0 0]) ?_ 0 _ rfl; (with_reducible repeat (first | refine blk_drewN ?_ _ | refine blk_drew ?_ | refine blk_alloc ?_ _)); exact BK573.out) Tryz.underlying26 rfl zq15) rfl ?_
    exact ⟨_, zq6, zq11, zq1⟩
   ·replace c13 := Bool.eq_false_iff.mpr c13
    subst c13
    rw [if_neg (show ¬ (false = true) by decide)] at H
    by_cases c15 : 0 < (a0.size : Int)
    ·rw [if_pos c15] at H
     have c15b0 := decide_eq_true c15
     have c15b1 : decide (0 < a0.size) = true := decide_eq_true zq32
     clear c15
     have H' := am H
     clear H
     have p16 : 0 ≤ (0 : Int) := zq32
     have q16 : 0 < a0.size := (by have : (0 : Int) < (a0.size : Int) := of_decide_eq_true zq9; omega)
     have hx16 : ∀ h : 0 < a0.size, ((a0[0]'h).toNat : Int) = bt a0 0 := bt_at a0 0
     clear p16
     have qi16 : (0 < (a0.size : Int)) = True := eq_true (of_decide_eq_true zq9)
     replace q16 := eq_true q16
     go_wp2_with (first | ((with_reducible refine gate_dst (N := 4) rfl ?_); (try (refine gate_guard (by rfl) ?_; dsimp only)); refine zE 4 (cs := #[.int .i64 0, .slice none 0 0]) 26 ?_; intro gb574 hg w17 hbox hb; have BK574 := am (hbox); have GW574 := am ((zq78 : w.heap.size ≤ gb574)); have NB573_574 := am ((by rw [hg]; exact Nat.ne_of_lt (blk_lt (pKq BK573)) : gb573 ≠ gb574)); have NB574_573 := am ((by rw [hg]; exact Nat.ne_of_gt (blk_lt (pKq BK573)) : gb574 ≠ gb573)); replace BK573 := sK BK573 hb; replace HB := sB HB hb; clear hb hbox hg; have hnb18 := NB574_573.out; have hnc18 := NB573_574.out; obtain ⟨hcz19_0, hcz19_1, hfz19_0, hfz19_1⟩ := sC BK574))
     go_loopg [5] kj1 (fun kq v5 w' => ∃ (x5_2 : Int) (x574000_2 : Int) (x575001_2 : List Int) (u575001 : Value), v5 = .int .i64 x5_2 ∧ Aside0 (spec_laParse.l0 kq a0 x5_2 (((bt a0 0) - 48) % 256) x575001_2 = some (r1, r2, r3)) ∧ Aside0 (kq ≤ kj1) ∧ Aside0 (Kd.R (Kd.int .i64) 3 w' w.heap.size (fun _ => True) u575001 x575001_2) ∧ Aside0 (w'.heap[gb573]? = some (.cells #[.int .i64 x574000_2, (.slice none 0 0)] 26 (0, 0))) ∧ Aside0 (w'.heap[gb574]? = some (.cells #[.int .i64 (((bt a0 0) - 48) % 256), u575001] 26 (0, 0))) ∧ Aside0 (Below w.heap.size w w'))
     case atStart => exact ⟨(2), (0), (([] : List Int)), (.slice none 0 0), zq10, H', ⟨Nat.le_refl _⟩, ⟨zq11⟩, ⟨by (with_reducible repeat (first | refine blk_drewN ?_ _ | refine blk_drew ?_ | refine blk_alloc ?_ _)); refine blk_far ?_ NB573_574.out _; (with_reducible repeat (first | refine blk_drewN ?_ _ | refine blk_drew ?_ | refine blk_alloc ?_ _)); refine blk_far ?_ NB573_574.out _; (with_reducible repeat (first | refine blk_drewN ?_ _ | refine blk_drew ?_ | refine blk_alloc ?_ _)); exact BK573.out⟩, ⟨by (with_reducible repeat (first | refine blk_drewN ?_ _ | refine blk_drew ?_ | refine blk_alloc ?_ _)); refine blk_put (cs := #[.int .i64 (((bt a0 0) - 48) % 256), .slice none 0 0]) ?_ 1 _ rfl; (with_reducible repeat (first | refine blk_drewN ?_ _ | refine blk_drew ?_ | refine blk_alloc ?_ _)); refine blk_put (cs := #[.int .i64 0, .slice none 0 0]) ?_ 0 _ rfl; (with_reducible repeat (first | refine blk_drewN ?_ _ | refine blk_drew ?_ | refine blk_alloc ?_ _)); exact BK574.out⟩, ⟨zq1⟩⟩
     case round =>
      clear H'
      try clear hx1
      try clear qi1
      try clear hx7
      try clear qi7
      try clear hx9
      try clear qi9
      try clear hx12
      try clear qi12
      try clear hx16
      try clear qi16
      obtain ⟨x5_2, x574000_2, x575001_2, u575001, rfl, HA, HK2, HO_575001, BK573, BK574, HB⟩ := hrel
      cases gk with
      | zero => exact absurd HA.out (by simp [spec_laParse.l0])
      | succ k2 =>
       have H := HA.out
       clear HA
       simp only [spec_laParse.l0] at H
       have HC20 := am H
       clear H
       go_upto_region 5 with (fail)
       go_cut [43] (fun v43 wc => ∃ (kq : Nat) (x43_19 : Bool), v43 = .bool x43_19 ∧ Aside0 (spec_laParse.j2 kq a0 x5_2 x43_19 (((bt a0 0) - 48) % 256) x575001_2 = some (r1, r2, r3)) ∧ Aside0 (kq ≤ k2) ∧ Aside0 (Kd.R (Kd.int .i64) 3 wc w.heap.size (fun _ => True) u575001 x575001_2) ∧ Aside0 (wc.heap[gb573]? = some (.cells #[.int .i64 x574000_2, (.slice none 0 0)] 26 (0, 0))) ∧ Aside0 (wc.heap[gb574]? = some (.cells #[.int .i64 (((bt a0 0) - 48) % 256), u575001] 26 (0, 0))) ∧ Aside0 (Below w.heap.size w wc))
       case first =>
        have H := HC20.out
        clear HC20
        by_cases c21 : x5_2 < (a0.size : Int)
        ·rw [if_pos c21] at H
         have c21b0 := decide_eq_true c21
         clear c21
         (first | rw [c21b0] | (simp only [i64_w, i32_w]; rw [c21b0]) | skip)
         obtain ⟨c22, H⟩ := zI H
         have c22b0 := eq_true c22
         have c22b1 := decide_eq_true c22
         clear c22
         have H' := am H
         clear H
         go_wp2
         go_meet
         case rel => exact ⟨_, (((a0.extract 2 a0.size).toList != ([45] : List UInt8))), zq10, H', ⟨by have := HJ1.out; have := HK2.out; first | omega | exact Nat.le_refl _⟩, ⟨zq55⟩, ⟨zq28⟩, ⟨zq52⟩, ⟨zq1⟩⟩
        ·rw [if_neg c21] at H
         have c21b0 := decide_eq_false c21
         clear c21
         (first | rw [c21b0] | (simp only [i64_w, i32_w]; rw [c21b0]) | skip)
         have H' := am H
         clear H
         go_wp2
         go_meet
         case rel => exact ⟨_, (false), zq10, H', ⟨by have := HJ1.out; have := HK2.out; first | omega | exact Nat.le_refl _⟩, ⟨zq55⟩, ⟨zq28⟩, ⟨zq52⟩, ⟨zq1⟩⟩
       case rest =>
        clear HC20
        try clear hx1
        try clear qi1
        try clear hx7
        try clear qi7
        try clear hx9
        try clear qi9
        try clear hx12
        try clear qi12
        try clear hx16
        try clear qi16
        obtain ⟨kq, x43_19, rfl, HA, HJ19, HO_575001, BK573, BK574, HB⟩ := hcut
        cases kq with
        | zero => exact absurd HA.out (by simp [spec_laParse.j2])
        | succ kj19 =>
         have H := HA.out
         clear HA
         simp only [spec_laParse.j2] at H
         by_cases c23 : x43_19 = true
         ·subst c23
          rw [if_pos rfl] at H
          have HC24 := am H
          clear H
          go_upto_region 8 with (fail)
          go_cut [47] (fun v47 wc => ∃ (kq : Nat) (x47_23 : Bool), v47 = .bool x47_23 ∧ Aside0 (spec_laParse.j3 kq a0 x5_2 x47_23 (((bt a0 0) - 48) % 256) x575001_2 = some (r1, r2, r3)) ∧ Aside0 (kq ≤ kj19) ∧ Aside0 (Kd.R (Kd.int .i64) 3 wc w.heap.size (fun _ => True) u575001 x575001_2) ∧ Aside0 (wc.heap[gb573]? = some (.cells #[.int .i64 x574000_2, (.slice none 0 0)] 26 (0, 0))) ∧ Aside0 (wc.heap[gb574]? = some (.cells #[.int .i64 (((bt a0 0) - 48) % 256), u575001] 26 (0, 0))) ∧ Aside0 (Below w.heap.size w wc))
          case first =>
           have H := HC24.out
           clear HC24
           by_cases c25 : (Int.tmod x5_2 2) = 0
           ·rw [if_pos c25] at H
            have c25b0 : ((Int.tmod x5_2 2) == 0) = true := beq_iff_eq.mpr c25
            have c25b1 : ((Int.tmod x5_2 2) != 0) = false := bne_eq_false_iff_eq.mpr c25
            clear c25
            (first | rw [c25b0] | (simp only [i64_w, i32_w]; rw [c25b0]) | skip)
            obtain ⟨c26, H⟩ := zI H
            have c26b0 := decide_eq_true c26
            clear c26
            obtain ⟨c27, H⟩ := zI H
            have c27b0 := decide_eq_true c27
            clear c27
            by_cases c29 : (bt a0 x5_2) ≥ 48
            ·rw [if_pos c29] at H
             have c29b0 : decide (48 ≤ (bt a0 x5_2)) = true := decide_eq_true c29
             clear c29
             have H' := am H
             clear H
             have p28 : 0 ≤ (x5_2 : Int) := of_decide_eq_true zq9
             have q28 : x5_2 < (a0.size : Int) := of_decide_eq_true zq9
             have hx28 := bt_at a0 x5_2
             replace p28 := eq_true p28
             replace q28 := eq_true q28
             have p30 : 0 ≤ (x5_2 : Int) := of_decide_eq_true zq9
             have q30 : x5_2 < (a0.size : Int) := of_decide_eq_true zq9
             have hx30 := bt_at a0 x5_2
             replace p30 := eq_true p30
             replace q30 := eq_true q30
             go_wp2
             go_meet
             case rel => exact ⟨_, (decide ((bt a0 x5_2) ≤ 57)), zq10, H', ⟨zq100⟩, ⟨zq55⟩, ⟨zq28⟩, ⟨zq52⟩, ⟨zq1⟩⟩
            ·rw [if_neg c29] at H
             have c29b0 : decide (48 ≤ (bt a0 x5_2)) = false := decide_eq_false c29
             clear c29
             have H' := am H
             clear H
             have p28 : 0 ≤ (x5_2 : Int) := of_decide_eq_true zq9
             have q28 : x5_2 < (a0.size : Int) := of_decide_eq_true zq9
             have hx28 := bt_at a0 x5_2
             replace p28 := eq_true p28
             replace q28 := eq_true q28
             go_wp2
             go_meet
             case rel => exact ⟨_, (false), zq10, H', ⟨zq100⟩, ⟨zq55⟩, ⟨zq28⟩, ⟨zq52⟩, ⟨zq1⟩⟩
           ·rw [if_neg c25] at H
            have c25b0 : ((Int.tmod x5_2 2) == 0) = false := beq_eq_false_iff_ne.mpr c25
            have c25b1 : ((Int.tmod x5_2 2) != 0) = true := bne_iff_ne.mpr c25
            (first | rw [c25b0] | (simp only [i64_w, i32_w]; rw [c25b0]) | skip)
            have H' := am H
            clear H
            go_wp2
            go_meet
            case rel => exact ⟨_, (false), zq10, H', ⟨zq100⟩, ⟨zq55⟩, ⟨zq28⟩, ⟨zq52⟩, ⟨zq1⟩⟩
          case rest =>
           clear HC24
           try clear hx1
           try clear qi1
           try clear hx2
           try clear hx3
           try clear hx7
           try clear qi7
           try clear hx9
           try clear qi9
           try clear hx12
           try clear qi12
           try clear hx16
           try clear qi16
           try clear hx28
           try clear hx30
           obtain ⟨kq, x47_23, rfl, HA, HJ23, HO_575001, BK573, BK574, HB⟩ := hcut
           cases kq with
           | zero => exact absurd HA.out (by simp [spec_laParse.j3])
           | succ kj23 =>
            have H := HA.out
            clear HA
            simp only [spec_laParse.j3] at H
            by_cases c31 : x47_23 = true
            ·subst c31
             rw [if_pos rfl] at H
             obtain ⟨c32, H⟩ := zI H
             have c32b0 := decide_eq_true c32
             clear c32
             obtain ⟨c33, H⟩ := zI H
             have c33b0 := decide_eq_true c33
             clear c33
             obtain ⟨c35, H⟩ := zI H
             have LMc35 := am c35
             clear c35
             obtain ⟨y575, Ny575⟩ : ∃ y_ : List Int, Aside0 (y_ = (x575001_2 ++ [((bt a0 x5_2) - 48) % 256])) := ⟨_, ⟨rfl⟩⟩
             rw [← Ny575.out] at H
             have H' := am H
             clear H
             try go_wp2
             replace HO_575001 := am (Kd.R_drew HO_575001.out)
             replace BK573 := am (blk_drew BK573.out)
             replace BK574 := am (blk_drew BK574.out)
             replace HB := am (below_drew1 HB.out)
             have p34 : 0 ≤ (x5_2 : Int) := of_decide_eq_true zq9
             have q34 : x5_2 < (a0.size : Int) := of_decide_eq_true zq9
             have hx34 := bt_at a0 x5_2
             replace p34 := eq_true p34
             replace q34 := eq_true q34
             refine start_ (n := 11) (S := fun w' => w'.cell? ⟨gb574, 0, none⟩ = some (.int .i64 (((bt a0 0) - 48) % 256)) ∧ w'.cell? ⟨gb574, 1, none⟩ = some (u575001)) (ds := [10]) #[false, false, false, false, false, false, false, false, false, false, false] zq15 rfl rfl ⟨(blk_cell BK574.out 0).trans rfl, (blk_cell BK574.out 1).trans rfl⟩ (fun hHeld => ?_); refine with_tabW spec_laParse.tab9 spec_laParse.bits9 (fun HT_ HW_ => ?_)
             generalize wc.drew = w36 at HO_575001 BK573 BK574 HB hHeld ⊢
             refine zU 0 63 HT_ ?_
             refine zU 2 65 HT_ ?_
             refine zU 3 66 HT_ ?_
             refine zT 1 64 HT_ HW_ hHeld ?_
             refine zT 4 67 HT_ HW_ hHeld ?_
             refine zU 5 68 HT_ ?_
             refine zU 6 69 HT_ ?_
             refine zO 7 70 HT_ fun K hK => ?_
             refine value_ (w1 := ?_) (v := ?_) (by rfl) rfl ?_ ?_
             rotate_left 2
             ·go_simp
              constructor
              ·rfl
              ·rfl
             refine hK.out _ _ ⟨(blk_cell (blk_alloc BK574.out _) 0).trans rfl, (blk_cell (blk_alloc BK574.out _) 1).trans rfl⟩ (fun hHeld => ?_)
             clear hK K
             refine zN 70 ?_
             refine zO 8 71 HT_ fun K hK => ?_
             rw [show wrap64 (IntKind.u8.wrap (bt a0 x5_2 - 48)) = (((bt a0 x5_2) - 48) % 256) from (by rw [IntKind.wrap_u8]; unfold wrap64; omega)]
             refine Kd.R_append_step (Kd.int .i64) (w0 := w) w.heap.size (by rfl) (.tmp 64) (.tmp 70) 24 3 (.int .i64 0) 8 rfl Tryz.underlying24 info3 rfl zq27 zq32 u575001 x575001_2 (((bt a0 x5_2) - 48) % 256) [.int .i64 (((bt a0 x5_2) - 48) % 256)] (fun _ => True) (fun _ => False) rfl rfl ?aP (fun _ hk => hk.elim) ?aF ?aO ?aB ?aS ?aL ?_
             (case aP => exact rfl)
             (case aB => exact (pBq HB))
             (case aF => exact zq99)
             (case aO => exact (pRq HO_575001))
             (case aS => exact (below_size (pBq HB)))
             (case aL => have := LMc35.out; omega)
             intro v576 w37 ho hb hg hat
             rw [← Ny575.out] at ho
             have HO577 := am (ho)
             replace BK573 := am (blk_grown (g := gb573) (o := .cells #[.int .i64 x574000_2, .slice none 0 0] 26 (0, 0)) (pKq BK573) hg (Kd.R_ne HO_575001.out BK573.out zq27))
             replace BK574 := am (blk_grown (g := gb574) (o := .cells #[.int .i64 (((bt a0 0) - 48) % 256), u575001] 26 (0, 0)) (pKq BK574) hg (Kd.R_ne HO_575001.out BK574.out zq27))
             replace HB := am (hb)
             clear HO_575001
             clear ho hb hg hat
             obtain ⟨Ao38, co38, eo38⟩ := Kd.R_slice HO577.out
             (first | subst eo38 | (injection eo38 with f1_ f2_ f3_; have f4_ := f1_.symm; have f5_ := f3_.symm; clear f1_ f2_ f3_; subst f4_; subst f5_))
             refine hK.out _ _ ⟨(blk_cell BK574.out 0).trans rfl, (blk_cell BK574.out 1).trans rfl⟩ (fun hHeld => ?_)
             clear hK K
             refine zN 71 ?_
             refine zU 9 72 HT_ ?_
             refine last_ (i := 10) (N := none) #[true, true, true, true, true, true, true, true, true, true, true] rfl rfl (one_of HT_.out zq15) zq27 (fun K hK => ?_)
             have hs39 : w37.cell? ⟨gb574, 1, none⟩ = some (u575001) := (blk_cell BK574.out 1).trans rfl
             have hfs39 := blk_frozen BK574.out 1
             have hns39_0 := NB573_574.out
             have hms39_0 := NB574_573.out
             refine skip_ (w1 := ?_) (by rfl) rfl ?_ ?_
             rotate_left
             ·go_simp
              rfl
             refine hK.out _ _ ?_
             clear hK K
             refine done_ (done_of HT_.out zq15) ?_
             try go_wp2
             go_roundg kj23
             case measure => have := HJ1.out; have := HK2.out; have := HJ19.out; have := HJ23.out; omega
             case rel => exact ⟨(wrap64 (x5_2 + 1)), (x574000_2), (y575), (.slice Ao38 y575.length co38), zq10, H', ⟨by have := HJ1.out; have := HK2.out; have := HJ19.out; have := HJ23.out; omega⟩, ⟨by (with_reducible repeat (first | apply Kd.R_alloc | apply Kd.R_drewN | apply Kd.R_drew)); exact Kd.R_mono (Kd.R_far (p := ⟨gb574, 1, none⟩) (Kd.R_types HO577.out BK574.out zq27) (fun _ hk => hk.2) (.slice Ao38 y575.length co38)) (fun _ hk => trivial)⟩, ⟨by (with_reducible repeat (first | refine blk_drewN ?_ _ | refine blk_drew ?_ | refine blk_alloc ?_ _)); refine blk_far ?_ NB573_574.out _; (with_reducible repeat (first | refine blk_drewN ?_ _ | refine blk_drew ?_ | refine blk_alloc ?_ _)); exact BK573.out⟩, ⟨by (with_reducible repeat (first | refine blk_drewN ?_ _ | refine blk_drew ?_ | refine blk_alloc ?_ _)); refine blk_put (cs := #[.int .i64 (((bt a0 0) - 48) % 256), u575001]) ?_ 1 _ rfl; (with_reducible repeat (first | refine blk_drewN ?_ _ | refine blk_drew ?_ | refine blk_alloc ?_ _)); exact BK574.out⟩, ⟨zq1⟩⟩
            ·replace c31 := Bool.eq_false_iff.mpr c31
             subst c31
             rw [if_neg (show ¬ (false = true) by decide)] at H
             by_cases c40 : (Int.tmod x5_2 2) = 1
             ·rw [if_pos c40] at H
              have c40b0 : ((Int.tmod x5_2 2) == 1) = true := beq_iff_eq.mpr c40
              have c40b1 : ((Int.tmod x5_2 2) != 1) = false := bne_eq_false_iff_eq.mpr c40
              clear c40
              obtain ⟨c41, H⟩ := zI H
              have c41b0 := decide_eq_true c41
              clear c41
              obtain ⟨c42, H⟩ := zI H
              have c42b0 := decide_eq_true c42
              clear c42
              by_cases c44 : (bt a0 x5_2) = 44
              ·rw [if_pos c44] at H
               have c44b0 : ((bt a0 x5_2) == 44) = true := beq_iff_eq.mpr c44
               have c44b1 : ((bt a0 x5_2) != 44) = false := bne_eq_false_iff_eq.mpr c44
               clear c44
               have H' := am H
               clear H
               have p43 : 0 ≤ (x5_2 : Int) := of_decide_eq_true zq9
               have q43 : x5_2 < (a0.size : Int) := of_decide_eq_true zq9
               have hx43 := bt_at a0 x5_2
               replace p43 := eq_true p43
               replace q43 := eq_true q43
               go_wp2
               go_roundg kj23
               case measure => have := HJ1.out; have := HK2.out; have := HJ19.out; have := HJ23.out; omega
               case rel => exact ⟨(wrap64 (x5_2 + 1)), (x574000_2), (x575001_2), (u575001), zq10, H', ⟨by have := HJ1.out; have := HK2.out; have := HJ19.out; have := HJ23.out; omega⟩, ⟨zq55⟩, ⟨zq28⟩, ⟨zq52⟩, ⟨zq1⟩⟩
              ·rw [if_neg c44] at H
               have c44b0 : ((bt a0 x5_2) == 44) = false := beq_eq_false_iff_ne.mpr c44
               have c44b1 : ((bt a0 x5_2) != 44) = true := bne_iff_ne.mpr c44
               simp only [Option.some.injEq, Prod.mk.injEq] at H
               obtain ⟨rfl, rfl, rfl⟩ := H
               have p43 : 0 ≤ (x5_2 : Int) := of_decide_eq_true zq9
               have q43 : x5_2 < (a0.size : Int) := of_decide_eq_true zq9
               have hx43 := bt_at a0 x5_2
               replace p43 := eq_true p43
               replace q43 := eq_true q43
               have hnb45 := NB573_574.out
               have hnc45 := NB574_573.out
               obtain ⟨hcz46_0, hcz46_1, hfz46_0, hfz46_1⟩ := sC BK573
               go_wp2
               refine bodyPost_ret (results_ct rfl _ _ gb573 26 #[.int .i64 0, .slice none 0 0] (0, 0) _ rfl zq22 Tryz.underlying26 rfl zq15) rfl ?_
               exact ⟨_, zq6, zq11, zq1⟩
             ·rw [if_neg c40] at H
              have c40b0 : ((Int.tmod x5_2 2) == 1) = false := beq_eq_false_iff_ne.mpr c40
              have c40b1 : ((Int.tmod x5_2 2) != 1) = true := bne_iff_ne.mpr c40
              simp only [Option.some.injEq, Prod.mk.injEq] at H
              obtain ⟨rfl, rfl, rfl⟩ := H
              have hnb47 := NB573_574.out
              have hnc47 := NB574_573.out
              obtain ⟨hcz48_0, hcz48_1, hfz48_0, hfz48_1⟩ := sC BK573
              go_wp2
              refine bodyPost_ret (results_ct rfl _ _ gb573 26 #[.int .i64 0, .slice none 0 0] (0, 0) _ rfl zq22 Tryz.underlying26 rfl zq15) rfl ?_
              exact ⟨_, zq6, zq11, zq1⟩
         ·replace c23 := Bool.eq_false_iff.mpr c23
          subst c23
          rw [if_neg (show ¬ (false = true) by decide)] at H
          obtain ⟨t578, A49, H⟩ := zS H
          (try dsimp only at H)
          by_cases c50 : t578 = true
          ·subst c50
           rw [if_pos rfl] at H
           obtain ⟨t579, A51, H⟩ := zS H
           (try dsimp only at H)
           by_cases c52 : t579.toList = a0.toList
           ·rw [if_pos c52] at H
            have c52b0 : (t579.toList == a0.toList) = true := beq_iff_eq.mpr c52
            have c52b1 : (t579.toList != a0.toList) = false := bne_eq_false_iff_eq.mpr c52
            clear c52
            simp only [Option.some.injEq, Prod.mk.injEq] at H
            obtain ⟨rfl, rfl, rfl⟩ := H
            have hnb53 := NB574_573.out
            have hnc53 := NB573_574.out
            obtain ⟨hcz54_0, hcz54_1, hfz54_0, hfz54_1⟩ := sC BK574
            obtain ⟨Ao55, co55, eo55⟩ := Kd.R_slice HO_575001.out
            subst eo55
            go_wp2_with (first | ((with_reducible refine gate_callee (f := 59) rfl ?_); refine goesL_ (some 84) rfl rfl Tryz.func59 zq15 rfl #[.agg #[.int .i64 (((bt a0 0) - 48) % 256), .slice Ao55 x575001_2.length co55]] rfl zq0 ?_; (with_reducible refine (spec_laGood.calls kj19 (((bt a0 0) - 48) % 256) _ _ x575001_2 true _ ?side1 ?side2 A49.out).mono ?_); (case side1 => exact zq46); (case side2 => exact (Kd.R_reads' HO_575001.out).2.1); rintro e w56 ⟨rfl, hb⟩; refine ⟨_, rfl, ?_⟩; replace HO_575001 := sR HO_575001 hb; replace BK573 := sK BK573 hb; replace BK574 := sK BK574 hb; replace HB := sB HB hb; (try clear hb); obtain ⟨hcz57_0, hcz57_1, hfz57_0, hfz57_1⟩ := sC BK574) | (go_at_call 61; (with_reducible refine (spec_laText.calls kj19 (((bt a0 0) - 48) % 256) _ _ x575001_2 t579 _ ?side1 ?side2 A51.out).mono ?_); (case side1 => exact zq46); (case side2 => exact (Kd.R_reads' HO_575001.out).2.1); rintro e w58 ⟨rfl, hb⟩; replace HO_575001 := sR HO_575001 hb; replace BK573 := sK BK573 hb; replace BK574 := sK BK574 hb; replace HB := sB HB hb; (try clear hb); obtain ⟨hcz59_0, hcz59_1, hfz59_0, hfz59_1⟩ := sC BK574; obtain ⟨hcz60_0, hcz60_1, hfz60_0, hfz60_1⟩ := sC BK573))
            refine bodyPost_ret (results_ct rfl _ _ gb573 26 #[.int .i64 (((bt a0 0) - 48) % 256), .slice Ao55 x575001_2.length co55] (0, 0) _ rfl (by (with_reducible repeat (first | refine blk_drewN ?_ _ | refine blk_drew ?_ | refine blk_alloc ?_ _)); refine blk_put (cs := #[.int .i64 (((bt a0 0) - 48) % 256), .slice none 0 0]) ?_ 1 _ rfl; (with_reducible repeat (first | refine blk_drewN ?_ _ | refine blk_drew ?_ | refine blk_alloc ?_ _)); refine blk_put (cs := #[.int .i64 x574000_2, .slice none 0 0]) ?_ 0 _ rfl; (with_reducible repeat (first | refine blk_drewN ?_ _ | refine blk_drew ?_ | refine blk_alloc ?_ _)); exact BK573.out) Tryz.underlying26 rfl zq15) rfl ?_
            exact ⟨_, zq6, by (with_reducible repeat (first | apply Kd.R_alloc | apply Kd.R_drewN | apply Kd.R_drew)); exact Kd.R_mono (Kd.R_far (p := ⟨gb573, 1, none⟩) (Kd.R_far (p := ⟨gb573, 0, none⟩) (Kd.R_types HO_575001.out BK573.out zq27) (fun _ hk => hk.2) (.int .i64 (((bt a0 0) - 48) % 256))) (fun _ hk => hk.2) (.slice Ao55 x575001_2.length co55)) (fun _ hk => trivial), zq1⟩
           ·rw [if_neg c52] at H
            have c52b0 : (t579.toList == a0.toList) = false := beq_eq_false_iff_ne.mpr c52
            have c52b1 : (t579.toList != a0.toList) = true := bne_iff_ne.mpr c52
            simp only [Option.some.injEq, Prod.mk.injEq] at H
            obtain ⟨rfl, rfl, rfl⟩ := H
            have hnb61 := NB574_573.out
            have hnc61 := NB573_574.out
            obtain ⟨hcz62_0, hcz62_1, hfz62_0, hfz62_1⟩ := sC BK574
            obtain ⟨Ao63, co63, eo63⟩ := Kd.R_slice HO_575001.out
            subst eo63
            go_wp2_with (first | ((with_reducible refine gate_callee (f := 59) rfl ?_); refine goesL_ (some 84) rfl rfl Tryz.func59 zq15 rfl #[.agg #[.int .i64 (((bt a0 0) - 48) % 256), .slice Ao63 x575001_2.length co63]] rfl zq0 ?_; (with_reducible refine (spec_laGood.calls kj19 (((bt a0 0) - 48) % 256) _ _ x575001_2 true _ ?side1 ?side2 A49.out).mono ?_); (case side1 => exact zq46); (case side2 => exact (Kd.R_reads' HO_575001.out).2.1); rintro e w64 ⟨rfl, hb⟩; refine ⟨_, rfl, ?_⟩; replace HO_575001 := sR HO_575001 hb; replace BK573 := sK BK573 hb; replace BK574 := sK BK574 hb; replace HB := sB HB hb; (try clear hb); obtain ⟨hcz65_0, hcz65_1, hfz65_0, hfz65_1⟩ := sC BK574) | (go_at_call 61; (with_reducible refine (spec_laText.calls kj19 (((bt a0 0) - 48) % 256) _ _ x575001_2 t579 _ ?side1 ?side2 A51.out).mono ?_); (case side1 => exact zq46); (case side2 => exact (Kd.R_reads' HO_575001.out).2.1); rintro e w66 ⟨rfl, hb⟩; replace HO_575001 := sR HO_575001 hb; replace BK573 := sK BK573 hb; replace BK574 := sK BK574 hb; replace HB := sB HB hb; (try clear hb); obtain ⟨hcz67_0, hcz67_1, hfz67_0, hfz67_1⟩ := sC BK573))
            refine bodyPost_ret (results_ct rfl _ _ gb573 26 #[.int .i64 0, .slice none 0 0] (0, 0) _ rfl zq22 Tryz.underlying26 rfl zq15) rfl ?_
            exact ⟨_, zq6, zq11, zq1⟩
          ·replace c50 := Bool.eq_false_iff.mpr c50
           subst c50
           rw [if_neg (show ¬ (false = true) by decide)] at H
           simp only [Option.some.injEq, Prod.mk.injEq] at H
           obtain ⟨rfl, rfl, rfl⟩ := H
           have hnb68 := NB574_573.out
           have hnc68 := NB573_574.out
           obtain ⟨hcz69_0, hcz69_1, hfz69_0, hfz69_1⟩ := sC BK574
           obtain ⟨Ao70, co70, eo70⟩ := Kd.R_slice HO_575001.out
           subst eo70
           go_wp2_with (first | ((with_reducible refine gate_callee (f := 59) rfl ?_); refine goesL_ (some 84) rfl rfl Tryz.func59 zq15 rfl #[.agg #[.int .i64 (((bt a0 0) - 48) % 256), .slice Ao70 x575001_2.length co70]] rfl zq0 ?_; (with_reducible refine (spec_laGood.calls kj19 (((bt a0 0) - 48) % 256) _ _ x575001_2 false _ ?side1 ?side2 A49.out).mono ?_); (case side1 => exact zq46); (case side2 => exact (Kd.R_reads' HO_575001.out).2.1); rintro e w71 ⟨rfl, hb⟩; refine ⟨_, rfl, ?_⟩; replace HO_575001 := sR HO_575001 hb; replace BK573 := sK BK573 hb; replace BK574 := sK BK574 hb; replace HB := sB HB hb; (try clear hb); obtain ⟨hcz72_0, hcz72_1, hfz72_0, hfz72_1⟩ := sC BK573))
           refine bodyPost_ret (results_ct rfl _ _ gb573 26 #[.int .i64 0, .slice none 0 0] (0, 0) _ rfl zq22 Tryz.underlying26 rfl zq15) rfl ?_
           exact ⟨_, zq6, zq11, zq1⟩
    ·rw [if_neg c15] at H
     exact absurd H zq42
/-! ### spec_ParseLadder: function 31 -/
def spec_ParseLadder.f (k : Nat) (a0 : ByteArray) : Option (Int × List Int × Bool) := (spec_laParse.f k a0).bind fun bt581 => (some (bt581.1, bt581.2.1, bt581.2.2))
theorem spec_ParseLadder.mono : ∀ a0 k, LeO (spec_ParseLadder.f k a0) (spec_ParseLadder.f (k + 1) a0) := by
 intro a0 k
 unfold spec_ParseLadder.f
 repeat' first | (with_reducible first | exact spec_laParse.mono _ _ | exact LeO.refl _ | exact LeO.none _ | refine LeO.ite ?_ ?_ | refine LeO.bind ?_ (fun _ => ?_))
theorem spec_ParseLadder.calls (k : Nat) (a0 : ByteArray) (r1 : Int) (r2 : List Int) (r3 : Bool) (w : World) (h : spec_ParseLadder.f k a0 = some (r1, r2, r3)) :
  Calls Tryz.prog 31 #[.string a0] w fun e w' => ∃ v1_ : Value, e = .returned (.tuple #[.agg #[.int .i64 r1, v1_], .bool r3]) ∧ Kd.R (Kd.int .i64) 3 w' w.heap.size (fun _ => True) v1_ r2 ∧ Below w.heap.size w w' := by
 have hu26 := Tryz.underlying26
 have HB := am (Below.refl w.heap.size w)
 unfold spec_ParseLadder.f at h
 have H := h
 clear h
 replace H := Option.bind_eq_some_iff.mp H
 obtain ⟨⟨t581, t582, t585⟩, A20, H⟩ := H
 (try dsimp only at H)
 have A2 := am A20
 clear A20
 simp only [Option.some.injEq, Prod.mk.injEq] at H
 obtain ⟨rfl, rfl, rfl⟩ := H
 go_enter Tryz.func31, Tryz.ntmps31
 go_wp2_with (first | ((with_reducible refine gate_dst (N := 2) rfl ?_); refine zE 2 (cs := #[.int .i64 0, .slice none 0 0]) 26 ?_; intro gb580 hg w3 hbox hb; have BK580 := am (hbox); have GW580 := am ((zq78 : w.heap.size ≤ gb580)); replace HB := sB HB hb; clear hb hbox hg) | ((with_reducible refine gate_callee (f := 83) rfl ?_); refine goesL_ (some 5) rfl rfl Tryz.func83 zq15 rfl #[.string a0] rfl zq0 ?_; (with_reducible refine (spec_laParse.calls k a0 t581 t582 t585 _ A2.out).mono ?_); rintro e w4 ⟨v583, rfl, ho0, hb⟩; refine ⟨_, rfl, ?_⟩; have HO584 := am (Kd.R_lower ho0 (below_size (pBq HB))); replace BK580 := sK BK580 hb; replace HB := sB HB hb; (try clear hb ho0); obtain ⟨hcz5_0, hcz5_1, hfz5_0, hfz5_1⟩ := sC BK580; obtain ⟨Ao6, co6, eo6⟩ := Kd.R_slice HO584.out; subst eo6))
 refine bodyPost_ret (results_ct rfl _ _ gb580 26 #[.int .i64 t581, .slice Ao6 t582.length co6] (0, 0) _ rfl (by (with_reducible repeat (first | refine blk_drewN ?_ _ | refine blk_drew ?_ | refine blk_alloc ?_ _)); refine blk_put (cs := #[.int .i64 t581, .slice none 0 0]) ?_ 1 _ rfl; (with_reducible repeat (first | refine blk_drewN ?_ _ | refine blk_drew ?_ | refine blk_alloc ?_ _)); refine blk_put (cs := #[.int .i64 0, .slice none 0 0]) ?_ 0 _ rfl; (with_reducible repeat (first | refine blk_drewN ?_ _ | refine blk_drew ?_ | refine blk_alloc ?_ _)); exact BK580.out) Tryz.underlying26 rfl zq15) rfl ?_
 exact ⟨_, zq6, by (with_reducible repeat (first | apply Kd.R_alloc | apply Kd.R_drewN | apply Kd.R_drew)); exact Kd.R_mono (Kd.R_far (p := ⟨gb580, 1, none⟩) (Kd.R_far (p := ⟨gb580, 0, none⟩) (Kd.R_types HO584.out BK580.out zq27) (fun _ hk => hk.2) (.int .i64 t581)) (fun _ hk => hk.2) (.slice Ao6 t582.length co6)) (fun _ hk => trivial), zq1⟩
end
end Go.Proofs.YtlmiiijjjcddkaaGreatDoor.PLg
