-- Written for this claim by a program of this session (myprint.py) over the kit's printer.
import Derived.Test.YtlmiiijjjcddkaaGreatDoorPLgx0
import Derived.Test.YtlmiiijjjcddkaaGreatDoorPLgx1
import Derived.Test.YtlmiiijjjcddkaaGreatDoorPLgx2
import Derived.Test.YtlmiiijjjcddkaaGreatDoorPLgx4
import Derived.Test.YtlmiiijjjcddkaaGreatDoorPLgx7
namespace Go.Proofs.YtlmiiijjjcddkaaGreatDoor.PLg
noncomputable section
open Go.RowKit Go.Proofs.YtlmiiijjjcddkaaGreatDoorW.PrintWords Go.Proofs.YtlmiiijjjcddkaaGreatDoorW.PrintLast Go.Proofs.YtlmiiijjjcddkaaGreatDoorW.PrintMore
attribute [local go_sem] max2_int min2_int max_two min_two max_three min_three max_four min_four   -- for this text's walks alone
open List (setIfInBounds_toArray set_cons_zero set_cons_succ)
set_option maxHeartbeats 8000000
set_option maxRecDepth 100000
set_option linter.unusedVariables false
set_option linter.unusedSimpArgs false
/-! ### impl_RepeatLadder: function 27 -/
def impl_RepeatLadder.j0 : Nat → Int → Bool → Int → List Int → Option (Int × List Int × Bool)
 | 0, _, _, _, _ => none
 | k + 1, x1, x26, x513000, x513001 => if x26 = true then (some (0, ([] : List Int), false)) else (if (x513001.length : Int) = 0 then ((slices_Repeat_int_int.f x513001 0).bind fun t515 => (some (x513000, t515, true))) else ((slices_Repeat_int_int.f x513001 x1).bind fun t518 => (some (x513000, t518, true))))
def impl_RepeatLadder.f (k : Nat) (a0_0 : Int) (l0_1 : List Int) (a1 : Int) : Option (Int × List Int × Bool) := (impl_isLadder.f a0_0 l0_1).bind fun t514 => (if t514 = true then (if a1 < 0 then (impl_RepeatLadder.j0 k a1 true a0_0 l0_1) else (if (l0_1.length : Int) > 0 then (if (l0_1.length : Int) = 0 then (none) else (impl_RepeatLadder.j0 k a1 (decide (a1 > (wrap64 ((60 : Int) / (l0_1.length : Int))))) a0_0 l0_1)) else (impl_RepeatLadder.j0 k a1 false a0_0 l0_1))) else (impl_RepeatLadder.j0 k a1 true a0_0 l0_1))
theorem impl_RepeatLadder.mono_l : ∀ k, (∀ y0 y1 y2 y3, LeO (impl_RepeatLadder.j0 k y0 y1 y2 y3) (impl_RepeatLadder.j0 (k + 1) y0 y1 y2 y3))
 | 0 => fun _ _ _ _ r h => by simp [impl_RepeatLadder.j0] at h
 | k + 1 => by
  have ih0 := impl_RepeatLadder.mono_l k
  ·intro y0 y1 y2 y3
   unfold impl_RepeatLadder.j0
   repeat' first | (with_reducible first | exact ih0 _ _ _ _ | exact LeO.refl _ | exact LeO.none _ | refine LeO.ite ?_ ?_ | refine LeO.bind ?_ (fun _ => ?_))
theorem impl_RepeatLadder.mono : ∀ a0 a1 a2 k, LeO (impl_RepeatLadder.f k a0 a1 a2) (impl_RepeatLadder.f (k + 1) a0 a1 a2) := by
 intro a0 a1 a2 k
 have ih0 := impl_RepeatLadder.mono_l k
 unfold impl_RepeatLadder.f
 repeat' first | (with_reducible first | exact ih0 _ _ _ _ | exact LeO.refl _ | exact LeO.none _ | refine LeO.ite ?_ ?_ | refine LeO.bind ?_ (fun _ => ?_))
def impl_RepeatLadder.T5 : Bool × List (List Nat × List Nat) := (true, [([], []), ([0], [0]), ([], []), ([2], [2]), ([], []), ([3, 4], [3, 4]), ([1, 5], [1, 5]), ([6, 5, 0, 1, 2, 3, 4, 5, 6], [6]), ([7, 0, 1, 2, 3, 4, 5, 6, 7], [])])
def impl_RepeatLadder.B5 : List Nat := [0, 1, 0, 4, 0, 28, 63, 127, 255]
theorem impl_RepeatLadder.tab5 : rtab .any (opsOf Tryz.f27 5) = impl_RepeatLadder.T5 := by kernel_rfl
theorem impl_RepeatLadder.bits5 : waitsOk impl_RepeatLadder.T5.2 impl_RepeatLadder.B5 = true := by kernel_rfl
theorem impl_RepeatLadder.calls (k : Nat) (a0_0 : Int) (A0_1 : Option Addr) (c0_1 : Nat) (l0_1 : List Int) (a1 : Int) (r1 : Int) (r2 : List Int) (r3 : Bool) (w : World) (hr0_1 : Kd.C (Kd.int .i64) w A0_1 l0_1.length l0_1) (hc0_1 : l0_1.length ≤ c0_1) (h : impl_RepeatLadder.f k a0_0 l0_1 a1 = some (r1, r2, r3)) :
  Calls Tryz.prog 27 #[.agg #[.int .i64 a0_0, .slice A0_1 l0_1.length c0_1], .int .i64 a1] w fun e w' => ∃ v1_ : Value, e = .returned (.tuple #[.agg #[.int .i64 r1, v1_], .bool r3]) ∧ Kd.R (Kd.int .i64) 3 w' w.heap.size (fun _ => True) v1_ r2 ∧ Below w.heap.size w w' := by
 have hu26 := Tryz.underlying26
 have HR0_1 := am hr0_1
 have HC0_1 := am hc0_1
 clear hr0_1 hc0_1
 have HB := am (Below.refl w.heap.size w)
 unfold impl_RepeatLadder.f at h
 have H := h
 clear h
 have HC3 := am H
 clear H
 go_enter Tryz.func27, Tryz.ntmps27
 go_upto_region 1 with (first | ((with_reducible refine gate_dst (N := 2) rfl ?_); (try (refine gate_guard (by rfl) ?_; dsimp only)); refine zE 2 (cs := #[.int .i64 a0_0, .slice A0_1 l0_1.length c0_1]) 26 ?_; intro gb512 hg w4 hbox hb; have BK512 := am (hbox); have GW512 := am ((zq56 : w.heap.size ≤ gb512)); replace HB := sB HB hb; clear hb hbox hg) | ((with_reducible refine gate_dst (N := 4) rfl ?_); (try (refine gate_guard (by rfl) ?_; dsimp only)); refine zE 4 (cs := #[.int .i64 0, .slice none 0 0]) 26 ?_; intro gb513 hg w5 hbox hb; have BK513 := am (hbox); have GW513 := am ((zq56 : w.heap.size ≤ gb513)); have NB512_513 := am ((by rw [hg]; exact Nat.ne_of_lt (blk_lt (pKq BK512)) : gb512 ≠ gb513)); have NB513_512 := am ((by rw [hg]; exact Nat.ne_of_gt (blk_lt (pKq BK512)) : gb513 ≠ gb512)); replace BK512 := sK BK512 hb; replace HB := sB HB hb; clear hb hbox hg))
 (try simp only [Act.put, setIfInBounds_toArray, set_cons_zero, set_cons_succ])
 go_cut [26] (fun v26 wc => ∃ (kq : Nat) (x26_2 : Bool), v26 = .bool x26_2 ∧ Aside0 (impl_RepeatLadder.j0 kq a1 x26_2 a0_0 l0_1 = some (r1, r2, r3)) ∧ Aside0 (kq ≤ k) ∧ Aside0 (wc.heap[gb512]? = some (.cells #[.int .i64 a0_0, (.slice A0_1 l0_1.length c0_1)] 26 (0, 0))) ∧ Aside0 (wc.heap[gb513]? = some (.cells #[.int .i64 0, (.slice none 0 0)] 26 (0, 0))) ∧ Aside0 (Below w.heap.size w wc))
 case first =>
  have H := HC3.out
  clear HC3
  obtain ⟨t514, A6, H⟩ := zS H
  (try dsimp only at H)
  by_cases c7 : t514 = true
  ·subst c7
   rw [if_pos rfl] at H
   by_cases c8 : a1 < 0
   ·rw [if_pos c8] at H
    have c8b0 := decide_eq_true c8
    clear c8
    (first | rw [c8b0] | (simp only [i64_w, i32_w]; rw [c8b0]) | skip)
    have H' := am H
    clear H
    have hnb9 := NB512_513.out
    have hnc9 := NB513_512.out
    obtain ⟨hcz10_0, hcz10_1, hfz10_0, hfz10_1⟩ := sC BK512
    go_wp2_with (first | ((with_reducible refine gate_callee (f := 56) rfl ?_); refine goesL_ (some 7) rfl rfl Tryz.func56 zq15 rfl #[.agg #[.int .i64 a0_0, .slice A0_1 l0_1.length c0_1]] rfl zq0 ?_; (with_reducible refine (impl_isLadder.calls a0_0 _ _ l0_1 true _ ?side1 ?side2 A6.out).mono ?_); (case side1 => exact zq7); (case side2 => exact zq97); rintro e w11 ⟨rfl, hb⟩; refine ⟨_, rfl, ?_⟩; replace BK512 := sK BK512 hb; replace BK513 := sK BK513 hb; replace HB := sB HB hb; (try clear hb)))
    go_meet
    case rel => exact ⟨_, (true), zq10, H', ⟨zq41⟩, ⟨zq73⟩, ⟨zq72⟩, ⟨zq1⟩⟩
   ·rw [if_neg c8] at H
    have c8b0 := decide_eq_false c8
    clear c8
    (first | rw [c8b0] | (simp only [i64_w, i32_w]; rw [c8b0]) | skip)
    by_cases c12 : (l0_1.length : Int) > 0
    ·rw [if_pos c12] at H
     have c12b0 : decide (0 < (l0_1.length : Int)) = true := decide_eq_true c12
     have c12b1 : decide (0 < l0_1.length) = true := decide_eq_true zq32
     clear c12
     obtain ⟨c13, H⟩ := zJ H
     have c13b0 : ((l0_1.length : Int) == 0) = false := beq_eq_false_iff_ne.mpr c13
     have c13b1 : ((l0_1.length : Int) != 0) = true := bne_iff_ne.mpr c13
     have c13b2 : ¬ (l0_1 = []) := fun h_ => c13 (by rw [h_]; rfl)
     have H' := am H
     clear H
     have hnb14 := NB512_513.out
     have hnc14 := NB513_512.out
     obtain ⟨hcz15_0, hcz15_1, hfz15_0, hfz15_1⟩ := sC BK512
     go_wp2_with (first | ((with_reducible refine gate_callee (f := 56) rfl ?_); refine goesL_ (some 7) rfl rfl Tryz.func56 zq15 rfl #[.agg #[.int .i64 a0_0, .slice A0_1 l0_1.length c0_1]] rfl zq0 ?_; (with_reducible refine (impl_isLadder.calls a0_0 _ _ l0_1 true _ ?side1 ?side2 A6.out).mono ?_); (case side1 => exact zq7); (case side2 => exact zq97); rintro e w16 ⟨rfl, hb⟩; refine ⟨_, rfl, ?_⟩; replace BK512 := sK BK512 hb; replace BK513 := sK BK513 hb; replace HB := sB HB hb; (try clear hb); obtain ⟨hcz17_0, hcz17_1, hfz17_0, hfz17_1⟩ := sC BK512))
     go_meet
     case rel => exact ⟨_, (decide (a1 > (wrap64 ((60 : Int) / (l0_1.length : Int))))), zq81, H', ⟨zq41⟩, ⟨zq73⟩, ⟨zq72⟩, ⟨zq1⟩⟩
    ·rw [if_neg c12] at H
     have c12b0 : decide (0 < (l0_1.length : Int)) = false := decide_eq_false c12
     have c12b1 : decide (0 < l0_1.length) = false := decide_eq_false zq32
     clear c12
     have H' := am H
     clear H
     have hnb18 := NB512_513.out
     have hnc18 := NB513_512.out
     obtain ⟨hcz19_0, hcz19_1, hfz19_0, hfz19_1⟩ := sC BK512
     go_wp2_with (first | ((with_reducible refine gate_callee (f := 56) rfl ?_); refine goesL_ (some 7) rfl rfl Tryz.func56 zq15 rfl #[.agg #[.int .i64 a0_0, .slice A0_1 l0_1.length c0_1]] rfl zq0 ?_; (with_reducible refine (impl_isLadder.calls a0_0 _ _ l0_1 true _ ?side1 ?side2 A6.out).mono ?_); (case side1 => exact zq7); (case side2 => exact zq97); rintro e w20 ⟨rfl, hb⟩; refine ⟨_, rfl, ?_⟩; replace BK512 := sK BK512 hb; replace BK513 := sK BK513 hb; replace HB := sB HB hb; (try clear hb); obtain ⟨hcz21_0, hcz21_1, hfz21_0, hfz21_1⟩ := sC BK512))
     go_meet
     case rel => exact ⟨_, (false), zq10, H', ⟨zq41⟩, ⟨zq73⟩, ⟨zq72⟩, ⟨zq1⟩⟩
  ·replace c7 := Bool.eq_false_iff.mpr c7
   subst c7
   rw [if_neg (show ¬ (false = true) by decide)] at H
   have H' := am H
   clear H
   have hnb22 := NB512_513.out
   have hnc22 := NB513_512.out
   obtain ⟨hcz23_0, hcz23_1, hfz23_0, hfz23_1⟩ := sC BK512
   go_wp2_with (first | ((with_reducible refine gate_callee (f := 56) rfl ?_); refine goesL_ (some 7) rfl rfl Tryz.func56 zq15 rfl #[.agg #[.int .i64 a0_0, .slice A0_1 l0_1.length c0_1]] rfl zq0 ?_; (with_reducible refine (impl_isLadder.calls a0_0 _ _ l0_1 false _ ?side1 ?side2 A6.out).mono ?_); (case side1 => exact zq7); (case side2 => exact zq97); rintro e w24 ⟨rfl, hb⟩; refine ⟨_, rfl, ?_⟩; replace BK512 := sK BK512 hb; replace BK513 := sK BK513 hb; replace HB := sB HB hb; (try clear hb)))
   go_meet
   case rel => exact ⟨_, (true), zq10, H', ⟨zq41⟩, ⟨zq73⟩, ⟨zq72⟩, ⟨zq1⟩⟩
 case rest =>
  clear HC3
  obtain ⟨kq, x26_2, rfl, HA, HJ2, BK512, BK513, HB⟩ := hcut
  cases kq with
  | zero => exact absurd HA.out (by simp [impl_RepeatLadder.j0])
  | succ kj2 =>
   have H := HA.out
   clear HA
   simp only [impl_RepeatLadder.j0] at H
   by_cases c25 : x26_2 = true
   ·subst c25
    rw [if_pos rfl] at H
    simp only [Option.some.injEq, Prod.mk.injEq] at H
    obtain ⟨rfl, rfl, rfl⟩ := H
    have hnb26 := NB513_512.out
    have hnc26 := NB512_513.out
    obtain ⟨hcz27_0, hcz27_1, hfz27_0, hfz27_1⟩ := sC BK513
    go_wp2
    refine bodyPost_ret (results_ct rfl _ _ gb513 26 #[.int .i64 0, .slice none 0 0] (0, 0) _ rfl (by (with_reducible repeat (first | refine blk_drewN ?_ _ | refine blk_drew ?_ | refine blk_alloc ?_ _)); refine blk_put (cs := #[.int .i64 0, .slice none 0 0]) ?_ 1 _ rfl; (with_reducible repeat (first | refine blk_drewN ?_ _ | refine blk_drew ?_ | refine blk_alloc ?_ _)); refine blk_put (cs := #[.int .i64 0, .slice none 0 0]) ?_ 0 _ rfl; (with_reducible repeat (first | refine blk_drewN ?_ _ | refine blk_drew ?_ | refine blk_alloc ?_ _)); exact BK513.out) Tryz.underlying26 rfl zq15) rfl ?_
    exact ⟨_, zq6, zq11, zq1⟩
   ·replace c25 := Bool.eq_false_iff.mpr c25
    subst c25
    rw [if_neg (show ¬ (false = true) by decide)] at H
    by_cases c28 : (l0_1.length : Int) = 0
    ·rw [if_pos c28] at H
     have c28b0 : ((l0_1.length : Int) == 0) = true := beq_iff_eq.mpr c28
     have c28b1 : ((l0_1.length : Int) != 0) = false := bne_eq_false_iff_eq.mpr c28
     clear c28
     obtain ⟨t515, A29, H⟩ := zS H
     (try dsimp only at H)
     simp only [Option.some.injEq, Prod.mk.injEq] at H
     obtain ⟨rfl, rfl, rfl⟩ := H
     have hnb30 := NB512_513.out
     have hnc30 := NB513_512.out
     obtain ⟨hcz31_0, hcz31_1, hfz31_0, hfz31_1⟩ := sC BK512
     try go_wp2
     replace BK512 := am (blk_drew BK512.out)
     replace BK513 := am (blk_drew BK513.out)
     replace HB := am (below_drew1 HB.out)
     refine start_ (n := 9) (S := fun w' => w'.cell? ⟨gb512, 0, none⟩ = some (.int .i64 a0_0) ∧ w'.cell? ⟨gb512, 1, none⟩ = some (.slice A0_1 l0_1.length c0_1)) (ds := []) #[false, false, false, false, false, false, false, false, false] zq15 rfl rfl ⟨(blk_cell BK512.out 0).trans rfl, (blk_cell BK512.out 1).trans rfl⟩ (fun hHeld => ?_); refine with_tabW impl_RepeatLadder.tab5 impl_RepeatLadder.bits5 (fun HT_ HW_ => ?_)
     generalize wc.drew = w32 at BK512 BK513 HB hHeld ⊢
     refine zU 0 32 HT_ ?_
     refine zU 2 34 HT_ ?_
     refine zU 4 36 HT_ ?_
     refine zT 1 33 HT_ HW_ hHeld ?_
     refine zT 3 35 HT_ HW_ hHeld ?_
     refine zO 5 37 HT_ fun K hK => ?_
     refine goes_ Tryz.func80 zq15 rfl #[.slice A0_1 l0_1.length c0_1, .int .i64 0] (by rfl) rfl rfl zq0 ?_
     with_reducible refine (slices_Repeat_int_int.calls _ _ l0_1 0 t515 _ ?side1 ?side2 A29.out).mono ?_
     (case side1 => exact zq7)
     (case side2 => exact zq97)
     rintro e w33 ⟨v516, rfl, ho0, hb⟩
     refine ⟨_, rfl, ?_⟩
     have HO517 := am (Kd.R_lower ho0 (below_size (pBq HB)))
     replace BK512 := sK BK512 hb
     replace BK513 := sK BK513 hb
     replace HB := sB HB hb
     (try clear hb)
     (try clear hb2)
     (try clear hk)
     (try clear hi)
     (try clear ho0)
     obtain ⟨Ao34, co34, eo34⟩ := Kd.R_slice HO517.out
     (first | subst eo34 | (injection eo34 with f1_ f2_ f3_; have f4_ := f1_.symm; have f5_ := f3_.symm; clear f1_ f2_ f3_; subst f4_; subst f5_))
     refine hK.out _ _ ⟨(blk_cell BK512.out 0).trans rfl, (blk_cell BK512.out 1).trans rfl⟩ (fun hHeld => ?_)
     clear hK K
     refine zN 37 ?_
     refine zU 6 38 HT_ ?_
     refine one_ (i := 7) (N := none) #[true, true, true, true, true, true, true, true, false] rfl rfl (one_of HT_.out zq15) zq27 (fun K hK => ?_)
     have hs35 : w33.cell? ⟨gb513, 0, none⟩ = some (.int .i64 0) := (blk_cell BK513.out 0).trans rfl
     have hfs35 := blk_frozen BK513.out 0
     have hns35_0 := NB512_513.out
     have hms35_0 := NB513_512.out
     have hs36 : w33.cell? ⟨gb513, 1, none⟩ = some (.slice none 0 0) := (blk_cell BK513.out 1).trans rfl
     have hfs36 := blk_frozen BK513.out 1
     have hns36_0 := NB512_513.out
     have hms36_0 := NB513_512.out
     refine skip_ (w1 := ?_) (by rfl) rfl ?_ ?_
     rotate_left
     ·go_simp
      rfl
     refine hK.out _ _ ⟨((cell_far (p := ⟨gb513, _, none⟩) NB512_513.out _).trans (((cell_far (p := ⟨gb513, _, none⟩) NB512_513.out _).trans (hHeld.1)))), ((cell_far (p := ⟨gb513, _, none⟩) NB512_513.out _).trans (((cell_far (p := ⟨gb513, _, none⟩) NB512_513.out _).trans (hHeld.2))))⟩ (fun hHeld => ?_)
     clear hK K
     refine zU 8 5 HT_ ?_
     refine done_ (done_of HT_.out zq15) ?_
     try go_wp2
     refine bodyPost_ret (results_ct rfl _ _ gb513 26 #[.int .i64 a0_0, .slice Ao34 t515.length co34] (0, 0) _ rfl zq63 Tryz.underlying26 rfl zq15) rfl ?_
     exact ⟨_, zq6, by (with_reducible repeat (first | apply Kd.R_alloc | apply Kd.R_drewN | apply Kd.R_drew)); exact Kd.R_mono (Kd.R_far (p := ⟨gb513, 1, none⟩) (Kd.R_far (p := ⟨gb513, 0, none⟩) (Kd.R_types HO517.out BK513.out zq27) (fun _ hk => hk.2) (.int .i64 a0_0)) (fun _ hk => hk.2) (.slice Ao34 t515.length co34)) (fun _ hk => trivial), zq1⟩
    ·rw [if_neg c28] at H
     have c28b0 : ((l0_1.length : Int) == 0) = false := beq_eq_false_iff_ne.mpr c28
     have c28b1 : ((l0_1.length : Int) != 0) = true := bne_iff_ne.mpr c28
     have c28b2 : ¬ (l0_1 = []) := fun h_ => c28 (by rw [h_]; rfl)
     obtain ⟨t518, A37, H⟩ := zS H
     (try dsimp only at H)
     simp only [Option.some.injEq, Prod.mk.injEq] at H
     obtain ⟨rfl, rfl, rfl⟩ := H
     have hnb38 := NB512_513.out
     have hnc38 := NB513_512.out
     obtain ⟨hcz39_0, hcz39_1, hfz39_0, hfz39_1⟩ := sC BK512
     try go_wp2
     replace BK512 := am (blk_drew BK512.out)
     replace BK513 := am (blk_drew BK513.out)
     replace HB := am (below_drew1 HB.out)
     refine start_ (n := 9) (S := fun w' => w'.cell? ⟨gb512, 0, none⟩ = some (.int .i64 a0_0) ∧ w'.cell? ⟨gb512, 1, none⟩ = some (.slice A0_1 l0_1.length c0_1)) (ds := []) #[false, false, false, false, false, false, false, false, false] zq15 rfl rfl ⟨(blk_cell BK512.out 0).trans rfl, (blk_cell BK512.out 1).trans rfl⟩ (fun hHeld => ?_); refine with_tabW impl_RepeatLadder.tab5 impl_RepeatLadder.bits5 (fun HT_ HW_ => ?_)
     generalize wc.drew = w40 at BK512 BK513 HB hHeld ⊢
     refine zU 0 32 HT_ ?_
     refine zU 2 34 HT_ ?_
     refine zU 4 36 HT_ ?_
     refine zT 1 33 HT_ HW_ hHeld ?_
     refine zT 3 35 HT_ HW_ hHeld ?_
     refine zO 5 37 HT_ fun K hK => ?_
     refine goes_ Tryz.func80 zq15 rfl #[.slice A0_1 l0_1.length c0_1, .int .i64 a1] (by rfl) rfl rfl zq0 ?_
     with_reducible refine (slices_Repeat_int_int.calls _ _ l0_1 a1 t518 _ ?side1 ?side2 A37.out).mono ?_
     (case side1 => exact zq7)
     (case side2 => exact zq97)
     rintro e w41 ⟨v519, rfl, ho0, hb⟩
     refine ⟨_, rfl, ?_⟩
     have HO520 := am (Kd.R_lower ho0 (below_size (pBq HB)))
     replace BK512 := sK BK512 hb
     replace BK513 := sK BK513 hb
     replace HB := sB HB hb
     (try clear hb)
     (try clear hb2)
     (try clear hk)
     (try clear hi)
     (try clear ho0)
     obtain ⟨Ao42, co42, eo42⟩ := Kd.R_slice HO520.out
     (first | subst eo42 | (injection eo42 with f1_ f2_ f3_; have f4_ := f1_.symm; have f5_ := f3_.symm; clear f1_ f2_ f3_; subst f4_; subst f5_))
     refine hK.out _ _ ⟨(blk_cell BK512.out 0).trans rfl, (blk_cell BK512.out 1).trans rfl⟩ (fun hHeld => ?_)
     clear hK K
     refine zN 37 ?_
     refine zU 6 38 HT_ ?_
     refine one_ (i := 7) (N := none) #[true, true, true, true, true, true, true, true, false] rfl rfl (one_of HT_.out zq15) zq27 (fun K hK => ?_)
     have hs43 : w41.cell? ⟨gb513, 0, none⟩ = some (.int .i64 0) := (blk_cell BK513.out 0).trans rfl
     have hfs43 := blk_frozen BK513.out 0
     have hns43_0 := NB512_513.out
     have hms43_0 := NB513_512.out
     have hs44 : w41.cell? ⟨gb513, 1, none⟩ = some (.slice none 0 0) := (blk_cell BK513.out 1).trans rfl
     have hfs44 := blk_frozen BK513.out 1
     have hns44_0 := NB512_513.out
     have hms44_0 := NB513_512.out
     refine skip_ (w1 := ?_) (by rfl) rfl ?_ ?_
     rotate_left
     ·go_simp
      rfl
     refine hK.out _ _ ⟨((cell_far (p := ⟨gb513, _, none⟩) NB512_513.out _).trans (((cell_far (p := ⟨gb513, _, none⟩) NB512_513.out _).trans (hHeld.1)))), ((cell_far (p := ⟨gb513, _, none⟩) NB512_513.out _).trans (((cell_far (p := ⟨gb513, _, none⟩) NB512_513.out _).trans (hHeld.2))))⟩ (fun hHeld => ?_)
     clear hK K
     refine zU 8 5 HT_ ?_
     refine done_ (done_of HT_.out zq15) ?_
     try go_wp2
     refine bodyPost_ret (results_ct rfl _ _ gb513 26 #[.int .i64 a0_0, .slice Ao42 t518.length co42] (0, 0) _ rfl zq63 Tryz.underlying26 rfl zq15) rfl ?_
     exact ⟨_, zq6, by (with_reducible repeat (first | apply Kd.R_alloc | apply Kd.R_drewN | apply Kd.R_drew)); exact Kd.R_mono (Kd.R_far (p := ⟨gb513, 1, none⟩) (Kd.R_far (p := ⟨gb513, 0, none⟩) (Kd.R_types HO520.out BK513.out zq27) (fun _ hk => hk.2) (.int .i64 a0_0)) (fun _ hk => hk.2) (.slice Ao42 t518.length co42)) (fun _ hk => trivial), zq1⟩
/-! ### spec_RepeatLadder: function 28 -/
mutual
def spec_RepeatLadder.j0 : Nat → Int → Bool → Int → List Int → Option (Int × List Int × Bool)
 | 0, _, _, _, _ => none
 | k + 1, x1, x27, x522000, x522001 => if x27 = true then (some (0, ([] : List Int), false)) else (spec_RepeatLadder.l0 k x1 x522000 x522001 x522000 ([] : List Int))
def spec_RepeatLadder.l0 : Nat → Int → Int → List Int → Int → List Int → Option (Int × List Int × Bool)
 | 0, _, _, _, _, _ => none
 | k + 1, x1, x522000, x522001, x525000, x525001 => if x1 > 0 then (if (x522001.length : Int) > 0 then (if x525001.length + x522001.length < 17592186044416 then (spec_RepeatLadder.l0 k (wrap64 (x1 - 1)) x522000 x522001 x525000 (x525001 ++ x522001)) else (none)) else (some (x525000, x525001, true))) else (some (x525000, x525001, true))
end
def spec_RepeatLadder.f (k : Nat) (a0_0 : Int) (l0_1 : List Int) (a1 : Int) : Option (Int × List Int × Bool) := (spec_laGood.f k a0_0 l0_1).bind fun t523 => (if t523 = true then (if a1 < 0 then (spec_RepeatLadder.j0 k a1 true a0_0 l0_1) else (if (l0_1.length : Int) > 0 then (if (l0_1.length : Int) = 0 then (none) else (spec_RepeatLadder.j0 k a1 (decide (a1 > (wrap64 ((60 : Int) / (l0_1.length : Int))))) a0_0 l0_1)) else (spec_RepeatLadder.j0 k a1 false a0_0 l0_1))) else (spec_RepeatLadder.j0 k a1 true a0_0 l0_1))
theorem spec_RepeatLadder.mono_l : ∀ k, (∀ y0 y1 y2 y3, LeO (spec_RepeatLadder.j0 k y0 y1 y2 y3) (spec_RepeatLadder.j0 (k + 1) y0 y1 y2 y3)) ∧ (∀ y0 y1 y2 y3 y4, LeO (spec_RepeatLadder.l0 k y0 y1 y2 y3 y4) (spec_RepeatLadder.l0 (k + 1) y0 y1 y2 y3 y4))
 | 0 => ⟨fun _ _ _ _ r h => by simp [spec_RepeatLadder.j0] at h, fun _ _ _ _ _ r h => by simp [spec_RepeatLadder.l0] at h⟩
 | k + 1 => by
  obtain ⟨ih0, ih1⟩ := spec_RepeatLadder.mono_l k
  refine ⟨?_, ?_⟩
  ·intro y0 y1 y2 y3
   unfold spec_RepeatLadder.j0
   repeat' first | (with_reducible first | exact ih0 _ _ _ _ | exact ih1 _ _ _ _ _ | exact spec_laGood.mono _ _ _ | exact LeO.refl _ | exact LeO.none _ | refine LeO.ite ?_ ?_ | refine LeO.bind ?_ (fun _ => ?_))
  ·intro y0 y1 y2 y3 y4
   unfold spec_RepeatLadder.l0
   repeat' first | (with_reducible first | exact ih0 _ _ _ _ | exact ih1 _ _ _ _ _ | exact spec_laGood.mono _ _ _ | exact LeO.refl _ | exact LeO.none _ | refine LeO.ite ?_ ?_ | refine LeO.bind ?_ (fun _ => ?_))
theorem spec_RepeatLadder.mono : ∀ a0 a1 a2 k, LeO (spec_RepeatLadder.f k a0 a1 a2) (spec_RepeatLadder.f (k + 1) a0 a1 a2) := by
 intro a0 a1 a2 k
 obtain ⟨ih0, ih1⟩ := spec_RepeatLadder.mono_l k
 unfold spec_RepeatLadder.f
 repeat' first | (with_reducible first | exact ih0 _ _ _ _ | exact ih1 _ _ _ _ _ | exact spec_laGood.mono _ _ _ | exact LeO.refl _ | exact LeO.none _ | refine LeO.ite ?_ ?_ | refine LeO.bind ?_ (fun _ => ?_))
theorem spec_RepeatLadder.calls (k : Nat) (a0_0 : Int) (A0_1 : Option Addr) (c0_1 : Nat) (l0_1 : List Int) (a1 : Int) (r1 : Int) (r2 : List Int) (r3 : Bool) (w : World) (hr0_1 : Kd.C (Kd.int .i64) w A0_1 l0_1.length l0_1) (hc0_1 : l0_1.length ≤ c0_1) (h : spec_RepeatLadder.f k a0_0 l0_1 a1 = some (r1, r2, r3)) :
  Calls Tryz.prog 28 #[.agg #[.int .i64 a0_0, .slice A0_1 l0_1.length c0_1], .int .i64 a1] w fun e w' => ∃ v1_ : Value, e = .returned (.tuple #[.agg #[.int .i64 r1, v1_], .bool r3]) ∧ Kd.R (Kd.int .i64) 3 w' w.heap.size (fun _ => True) v1_ r2 ∧ Below w.heap.size w w' := by
 have hu26 := Tryz.underlying26
 have HR0_1 := am hr0_1
 have HC0_1 := am hc0_1
 clear hr0_1 hc0_1
 have HB := am (Below.refl w.heap.size w)
 unfold spec_RepeatLadder.f at h
 have H := h
 clear h
 have HC3 := am H
 clear H
 go_enter Tryz.func28, Tryz.ntmps28
 go_upto_region 1 with (first | ((with_reducible refine gate_dst (N := 2) rfl ?_); (try (refine gate_guard (by rfl) ?_; dsimp only)); refine zE 2 (cs := #[.int .i64 a0_0, .slice A0_1 l0_1.length c0_1]) 26 ?_; intro gb521 hg w4 hbox hb; have BK521 := am (hbox); have GW521 := am ((zq56 : w.heap.size ≤ gb521)); replace HB := sB HB hb; clear hb hbox hg) | ((with_reducible refine gate_dst (N := 4) rfl ?_); (try (refine gate_guard (by rfl) ?_; dsimp only)); refine zE 4 (cs := #[.int .i64 0, .slice none 0 0]) 26 ?_; intro gb522 hg w5 hbox hb; have BK522 := am (hbox); have GW522 := am ((zq56 : w.heap.size ≤ gb522)); have NB521_522 := am ((by rw [hg]; exact Nat.ne_of_lt (blk_lt (pKq BK521)) : gb521 ≠ gb522)); have NB522_521 := am ((by rw [hg]; exact Nat.ne_of_gt (blk_lt (pKq BK521)) : gb522 ≠ gb521)); replace BK521 := sK BK521 hb; replace HB := sB HB hb; clear hb hbox hg))
 (try simp only [Act.put, setIfInBounds_toArray, set_cons_zero, set_cons_succ])
 go_cut [27] (fun v27 wc => ∃ (kq : Nat) (x27_2 : Bool), v27 = .bool x27_2 ∧ Aside0 (spec_RepeatLadder.j0 kq a1 x27_2 a0_0 l0_1 = some (r1, r2, r3)) ∧ Aside0 (kq ≤ k) ∧ Aside0 (wc.heap[gb521]? = some (.cells #[.int .i64 a0_0, (.slice A0_1 l0_1.length c0_1)] 26 (0, 0))) ∧ Aside0 (wc.heap[gb522]? = some (.cells #[.int .i64 0, (.slice none 0 0)] 26 (0, 0))) ∧ Aside0 (Below w.heap.size w wc))
 case first =>
  have H := HC3.out
  clear HC3
  obtain ⟨t523, A6, H⟩ := zS H
  (try dsimp only at H)
  by_cases c7 : t523 = true
  ·subst c7
   rw [if_pos rfl] at H
   by_cases c8 : a1 < 0
   ·rw [if_pos c8] at H
    have c8b0 := decide_eq_true c8
    clear c8
    (first | rw [c8b0] | (simp only [i64_w, i32_w]; rw [c8b0]) | skip)
    have H' := am H
    clear H
    have hnb9 := NB521_522.out
    have hnc9 := NB522_521.out
    obtain ⟨hcz10_0, hcz10_1, hfz10_0, hfz10_1⟩ := sC BK521
    go_wp2_with (first | ((with_reducible refine gate_callee (f := 59) rfl ?_); refine goesL_ (some 8) rfl rfl Tryz.func59 zq15 rfl #[.agg #[.int .i64 a0_0, .slice A0_1 l0_1.length c0_1]] rfl zq0 ?_; (with_reducible refine (spec_laGood.calls k a0_0 _ _ l0_1 true _ ?side1 ?side2 A6.out).mono ?_); (case side1 => exact zq7); (case side2 => exact zq97); rintro e w11 ⟨rfl, hb⟩; refine ⟨_, rfl, ?_⟩; replace BK521 := sK BK521 hb; replace BK522 := sK BK522 hb; replace HB := sB HB hb; (try clear hb)))
    go_meet
    case rel => exact ⟨_, (true), zq10, H', ⟨zq41⟩, ⟨zq71⟩, ⟨zq70⟩, ⟨zq1⟩⟩
   ·rw [if_neg c8] at H
    have c8b0 := decide_eq_false c8
    clear c8
    (first | rw [c8b0] | (simp only [i64_w, i32_w]; rw [c8b0]) | skip)
    by_cases c12 : (l0_1.length : Int) > 0
    ·rw [if_pos c12] at H
     have c12b0 : decide (0 < (l0_1.length : Int)) = true := decide_eq_true c12
     have c12b1 : decide (0 < l0_1.length) = true := decide_eq_true zq32
     clear c12
     obtain ⟨c13, H⟩ := zJ H
     have c13b0 : ((l0_1.length : Int) == 0) = false := beq_eq_false_iff_ne.mpr c13
     have c13b1 : ((l0_1.length : Int) != 0) = true := bne_iff_ne.mpr c13
     have c13b2 : ¬ (l0_1 = []) := fun h_ => c13 (by rw [h_]; rfl)
     have H' := am H
     clear H
     have hnb14 := NB521_522.out
     have hnc14 := NB522_521.out
     obtain ⟨hcz15_0, hcz15_1, hfz15_0, hfz15_1⟩ := sC BK521
     go_wp2_with (first | ((with_reducible refine gate_callee (f := 59) rfl ?_); refine goesL_ (some 8) rfl rfl Tryz.func59 zq15 rfl #[.agg #[.int .i64 a0_0, .slice A0_1 l0_1.length c0_1]] rfl zq0 ?_; (with_reducible refine (spec_laGood.calls k a0_0 _ _ l0_1 true _ ?side1 ?side2 A6.out).mono ?_); (case side1 => exact zq7); (case side2 => exact zq97); rintro e w16 ⟨rfl, hb⟩; refine ⟨_, rfl, ?_⟩; replace BK521 := sK BK521 hb; replace BK522 := sK BK522 hb; replace HB := sB HB hb; (try clear hb); obtain ⟨hcz17_0, hcz17_1, hfz17_0, hfz17_1⟩ := sC BK521))
     go_meet
     case rel => exact ⟨_, (decide (a1 > (wrap64 ((60 : Int) / (l0_1.length : Int))))), zq81, H', ⟨zq41⟩, ⟨zq71⟩, ⟨zq70⟩, ⟨zq1⟩⟩
    ·rw [if_neg c12] at H
     have c12b0 : decide (0 < (l0_1.length : Int)) = false := decide_eq_false c12
     have c12b1 : decide (0 < l0_1.length) = false := decide_eq_false zq32
     clear c12
     have H' := am H
     clear H
     have hnb18 := NB521_522.out
     have hnc18 := NB522_521.out
     obtain ⟨hcz19_0, hcz19_1, hfz19_0, hfz19_1⟩ := sC BK521
     go_wp2_with (first | ((with_reducible refine gate_callee (f := 59) rfl ?_); refine goesL_ (some 8) rfl rfl Tryz.func59 zq15 rfl #[.agg #[.int .i64 a0_0, .slice A0_1 l0_1.length c0_1]] rfl zq0 ?_; (with_reducible refine (spec_laGood.calls k a0_0 _ _ l0_1 true _ ?side1 ?side2 A6.out).mono ?_); (case side1 => exact zq7); (case side2 => exact zq97); rintro e w20 ⟨rfl, hb⟩; refine ⟨_, rfl, ?_⟩; replace BK521 := sK BK521 hb; replace BK522 := sK BK522 hb; replace HB := sB HB hb; (try clear hb); obtain ⟨hcz21_0, hcz21_1, hfz21_0, hfz21_1⟩ := sC BK521))
     go_meet
     case rel => exact ⟨_, (false), zq10, H', ⟨zq41⟩, ⟨zq71⟩, ⟨zq70⟩, ⟨zq1⟩⟩
  ·replace c7 := Bool.eq_false_iff.mpr c7
   subst c7
   rw [if_neg (show ¬ (false = true) by decide)] at H
   have H' := am H
   clear H
   have hnb22 := NB521_522.out
   have hnc22 := NB522_521.out
   obtain ⟨hcz23_0, hcz23_1, hfz23_0, hfz23_1⟩ := sC BK521
   go_wp2_with (first | ((with_reducible refine gate_callee (f := 59) rfl ?_); refine goesL_ (some 8) rfl rfl Tryz.func59 zq15 rfl #[.agg #[.int .i64 a0_0, .slice A0_1 l0_1.length c0_1]] rfl zq0 ?_; (with_reducible refine (spec_laGood.calls k a0_0 _ _ l0_1 false _ ?side1 ?side2 A6.out).mono ?_); (case side1 => exact zq7); (case side2 => exact zq97); rintro e w24 ⟨rfl, hb⟩; refine ⟨_, rfl, ?_⟩; replace BK521 := sK BK521 hb; replace BK522 := sK BK522 hb; replace HB := sB HB hb; (try clear hb)))
   go_meet
   case rel => exact ⟨_, (true), zq10, H', ⟨zq41⟩, ⟨zq71⟩, ⟨zq70⟩, ⟨zq1⟩⟩
 case rest =>
  clear HC3
  obtain ⟨kq, x27_2, rfl, HA, HJ2, BK521, BK522, HB⟩ := hcut
  cases kq with
  | zero => exact absurd HA.out (by simp [spec_RepeatLadder.j0])
  | succ kj2 =>
   have H := HA.out
   clear HA
   simp only [spec_RepeatLadder.j0] at H
   by_cases c25 : x27_2 = true
   ·subst c25
    rw [if_pos rfl] at H
    simp only [Option.some.injEq, Prod.mk.injEq] at H
    obtain ⟨rfl, rfl, rfl⟩ := H
    have hnb26 := NB522_521.out
    have hnc26 := NB521_522.out
    obtain ⟨hcz27_0, hcz27_1, hfz27_0, hfz27_1⟩ := sC BK522
    go_wp2
    refine bodyPost_ret (results_ct rfl _ _ gb522 26 #[.int .i64 0, .slice none 0 0] (0, 0) _ rfl (by (with_reducible repeat (first | refine blk_drewN ?_ _ | refine blk_drew ?_ | refine blk_alloc ?_ _)); refine blk_put (cs := #[.int .i64 0, .slice none 0 0]) ?_ 1 _ rfl; (with_reducible repeat (first | refine blk_drewN ?_ _ | refine blk_drew ?_ | refine blk_alloc ?_ _)); refine blk_put (cs := #[.int .i64 0, .slice none 0 0]) ?_ 0 _ rfl; (with_reducible repeat (first | refine blk_drewN ?_ _ | refine blk_drew ?_ | refine blk_alloc ?_ _)); exact BK522.out) Tryz.underlying26 rfl zq15) rfl ?_
    exact ⟨_, zq6, zq11, zq1⟩
   ·replace c25 := Bool.eq_false_iff.mpr c25
    subst c25
    rw [if_neg (show ¬ (false = true) by decide)] at H
    have H' := am H
    clear H
    have hnb28 := NB521_522.out
    have hnc28 := NB522_521.out
    obtain ⟨hcz29_0, hcz29_1, hfz29_0, hfz29_1⟩ := sC BK521
    go_wp2_with (first | ((with_reducible refine gate_dst (N := 6) rfl ?_); (try (refine gate_guard (by rfl) ?_; dsimp only)); refine zE 6 (cs := #[.int .i64 0, .slice none 0 0]) 26 ?_; intro gb524 hg w30 hbox hb; have BK524 := am (hbox); have GW524 := am ((zq56 : w.heap.size ≤ gb524)); have NB521_524 := am ((by rw [hg]; exact Nat.ne_of_lt (blk_lt (pKq BK521)) : gb521 ≠ gb524)); have NB524_521 := am ((by rw [hg]; exact Nat.ne_of_gt (blk_lt (pKq BK521)) : gb524 ≠ gb521)); have NB522_524 := am ((by rw [hg]; exact Nat.ne_of_lt (blk_lt (pKq BK522)) : gb522 ≠ gb524)); have NB524_522 := am ((by rw [hg]; exact Nat.ne_of_gt (blk_lt (pKq BK522)) : gb524 ≠ gb522)); replace BK521 := sK BK521 hb; replace BK522 := sK BK522 hb; replace HB := sB HB hb; clear hb hbox hg; have hnb31 := NB524_521.out; have hnc31 := NB521_524.out; have hnb32 := NB524_522.out; have hnc32 := NB522_524.out; obtain ⟨hcz33_0, hcz33_1, hfz33_0, hfz33_1⟩ := sC BK524))
    go_loopg [1] kj2 (fun kq v1 w' => ∃ (x1_2 : Int) (x525001_2 : List Int) (u525001 : Value), v1 = .int .i64 x1_2 ∧ Aside0 (spec_RepeatLadder.l0 kq x1_2 a0_0 l0_1 a0_0 x525001_2 = some (r1, r2, r3)) ∧ Aside0 (kq ≤ kj2) ∧ Aside0 (Kd.R (Kd.int .i64) 3 w' w.heap.size (fun _ => True) u525001 x525001_2) ∧ Aside0 (w'.heap[gb521]? = some (.cells #[.int .i64 a0_0, (.slice A0_1 l0_1.length c0_1)] 26 (0, 0))) ∧ Aside0 (w'.heap[gb522]? = some (.cells #[.int .i64 0, (.slice none 0 0)] 26 (0, 0))) ∧ Aside0 (w'.heap[gb524]? = some (.cells #[.int .i64 a0_0, u525001] 26 (0, 0))) ∧ Aside0 (Below w.heap.size w w'))
    case atStart => exact ⟨(a1), (([] : List Int)), (.slice none 0 0), zq10, H', ⟨Nat.le_refl _⟩, ⟨zq11⟩, ⟨by (with_reducible repeat (first | refine blk_drewN ?_ _ | refine blk_drew ?_ | refine blk_alloc ?_ _)); refine blk_far ?_ NB521_524.out _; (with_reducible repeat (first | refine blk_drewN ?_ _ | refine blk_drew ?_ | refine blk_alloc ?_ _)); refine blk_far ?_ NB521_524.out _; (with_reducible repeat (first | refine blk_drewN ?_ _ | refine blk_drew ?_ | refine blk_alloc ?_ _)); exact BK521.out⟩, ⟨by (with_reducible repeat (first | refine blk_drewN ?_ _ | refine blk_drew ?_ | refine blk_alloc ?_ _)); refine blk_far ?_ NB522_524.out _; (with_reducible repeat (first | refine blk_drewN ?_ _ | refine blk_drew ?_ | refine blk_alloc ?_ _)); refine blk_far ?_ NB522_524.out _; (with_reducible repeat (first | refine blk_drewN ?_ _ | refine blk_drew ?_ | refine blk_alloc ?_ _)); exact BK522.out⟩, ⟨by (with_reducible repeat (first | refine blk_drewN ?_ _ | refine blk_drew ?_ | refine blk_alloc ?_ _)); refine blk_put (cs := #[.int .i64 a0_0, .slice none 0 0]) ?_ 1 _ rfl; (with_reducible repeat (first | refine blk_drewN ?_ _ | refine blk_drew ?_ | refine blk_alloc ?_ _)); refine blk_put (cs := #[.int .i64 0, .slice none 0 0]) ?_ 0 _ rfl; (with_reducible repeat (first | refine blk_drewN ?_ _ | refine blk_drew ?_ | refine blk_alloc ?_ _)); exact BK524.out⟩, ⟨zq1⟩⟩
    case round =>
     clear H'
     obtain ⟨x1_2, x525001_2, u525001, rfl, HA, HK2, HO_525001, BK521, BK522, BK524, HB⟩ := hrel
     cases gk with
     | zero => exact absurd HA.out (by simp [spec_RepeatLadder.l0])
     | succ k2 =>
      have H := HA.out
      clear HA
      simp only [spec_RepeatLadder.l0] at H
      by_cases c34 : x1_2 > 0
      ·rw [if_pos c34] at H
       have c34b0 : decide (0 < x1_2) = true := decide_eq_true c34
       clear c34
       by_cases c35 : (l0_1.length : Int) > 0
       ·rw [if_pos c35] at H
        have c35b0 : decide (0 < (l0_1.length : Int)) = true := decide_eq_true c35
        have c35b1 : decide (0 < l0_1.length) = true := decide_eq_true zq32
        clear c35
        obtain ⟨c36, H⟩ := zI H
        have LMc36 := am c36
        clear c36
        obtain ⟨y525, Ny525⟩ : ∃ y_ : List Int, Aside0 (y_ = (x525001_2 ++ l0_1)) := ⟨_, ⟨rfl⟩⟩
        rw [← Ny525.out] at H
        have H' := am H
        clear H
        have hnb37 := NB521_522.out
        have hnc37 := NB522_521.out
        have hnb38 := NB521_524.out
        have hnc38 := NB524_521.out
        obtain ⟨hcz39_0, hcz39_1, hfz39_0, hfz39_1⟩ := sC BK521
        have hnb40 := NB524_522.out
        have hnc40 := NB522_524.out
        obtain ⟨hcz41_0, hcz41_1, hfz41_0, hfz41_1⟩ := sC BK524
        go_wp2_with (first | ((with_reducible refine gate_builtin (b := .append) (xs := #[.tmp 43, .tmp 45]) rfl ?_); (try (refine gate_guard (by rfl) ?_; dsimp only)); at_builtin; refine Kd.R_append_rows (Kd.int .i64) (w0 := w) w.heap.size rfl (.tmp 43) (.tmp 45) 24 3 (.int .i64 0) 8 rfl Tryz.underlying24 info3 rfl zq27 zq32 u525001 x525001_2 l0_1 _ _ _ (fun _ => True) (fun _ => False) rfl rfl ?aO ?aR (fun _ _ h => h) (fun _ h => h.elim) ?aF ?aB ?aS ?aL ?_; (case aR => exact zq7); (case aB => exact (pBq HB)); (case aF => exact zq99); (case aO => exact (pRq HO_525001)); (case aS => exact (below_size (pBq HB))); (case aL => have := LMc36.out; omega); intro v526 w42 ho hb hg hat; rw [← Ny525.out] at ho; have HO527 := am (ho); replace BK521 := am (blk_grown (g := gb521) (o := .cells #[.int .i64 a0_0, .slice A0_1 l0_1.length c0_1] 26 (0, 0)) (pKq BK521) hg (Kd.R_ne HO_525001.out BK521.out zq27)); replace BK522 := am (blk_grown (g := gb522) (o := .cells #[.int .i64 0, .slice none 0 0] 26 (0, 0)) (pKq BK522) hg (Kd.R_ne HO_525001.out BK522.out zq27)); replace BK524 := am (blk_grown (g := gb524) (o := .cells #[.int .i64 a0_0, u525001] 26 (0, 0)) (pKq BK524) hg (Kd.R_ne HO_525001.out BK524.out zq27)); replace HB := am (hb); clear HO_525001; clear ho hb hg hat; obtain ⟨Ao43, co43, eo43⟩ := Kd.R_slice HO527.out; subst eo43; obtain ⟨hcz44_0, hcz44_1, hfz44_0, hfz44_1⟩ := sC BK524))
        go_roundg k2
        case measure => have := HJ2.out; have := HK2.out; omega
        case rel => exact ⟨(wrap64 (x1_2 - 1)), (y525), (.slice Ao43 y525.length co43), zq10, H', ⟨by have := HJ2.out; have := HK2.out; omega⟩, ⟨by (with_reducible repeat (first | apply Kd.R_alloc | apply Kd.R_drewN | apply Kd.R_drew)); exact Kd.R_mono (Kd.R_far (p := ⟨gb524, 1, none⟩) (Kd.R_types HO527.out BK524.out zq27) (fun _ hk => hk.2) (.slice Ao43 y525.length co43)) (fun _ hk => trivial)⟩, ⟨by (with_reducible repeat (first | refine blk_drewN ?_ _ | refine blk_drew ?_ | refine blk_alloc ?_ _)); refine blk_far ?_ NB521_524.out _; (with_reducible repeat (first | refine blk_drewN ?_ _ | refine blk_drew ?_ | refine blk_alloc ?_ _)); exact BK521.out⟩, ⟨by (with_reducible repeat (first | refine blk_drewN ?_ _ | refine blk_drew ?_ | refine blk_alloc ?_ _)); refine blk_far ?_ NB522_524.out _; (with_reducible repeat (first | refine blk_drewN ?_ _ | refine blk_drew ?_ | refine blk_alloc ?_ _)); exact BK522.out⟩, ⟨by (with_reducible repeat (first | refine blk_drewN ?_ _ | refine blk_drew ?_ | refine blk_alloc ?_ _)); refine blk_put (cs := #[.int .i64 a0_0, u525001]) ?_ 1 _ rfl; (with_reducible repeat (first | refine blk_drewN ?_ _ | refine blk_drew ?_ | refine blk_alloc ?_ _)); exact BK524.out⟩, ⟨zq1⟩⟩
       ·rw [if_neg c35] at H
        have c35b0 : decide (0 < (l0_1.length : Int)) = false := decide_eq_false c35
        have c35b1 : decide (0 < l0_1.length) = false := decide_eq_false zq32
        clear c35
        simp only [Option.some.injEq, Prod.mk.injEq] at H
        obtain ⟨rfl, rfl, rfl⟩ := H
        have hnb45 := NB521_522.out
        have hnc45 := NB522_521.out
        have hnb46 := NB521_524.out
        have hnc46 := NB524_521.out
        obtain ⟨hcz47_0, hcz47_1, hfz47_0, hfz47_1⟩ := sC BK521
        have hnb48 := NB524_522.out
        have hnc48 := NB522_524.out
        obtain ⟨hcz49_0, hcz49_1, hfz49_0, hfz49_1⟩ := sC BK524
        obtain ⟨hcz50_0, hcz50_1, hfz50_0, hfz50_1⟩ := sC BK522
        obtain ⟨Ao51, co51, eo51⟩ := Kd.R_slice HO_525001.out
        subst eo51
        go_wp2
        refine bodyPost_ret (results_ct rfl _ _ gb522 26 #[.int .i64 a0_0, .slice Ao51 x525001_2.length co51] (0, 0) _ rfl zq62 Tryz.underlying26 rfl zq15) rfl ?_
        exact ⟨_, zq6, by (with_reducible repeat (first | apply Kd.R_alloc | apply Kd.R_drewN | apply Kd.R_drew)); exact Kd.R_mono (Kd.R_far (p := ⟨gb522, 1, none⟩) (Kd.R_far (p := ⟨gb522, 0, none⟩) (Kd.R_types HO_525001.out BK522.out zq27) (fun _ hk => hk.2) (.int .i64 a0_0)) (fun _ hk => hk.2) (.slice Ao51 x525001_2.length co51)) (fun _ hk => trivial), zq1⟩
      ·rw [if_neg c34] at H
       have c34b0 : decide (0 < x1_2) = false := decide_eq_false c34
       clear c34
       simp only [Option.some.injEq, Prod.mk.injEq] at H
       obtain ⟨rfl, rfl, rfl⟩ := H
       have hnb52 := NB524_521.out
       have hnc52 := NB521_524.out
       have hnb53 := NB524_522.out
       have hnc53 := NB522_524.out
       obtain ⟨hcz54_0, hcz54_1, hfz54_0, hfz54_1⟩ := sC BK524
       have hnb55 := NB522_521.out
       have hnc55 := NB521_522.out
       obtain ⟨hcz56_0, hcz56_1, hfz56_0, hfz56_1⟩ := sC BK522
       obtain ⟨Ao57, co57, eo57⟩ := Kd.R_slice HO_525001.out
       subst eo57
       go_wp2
       refine bodyPost_ret (results_ct rfl _ _ gb522 26 #[.int .i64 a0_0, .slice Ao57 x525001_2.length co57] (0, 0) _ rfl zq62 Tryz.underlying26 rfl zq15) rfl ?_
       exact ⟨_, zq6, by (with_reducible repeat (first | apply Kd.R_alloc | apply Kd.R_drewN | apply Kd.R_drew)); exact Kd.R_mono (Kd.R_far (p := ⟨gb522, 1, none⟩) (Kd.R_far (p := ⟨gb522, 0, none⟩) (Kd.R_types HO_525001.out BK522.out zq27) (fun _ hk => hk.2) (.int .i64 a0_0)) (fun _ hk => hk.2) (.slice Ao57 x525001_2.length co57)) (fun _ hk => trivial), zq1⟩
/-! ### slices_Concat_int_int: function 81 -/
def slices_Concat_int_int.f (l0 : List (List Int)) : Option (List Int) := if l0.flatten.length ≤ 1048576 ∧ l0.length ≤ 1000 then (some l0.flatten) else (none)
theorem slices_Concat_int_int.fin (g : Nat) (c : Array Value) (W : World) (base n' cap : Nat) (P' : Nat → Prop) (r : List Int) (hh : W.heap[g]? = some (.cells c 3 (0, 0))) (hc : c.size = cap) (hr : r.length = n') (hn : n' ≤ cap) (hcm : cap ≤ maxLen) (hb : base ≤ g) (hP : P' g) (ht : c.toList.take n' = r.map (Value.int .i64)) :
  Kd.R (Kd.int .i64) 3 W base P' (.slice (some ⟨g, 0, none⟩) n' cap) r := by
 subst hr
 refine Kd.R_of_own (enc := Value.int .i64) (h1 := fun _ => rfl) ?_ (fun k hk => ?_)
 ·refine ⟨by rw [encs_length, Nat.mul_one], .inr ⟨g, cap, c, rfl, hb, hh, hn, hcm, zq32, ?_⟩⟩
  rw [Nat.mul_one, ht]; simp [encs]
 ·simp only [Value.ownBlock] at hk
  obtain rfl : g = k := by simpa using hk
  exact hP
theorem slices_Concat_int_int.grow (n : Nat) (w : World) (hn : n ≤ 1048576) : Calls Tryz.prog 119 #[.slice none 0 0, .int .i64 (n : Int)] w fun e w' => ∃ v, e = .returned v ∧ Kd.R (Kd.int .i64) 3 w' w.heap.size (fun _ => True) v [] ∧ Below w.heap.size w w' := by
 rcases Nat.eq_zero_or_pos n with h0 | h0
 ·subst h0
  refine (Any8.slices_Grow_room Tryz.laysGrow none 0 0 0 w zq32 zq32 zq32 zq32).mono ?_
  rintro e w' ⟨rfl, rfl⟩
  exact ⟨_, rfl, Kd.R_nil _ _ _ _ _, Below.refl _ _⟩
 ·obtain ⟨i0, hi0, hz0, hsz0, hb0⟩ := info_parts info3
  have hq := Any8.slices_Grow_grow Tryz.laysGrow i0 _ hi0 hz0 zq32 none 0 0 n [] w zq32 zq32 (by rw [hb0]; omega) zq32 zq42 (fun _ => rfl) (by intro a ha; cases ha)
  refine Calls.mono hq ?_
  rintro e w' ⟨rfl, rfl⟩
  obtain ⟨cp, hcp⟩ : ∃ cp, cp = grownCap w (0 + n) 0 (Tryz.laysGrow_ren.t 25) := ⟨_, rfl⟩
  have c1 := grownCap_ge w (0 + n) 0 (Tryz.laysGrow_ren.t 25)
  have c2 := grownCap_le_maxLen w (0 + n) 0 (Tryz.laysGrow_ren.t 25) (Nat.le_trans (show 0 + n ≤ 1048576 by omega) zq27)
  rw [← hcp] at c1 c2 ⊢
  obtain ⟨cur, hcur⟩ : ∃ cur, cur = (#[] : Array Value) ++ Builtin.zeroCells (Value.int .i64 0).cells (0 + n - 0) ++ Builtin.zeroCells (Value.int .i64 0).cells (cp - (0 + n)) := ⟨_, rfl⟩
  have hcs : cur.size = cp := by
   have h1 : (Value.int .i64 0).cells.size = 1 := rfl
   rw [hcur, Array.size_append, Array.size_append, size_zeroCells, size_zeroCells, h1]
   simp only [Array.size_empty]
   omega
  rw [show (([] : List Value).toArray ++ Builtin.zeroCells (Value.int .i64 0).cells (0 + n - 0) ++ Builtin.zeroCells (Value.int .i64 0).cells (cp - (0 + n))) = cur from hcur.symm]
  refine ⟨_, rfl, slices_Concat_int_int.fin w.heap.size cur (w.drew.alloc (.cells cur 3)) w.heap.size 0 cp (fun _ => True) [] ?_ hcs rfl (Nat.zero_le _) c2 (Nat.le_refl _) trivial zq42, below_alloc (below_drew1 (Below.refl _ _)) _⟩
  show (w.heap.push _)[w.heap.size]? = _
  rw [Array.getElem?_push_size]
theorem slices_Concat_int_int.calls (A0 : Option Addr) (c0 : Nat) (l0 : List (List Int)) (r : List Int) (w : World) (hr0 : Kd.C (Kd.slice 3 (Kd.int .i64)) w A0 l0.length l0) (hc0 : l0.length ≤ c0) (h : slices_Concat_int_int.f l0 = some r) :
  Calls Tryz.prog 81 #[.slice A0 l0.length c0] w fun e w' => ∃ v0_ : Value, e = .returned (v0_) ∧ Kd.R (Kd.int .i64) 3 w' w.heap.size (fun _ => True) v0_ r ∧ Below w.heap.size w w' := by
 unfold slices_Concat_int_int.f at h
 split at h
 ·rename_i hcond
  obtain ⟨hsz, hl⟩ := hcond
  obtain rfl := Option.some.inj h
  have HR := am hr0
  have HSZ := am hsz
  have HL := am hl
  have hpre : ∀ i, (l0.take i).flatten.length ≤ 1048576 := fun i => by
   have h1 : (l0.take i).flatten.length + (l0.drop i).flatten.length = l0.flatten.length := by rw [← List.length_append, ← List.flatten_append, List.take_append_drop]
   omega
  have HPRE := am hpre
  clear hr0 hc0 hsz hl h hpre
  go_enter Tryz.func81, Tryz.ntmps81
  go_wp2
  go_loopg [3, 5, 11] l0.length (fun gg v3 v5 v11 w' => ∃ (i : Nat) (x3 xi : Int), v3 = .int .i64 x3 ∧ v11 = .int .i64 xi ∧ Aside0 (xi = (i : Int)) ∧ Aside0 (x3 = (((l0.take i).flatten.length : Nat) : Int)) ∧ i ≤ l0.length ∧ l0.length - i ≤ gg ∧ w = w')
  case atStart => exact ⟨0, 0, 0, rfl, rfl, ⟨rfl⟩, ⟨rfl⟩, Nat.zero_le _, zq32, rfl⟩
  case round =>
   obtain ⟨i, x3, xi, rfl, rfl, HXI, HX3, hi, hgk, rfl⟩ := hrel
   by_cases hlt : i < l0.length
   ·have q1 : xi < (l0.length : Int) := zq110
    have p1 : 0 ≤ xi := zq110
    obtain ⟨ad, c, ead, _, hK, hc0⟩ := Kd.C_get HR.out ([] : List Int) xi p1 q1
    obtain ⟨A1, c1, rfl, l1, g1⟩ := hK
    have hc : ∀ j u, [Value.slice A1 (l0.getD xi.toNat []).length c1][j]? = some u → w.cell? (ad.add (xi.toNat * 1 + j)) = some u := hc0
    have hcell := hc 0 _ rfl
    rw [Nat.mul_one, Nat.add_zero] at hcell
    have htk : (l0.take (i + 1)).flatten = (l0.take i).flatten ++ l0.getD xi.toNat [] := by
     have h1 : xi.toNat = i := zq110
     rw [h1, List.take_succ_eq_append_getElem hlt, List.flatten_append, List.getD_eq_getElem?_getD, List.getElem?_eq_getElem hlt]
     simp
    obtain ⟨y, hy⟩ : ∃ y, y = l0.getD xi.toNat [] := ⟨_, rfl⟩
    rw [← hy] at hcell htk
    have hp1 := HPRE.out (i + 1)
    rw [htk, List.length_append] at hp1
    have hx3 := HX3.out
    obtain ⟨x4, hx4⟩ : ∃ x4 : Int, x4 = x3 + (y.length : Int) := ⟨_, rfl⟩
    have hw3 : IntKind.i64.wrap (x3 + (y.length : Int)) = x4 := (i64_w _).trans (by unfold wrap64; omega)
    have hnn : decide (x4 < 0) = false := decide_eq_false zq32
    have HX4 := am (show x4 = (((l0.take (i + 1)).flatten.length : Nat) : Int) by rw [htk, List.length_append]; omega)
    have hwi : wrap64 (xi + 1) = xi + 1 := by unfold wrap64; have := HXI.out; have := HL.out; omega
    subst ead
    clear hc hc0 l1 g1 hy htk hp1 hx3 hx4
    have p2 := eq_true p1
    have q2 := eq_true q1
    go_wp2
    go_roundg (l0.length - (i + 1))
    case measure => omega
    case rel => exact ⟨i + 1, x4, wrap64 (xi + 1), rfl, rfl, ⟨by have := HXI.out; rw [hwi]; omega⟩, HX4, zq32, zq32, rfl⟩
   ·have q1 : ¬ xi < (l0.length : Int) := zq110
    have d1 : decide (xi < (l0.length : Int)) = false := decide_eq_false q1
    have hx3 := HX3.out
    rw [List.take_of_length_le (show l0.length ≤ i by omega)] at hx3
    clear HX3 HXI hlt q1 hgk
    obtain ⟨n, hn⟩ : ∃ n, n = l0.flatten.length := ⟨_, rfl⟩
    rw [← hn] at hx3
    subst hx3
    have HG := am (slices_Concat_int_int.grow n w (by have := HSZ.out; omega))
    clear hn
    go_wp2_with (go_at_call 119; (refine HG.out.mono ?_); rintro e w' ⟨v6, rfl, hO, hB⟩; have HO := am hO; have HB := am hB; clear hO hB)
    go_loopg [6, 8, 27] l0.length (fun gg v6 v8 v27 w' => ∃ (i : Nat) (xi : Int), v27 = .int .i64 xi ∧ Aside0 (xi = (i : Int)) ∧ i ≤ l0.length ∧ l0.length - i ≤ gg ∧ Aside0 (Kd.R (Kd.int .i64) 3 w' w.heap.size (fun _ => True) v6 (l0.take i).flatten) ∧ Aside0 (Below w.heap.size w w'))
    case atStart => exact ⟨0, 0, rfl, ⟨rfl⟩, Nat.zero_le _, zq32, ⟨by rw [List.take_zero]; exact HO.out⟩, HB⟩
    case round =>
     obtain ⟨i, xi, rfl, HXI, hi, hgk, HO, HB⟩ := hrel
     by_cases hlt : i < l0.length
     ·have q1 : xi < (l0.length : Int) := zq110
      have p1 : 0 ≤ xi := zq110
      obtain ⟨ad, c, ead, _, hK, hc0⟩ := Kd.C_get (Kd.C_below HR.out HB.out) ([] : List Int) xi p1 q1
      obtain ⟨A1, c1, rfl, l1, g1⟩ := hK
      have hc : ∀ j u, [Value.slice A1 (l0.getD xi.toNat []).length c1][j]? = some u → wr.cell? (ad.add (xi.toNat * 1 + j)) = some u := hc0
      have hcell := hc 0 _ rfl
      rw [Nat.mul_one, Nat.add_zero] at hcell
      have htk : (l0.take (i + 1)).flatten = (l0.take i).flatten ++ l0.getD xi.toNat [] := by
       have h1 : xi.toNat = i := zq110
       rw [h1, List.take_succ_eq_append_getElem hlt, List.flatten_append, List.getD_eq_getElem?_getD, List.getElem?_eq_getElem hlt]
       simp
      obtain ⟨y, hy⟩ : ∃ y, y = l0.getD xi.toNat [] := ⟨_, rfl⟩
      rw [← hy] at hcell htk g1
      have hp1 := HPRE.out (i + 1)
      rw [htk, List.length_append] at hp1
      have HP1 := am hp1
      have HTK := am htk
      have G1 := am g1
      have hwi : wrap64 (xi + 1) = xi + 1 := by unfold wrap64; have := HXI.out; have := HL.out; omega
      subst ead
      clear hc hc0 l1 g1 hy htk hp1
      have p2 := eq_true p1
      have q2 := eq_true q1
      go_wp2_with (first | ((with_reducible refine gate_builtin (b := .append) (xs := #[.tmp 31, .tmp 32]) rfl ?_); at_builtin; refine Kd.R_append_rows (Kd.int .i64) (w0 := w) w.heap.size rfl (.tmp 31) (.tmp 32) 24 3 (.int .i64 0) 8 rfl Tryz.underlying24 info3 rfl zq27 zq32 u6 (l0.take i).flatten y _ _ _ (fun _ => True) (fun _ => False) rfl rfl ?aO ?aR (fun _ _ h => h) (fun _ h => h.elim) ?aF ?aB ?aS ?aL ?_; (case aR => repeat (first | exact G1.out | (with_reducible refine Kd.C_alloc ?_ _) | (with_reducible refine Kd.C_drewN ?_ _) | (with_reducible refine Kd.C_drew ?_))); (case aB => exact HB.out); (case aF => exact zq99); (case aO => exact (pRq HO)); (case aS => exact (below_size HB.out)); (case aL => have := HP1.out; omega); intro v2 w5 ho hb hg hat; rw [← HTK.out] at ho; have HO5 := am ho; have HB5 := am hb; clear ho hb hg hat))
      go_roundg (l0.length - (i + 1))
      case measure => omega
      case rel => exact ⟨i + 1, wrap64 (xi + 1), rfl, ⟨by have := HXI.out; rw [hwi]; omega⟩, zq32, zq32, HO5, HB5⟩
     ·have q1 : ¬ xi < (l0.length : Int) := zq110
      have d1 : decide (xi < (l0.length : Int)) = false := decide_eq_false q1
      have hO := HO.out
      rw [List.take_of_length_le (show l0.length ≤ i by omega)] at hO
      have HO := am hO
      clear hO q1 hlt hgk HXI
      go_wp2
      go_ret
      exact ⟨_, rfl, by (with_reducible repeat (first | apply Kd.R_alloc | apply Kd.R_drewN | apply Kd.R_drew)); exact HO.out, by repeat (first | exact HB.out | apply below_alloc | apply pw_below_drewN | apply below_drew1)⟩
 ·cases h
/-! ### impl_BelowLadder: function 29 -/
def impl_BelowLadder.j0 : Nat → Bool → Int → List Int → Int → List Int → Option (Int × List Int × Bool)
 | 0, _, _, _, _, _ => none
 | k + 1, x20, x529000, x529001, x530000, x530001 => if x20 = true then (some (0, ([] : List Int), false)) else ((slices_Concat_int_int.f (([x529001, x530001] : List (List Int)))).bind fun t536 => ((impl_checked.f x529000 t536).bind fun bt539 => (some (bt539.1, bt539.2.1, bt539.2.2))))
def impl_BelowLadder.f (k : Nat) (a0_0 : Int) (l0_1 : List Int) (a1_0 : Int) (l1_1 : List Int) : Option (Int × List Int × Bool) := (impl_isLadder.f a0_0 l0_1).bind fun t531 => (if t531 = true then ((impl_isLadder.f a1_0 l1_1).bind fun t532 => (if t532 = true then (impl_BelowLadder.j0 k (a0_0 != a1_0) a0_0 l0_1 a1_0 l1_1) else (impl_BelowLadder.j0 k true a0_0 l0_1 a1_0 l1_1))) else (impl_BelowLadder.j0 k true a0_0 l0_1 a1_0 l1_1))
theorem impl_BelowLadder.mono_l : ∀ k, (∀ y0 y1 y2 y3 y4, LeO (impl_BelowLadder.j0 k y0 y1 y2 y3 y4) (impl_BelowLadder.j0 (k + 1) y0 y1 y2 y3 y4))
 | 0 => fun _ _ _ _ _ r h => by simp [impl_BelowLadder.j0] at h
 | k + 1 => by
  have ih0 := impl_BelowLadder.mono_l k
  ·intro y0 y1 y2 y3 y4
   unfold impl_BelowLadder.j0
   repeat' first | (with_reducible first | exact ih0 _ _ _ _ _ | exact LeO.refl _ | exact LeO.none _ | refine LeO.ite ?_ ?_ | refine LeO.bind ?_ (fun _ => ?_))
theorem impl_BelowLadder.mono : ∀ a0 a1 a2 a3 k, LeO (impl_BelowLadder.f k a0 a1 a2 a3) (impl_BelowLadder.f (k + 1) a0 a1 a2 a3) := by
 intro a0 a1 a2 a3 k
 have ih0 := impl_BelowLadder.mono_l k
 unfold impl_BelowLadder.f
 repeat' first | (with_reducible first | exact ih0 _ _ _ _ _ | exact LeO.refl _ | exact LeO.none _ | refine LeO.ite ?_ ?_ | refine LeO.bind ?_ (fun _ => ?_))
def impl_BelowLadder.T3 : Bool × List (List Nat × List Nat) := (true, [([], []), ([0], [0]), ([], []), ([2], [2]), ([], []), ([4], [4]), ([3, 5], [3, 5]), ([6], [6]), ([1, 7], [1, 7]), ([8, 7], [8]), ([9], [9]), ([9], [9]), ([10, 9, 0, 1, 2, 3, 4, 5, 6, 7, 8, 9, 10, 11], [10]), ([11, 12, 0, 1, 2, 3, 4, 5, 6, 7, 8, 9, 10, 11, 12], [11])])
def impl_BelowLadder.B3 : List Nat := [0, 1, 0, 4, 0, 16, 60, 124, 255, 511, 1023, 1023, 4095, 8191]
theorem impl_BelowLadder.tab3 : rtab .any (opsOf Tryz.f29 3) = impl_BelowLadder.T3 := by kernel_rfl
theorem impl_BelowLadder.bits3 : waitsOk impl_BelowLadder.T3.2 impl_BelowLadder.B3 = true := by kernel_rfl
theorem impl_BelowLadder.calls (k : Nat) (a0_0 : Int) (P0_1_ : Nat → Prop) (A0_1 : Option Addr) (c0_1 : Nat) (l0_1 : List Int) (a1_0 : Int) (P1_1_ : Nat → Prop) (A1_1 : Option Addr) (c1_1 : Nat) (l1_1 : List Int) (r1 : Int) (r2 : List Int) (r3 : Bool) (w : World) (hs0_1 : Kd.V (Kd.int .i64) 3 w w.heap.size (fun k_ => P0_1_ k_) (.slice A0_1 l0_1.length c0_1) l0_1) (hs1_1 : Kd.V (Kd.int .i64) 3 w w.heap.size (fun k_ => P1_1_ k_) (.slice A1_1 l1_1.length c1_1) l1_1) (h : impl_BelowLadder.f k a0_0 l0_1 a1_0 l1_1 = some (r1, r2, r3)) :
  Calls Tryz.prog 29 #[.agg #[.int .i64 a0_0, .slice A0_1 l0_1.length c0_1], .agg #[.int .i64 a1_0, .slice A1_1 l1_1.length c1_1]] w fun e w' => ∃ v1_ : Value, e = .returned (.tuple #[.agg #[.int .i64 r1, v1_], .bool r3]) ∧ Kd.R (Kd.int .i64) 3 w' w.heap.size (fun k_ => (w.heap.size ≤ k_)) v1_ r2 ∧ Below w.heap.size w w' := by
 have hu26 := Tryz.underlying26
 have HO0_1 := am (show Kd.V (Kd.int .i64) 3 w w.heap.size (fun k_ => ((P0_1_ k_ ∨ P1_1_ k_) ∨ w.heap.size ≤ k_)) (.slice A0_1 l0_1.length c0_1) l0_1 from Kd.V_mono hs0_1 (fun k_ hk => .inl (.inl hk)))
 have HO1_1 := am (show Kd.V (Kd.int .i64) 3 w w.heap.size (fun k_ => ((P0_1_ k_ ∨ P1_1_ k_) ∨ w.heap.size ≤ k_)) (.slice A1_1 l1_1.length c1_1) l1_1 from Kd.V_mono hs1_1 (fun k_ hk => .inl (.inr hk)))
 have HB := am (Below.refl w.heap.size w)
 unfold impl_BelowLadder.f at h
 have H := h
 clear h
 have HC3 := am H
 clear H
 go_enter Tryz.func29, Tryz.ntmps29
 go_upto_region 1 with (first | ((with_reducible refine gate_dst (N := 2) rfl ?_); refine zE 2 (cs := #[.int .i64 a0_0, .slice A0_1 l0_1.length c0_1]) 26 ?_; intro gb528 hg w4 hbox hb; have BK528 := am (hbox); have GW528 := am ((zq56 : w.heap.size ≤ gb528)); replace HO0_1 := am (Kd.V_below (Kd.V_elderB zq40 gb528 (Nat.le_of_eq hg.symm)) hb); replace HO1_1 := am (Kd.V_below (Kd.V_elderB zq39 gb528 (Nat.le_of_eq hg.symm)) hb); replace HB := sB HB hb; clear hb hbox hg) | ((with_reducible refine gate_dst (N := 3) rfl ?_); refine zE 3 (cs := #[.int .i64 a1_0, .slice A1_1 l1_1.length c1_1]) 26 ?_; intro gb529 hg w5 hbox hb; have BK529 := am (hbox); have GW529 := am ((zq56 : w.heap.size ≤ gb529)); have NB528_529 := am ((by rw [hg]; exact Nat.ne_of_lt (blk_lt (pKq BK528)) : gb528 ≠ gb529)); have NB529_528 := am ((by rw [hg]; exact Nat.ne_of_gt (blk_lt (pKq BK528)) : gb529 ≠ gb528)); replace HO0_1 := am (Kd.V_below (Kd.V_elderB zq40 gb529 (Nat.le_of_eq hg.symm)) hb); replace HO1_1 := am (Kd.V_below (Kd.V_elderB zq39 gb529 (Nat.le_of_eq hg.symm)) hb); replace BK528 := sK BK528 hb; replace HB := sB HB hb; clear hb hbox hg) | ((with_reducible refine gate_dst (N := 4) rfl ?_); refine zE 4 (cs := #[.int .i64 0, .slice none 0 0]) 26 ?_; intro gb530 hg w6 hbox hb; have BK530 := am (hbox); have GW530 := am ((zq56 : w.heap.size ≤ gb530)); have NB528_530 := am ((by rw [hg]; exact Nat.ne_of_lt (blk_lt (pKq BK528)) : gb528 ≠ gb530)); have NB530_528 := am ((by rw [hg]; exact Nat.ne_of_gt (blk_lt (pKq BK528)) : gb530 ≠ gb528)); have NB529_530 := am ((by rw [hg]; exact Nat.ne_of_lt (blk_lt (pKq BK529)) : gb529 ≠ gb530)); have NB530_529 := am ((by rw [hg]; exact Nat.ne_of_gt (blk_lt (pKq BK529)) : gb530 ≠ gb529)); replace HO0_1 := am (Kd.V_below (Kd.V_elderB zq40 gb530 (Nat.le_of_eq hg.symm)) hb); replace HO1_1 := am (Kd.V_below (Kd.V_elderB zq39 gb530 (Nat.le_of_eq hg.symm)) hb); replace BK528 := sK BK528 hb; replace BK529 := sK BK529 hb; replace HB := sB HB hb; clear hb hbox hg))
 (try simp only [Act.put, setIfInBounds_toArray, set_cons_zero, set_cons_succ])
 go_cut [20] (fun v20 wc => ∃ (kq : Nat) (x20_2 : Bool), v20 = .bool x20_2 ∧ Aside0 (impl_BelowLadder.j0 kq x20_2 a0_0 l0_1 a1_0 l1_1 = some (r1, r2, r3)) ∧ Aside0 (kq ≤ k) ∧ Aside0 (Kd.V (Kd.int .i64) 3 wc w.heap.size (fun k_ => ((P0_1_ k_ ∨ P1_1_ k_) ∨ w.heap.size ≤ k_) ∧ k_ ≠ gb528 ∧ k_ ≠ gb529 ∧ k_ ≠ gb530) (.slice A0_1 l0_1.length c0_1) l0_1) ∧ Aside0 (Kd.V (Kd.int .i64) 3 wc w.heap.size (fun k_ => ((P0_1_ k_ ∨ P1_1_ k_) ∨ w.heap.size ≤ k_) ∧ k_ ≠ gb528 ∧ k_ ≠ gb529 ∧ k_ ≠ gb530) (.slice A1_1 l1_1.length c1_1) l1_1) ∧ Aside0 (wc.heap[gb528]? = some (.cells #[.int .i64 a0_0, (.slice A0_1 l0_1.length c0_1)] 26 (0, 0))) ∧ Aside0 (wc.heap[gb529]? = some (.cells #[.int .i64 a1_0, (.slice A1_1 l1_1.length c1_1)] 26 (0, 0))) ∧ Aside0 (wc.heap[gb530]? = some (.cells #[.int .i64 0, (.slice none 0 0)] 26 (0, 0))) ∧ Aside0 (Below w.heap.size w wc))
 case first =>
  have H := HC3.out
  clear HC3
  obtain ⟨t531, A7, H⟩ := zS H
  (try dsimp only at H)
  by_cases c8 : t531 = true
  ·subst c8
   rw [if_pos rfl] at H
   obtain ⟨t532, A9, H⟩ := zS H
   (try dsimp only at H)
   by_cases c10 : t532 = true
   ·subst c10
    rw [if_pos rfl] at H
    have H' := am H
    clear H
    have hnb11 := NB528_529.out
    have hnc11 := NB529_528.out
    have hnb12 := NB528_530.out
    have hnc12 := NB530_528.out
    obtain ⟨hcz13_0, hcz13_1, hfz13_0, hfz13_1⟩ := sC BK528
    go_wp2_with (first | ((with_reducible refine gate_callee (f := 56) rfl ?_); refine goesL_ (some 7) rfl rfl Tryz.func56 zq15 rfl #[.agg #[.int .i64 a0_0, .slice A0_1 l0_1.length c0_1]] rfl zq0 ?_; (with_reducible refine (impl_isLadder.calls a0_0 _ _ l0_1 true _ ?side1 ?side2 A7.out).mono ?_); (case side1 => exact zq79); (case side2 => exact (Kd.V_reads' HO0_1.out).2.1); rintro e w14 ⟨rfl, hb⟩; refine ⟨_, rfl, ?_⟩; replace HO0_1 := am (Kd.V_below zq40 hb); replace HO1_1 := am (Kd.V_below zq39 hb); replace BK528 := sK BK528 hb; replace BK529 := sK BK529 hb; replace BK530 := sK BK530 hb; replace HB := sB HB hb; (try clear hb); have hnb15 := NB529_530.out; have hnc15 := NB530_529.out; obtain ⟨hcz16_0, hcz16_1, hfz16_0, hfz16_1⟩ := sC BK529) | (go_at_call 56; (with_reducible refine (impl_isLadder.calls a1_0 _ _ l1_1 true _ ?side1 ?side2 A9.out).mono ?_); (case side1 => exact zq102); (case side2 => exact (Kd.V_reads' HO1_1.out).2.1); rintro e w17 ⟨rfl, hb⟩; replace HO0_1 := am (Kd.V_below zq40 hb); replace HO1_1 := am (Kd.V_below zq39 hb); replace BK528 := sK BK528 hb; replace BK529 := sK BK529 hb; replace BK530 := sK BK530 hb; replace HB := sB HB hb; (try clear hb); obtain ⟨hcz18_0, hcz18_1, hfz18_0, hfz18_1⟩ := sC BK528; obtain ⟨hcz19_0, hcz19_1, hfz19_0, hfz19_1⟩ := sC BK529))
    go_meet
    case rel => exact ⟨_, ((a0_0 != a1_0)), zq10, H', ⟨zq41⟩, ⟨zq75⟩, ⟨zq74⟩, ⟨zq92⟩, ⟨zq91⟩, ⟨zq90⟩, ⟨zq1⟩⟩
   ·replace c10 := Bool.eq_false_iff.mpr c10
    subst c10
    rw [if_neg (show ¬ (false = true) by decide)] at H
    have H' := am H
    clear H
    have hnb20 := NB528_529.out
    have hnc20 := NB529_528.out
    have hnb21 := NB528_530.out
    have hnc21 := NB530_528.out
    obtain ⟨hcz22_0, hcz22_1, hfz22_0, hfz22_1⟩ := sC BK528
    go_wp2_with (first | ((with_reducible refine gate_callee (f := 56) rfl ?_); refine goesL_ (some 7) rfl rfl Tryz.func56 zq15 rfl #[.agg #[.int .i64 a0_0, .slice A0_1 l0_1.length c0_1]] rfl zq0 ?_; (with_reducible refine (impl_isLadder.calls a0_0 _ _ l0_1 true _ ?side1 ?side2 A7.out).mono ?_); (case side1 => exact zq79); (case side2 => exact (Kd.V_reads' HO0_1.out).2.1); rintro e w23 ⟨rfl, hb⟩; refine ⟨_, rfl, ?_⟩; replace HO0_1 := am (Kd.V_below zq40 hb); replace HO1_1 := am (Kd.V_below zq39 hb); replace BK528 := sK BK528 hb; replace BK529 := sK BK529 hb; replace BK530 := sK BK530 hb; replace HB := sB HB hb; (try clear hb); have hnb24 := NB529_530.out; have hnc24 := NB530_529.out; obtain ⟨hcz25_0, hcz25_1, hfz25_0, hfz25_1⟩ := sC BK529) | (go_at_call 56; (with_reducible refine (impl_isLadder.calls a1_0 _ _ l1_1 false _ ?side1 ?side2 A9.out).mono ?_); (case side1 => exact zq102); (case side2 => exact (Kd.V_reads' HO1_1.out).2.1); rintro e w26 ⟨rfl, hb⟩; replace HO0_1 := am (Kd.V_below zq40 hb); replace HO1_1 := am (Kd.V_below zq39 hb); replace BK528 := sK BK528 hb; replace BK529 := sK BK529 hb; replace BK530 := sK BK530 hb; replace HB := sB HB hb; (try clear hb)))
    go_meet
    case rel => exact ⟨_, (true), zq10, H', ⟨zq41⟩, ⟨zq75⟩, ⟨zq74⟩, ⟨zq92⟩, ⟨zq91⟩, ⟨zq90⟩, ⟨zq1⟩⟩
  ·replace c8 := Bool.eq_false_iff.mpr c8
   subst c8
   rw [if_neg (show ¬ (false = true) by decide)] at H
   have H' := am H
   clear H
   have hnb27 := NB528_529.out
   have hnc27 := NB529_528.out
   have hnb28 := NB528_530.out
   have hnc28 := NB530_528.out
   obtain ⟨hcz29_0, hcz29_1, hfz29_0, hfz29_1⟩ := sC BK528
   go_wp2_with (first | ((with_reducible refine gate_callee (f := 56) rfl ?_); refine goesL_ (some 7) rfl rfl Tryz.func56 zq15 rfl #[.agg #[.int .i64 a0_0, .slice A0_1 l0_1.length c0_1]] rfl zq0 ?_; (with_reducible refine (impl_isLadder.calls a0_0 _ _ l0_1 false _ ?side1 ?side2 A7.out).mono ?_); (case side1 => exact zq79); (case side2 => exact (Kd.V_reads' HO0_1.out).2.1); rintro e w30 ⟨rfl, hb⟩; refine ⟨_, rfl, ?_⟩; replace HO0_1 := am (Kd.V_below zq40 hb); replace HO1_1 := am (Kd.V_below zq39 hb); replace BK528 := sK BK528 hb; replace BK529 := sK BK529 hb; replace BK530 := sK BK530 hb; replace HB := sB HB hb; (try clear hb)))
   go_meet
   case rel => exact ⟨_, (true), zq10, H', ⟨zq41⟩, ⟨zq75⟩, ⟨zq74⟩, ⟨zq92⟩, ⟨zq91⟩, ⟨zq90⟩, ⟨zq1⟩⟩
 case rest =>
  clear HC3
  obtain ⟨kq, x20_2, rfl, HA, HJ2, HO_529001, HO_530001, BK528, BK529, BK530, HB⟩ := hcut
  cases kq with
  | zero => exact absurd HA.out (by simp [impl_BelowLadder.j0])
  | succ kj2 =>
   have H := HA.out
   clear HA
   simp only [impl_BelowLadder.j0] at H
   by_cases c31 : x20_2 = true
   ·subst c31
    rw [if_pos rfl] at H
    simp only [Option.some.injEq, Prod.mk.injEq] at H
    obtain ⟨rfl, rfl, rfl⟩ := H
    have hnb32 := NB530_528.out
    have hnc32 := NB528_530.out
    have hnb33 := NB530_529.out
    have hnc33 := NB529_530.out
    obtain ⟨hcz34_0, hcz34_1, hfz34_0, hfz34_1⟩ := sC BK530
    go_wp2
    refine bodyPost_ret (results_ct rfl _ _ gb530 26 #[.int .i64 0, .slice none 0 0] (0, 0) _ rfl (by (with_reducible repeat (first | refine blk_drewN ?_ _ | refine blk_drew ?_ | refine blk_alloc ?_ _)); refine blk_put (cs := #[.int .i64 0, .slice none 0 0]) ?_ 1 _ rfl; (with_reducible repeat (first | refine blk_drewN ?_ _ | refine blk_drew ?_ | refine blk_alloc ?_ _)); refine blk_put (cs := #[.int .i64 0, .slice none 0 0]) ?_ 0 _ rfl; (with_reducible repeat (first | refine blk_drewN ?_ _ | refine blk_drew ?_ | refine blk_alloc ?_ _)); exact BK530.out) Tryz.underlying26 rfl zq15) rfl ?_
    exact ⟨_, zq6, zq11, zq1⟩
   ·replace c31 := Bool.eq_false_iff.mpr c31
    subst c31
    rw [if_neg (show ¬ (false = true) by decide)] at H
    obtain ⟨y533, Ny533⟩ : ∃ y_ : List (List Int), Aside0 (y_ = (([l0_1, l1_1] : List (List Int)))) := ⟨_, ⟨rfl⟩⟩
    rw [← Ny533.out] at H
    obtain ⟨t536, A35, H⟩ := zS H
    (try dsimp only at H)
    replace H := Option.bind_eq_some_iff.mp H
    obtain ⟨⟨t539, t540, t543⟩, A360, H⟩ := H
    (try dsimp only at H)
    have A36 := am A360
    clear A360
    simp only [Option.some.injEq, Prod.mk.injEq] at H
    obtain ⟨rfl, rfl, rfl⟩ := H
    try go_wp2
    replace HO_529001 := am (Kd.V_drew HO_529001.out)
    replace HO_530001 := am (Kd.V_drew HO_530001.out)
    replace BK528 := am (blk_drew BK528.out)
    replace BK529 := am (blk_drew BK529.out)
    replace BK530 := am (blk_drew BK530.out)
    replace HB := am (below_drew1 HB.out)
    refine start_ (n := 14) (S := fun w' => w'.cell? ⟨gb528, 0, none⟩ = some (.int .i64 a0_0) ∧ w'.cell? ⟨gb528, 1, none⟩ = some (.slice A0_1 l0_1.length c0_1) ∧ w'.cell? ⟨gb529, 0, none⟩ = some (.int .i64 a1_0) ∧ w'.cell? ⟨gb529, 1, none⟩ = some (.slice A1_1 l1_1.length c1_1)) (ds := []) #[false, false, false, false, false, false, false, false, false, false, false, false, false, false] zq15 rfl rfl ⟨(blk_cell BK528.out 0).trans rfl, (blk_cell BK528.out 1).trans rfl, (blk_cell BK529.out 0).trans rfl, (blk_cell BK529.out 1).trans rfl⟩ (fun hHeld => ?_); refine with_tabW impl_BelowLadder.tab3 impl_BelowLadder.bits3 (fun HT_ HW_ => ?_)
    generalize wc.drew = w37 at HO_529001 HO_530001 BK528 BK529 BK530 HB hHeld ⊢
    refine zU 0 22 HT_ ?_
    refine zU 2 24 HT_ ?_
    refine zU 4 26 HT_ ?_
    refine zT 1 23 HT_ HW_ hHeld ?_
    refine zT 3 25 HT_ HW_ hHeld ?_
    refine zT 5 27 HT_ HW_ hHeld ?_
    refine zO 6 28 HT_ fun K hK => ?_
    refine Kd.N_lit_step (Kd.slice 3 (Kd.int .i64)) _ 24 ?hg (N' := 28) ?hd (xs := ([l0_1, l1_1] : List (List Int))) (inner := [.slice A0_1 l0_1.length c0_1, .slice A1_1 l1_1.length c1_1]) (ok := (fun k_ => ((P0_1_ k_ ∨ P1_1_ k_) ∨ w.heap.size ≤ k_) ∧ k_ ≠ gb528 ∧ k_ ≠ gb529 ∧ k_ ≠ gb530)) (okp := (fun k_ => ((P0_1_ k_ ∨ P1_1_ k_) ∨ w.heap.size ≤ k_) ∧ k_ ≠ gb528 ∧ k_ ≠ gb529 ∧ k_ ≠ gb530)) ?hr ?hp (fun _ hk => hk) ((show ∀ k_, w37.heap.size ≤ k_ → (fun k_ => ((P0_1_ k_ ∨ P1_1_ k_) ∨ w.heap.size ≤ k_) ∧ k_ ≠ gb528 ∧ k_ ≠ gb529 ∧ k_ ≠ gb530) k_ from fun k_ hk => ⟨(.inr (Nat.le_trans (below_size (pBq HB)) hk)), Kd.freshB (g := gb528) (o := .cells #[.int .i64 a0_0, .slice A0_1 l0_1.length c0_1] 26 (0, 0)) (pKq BK528) k_ hk, Kd.freshB (g := gb529) (o := .cells #[.int .i64 a1_0, .slice A1_1 l1_1.length c1_1] 26 (0, 0)) (pKq BK529) k_ hk, Kd.freshB (g := gb530) (o := .cells #[.int .i64 0, .slice none 0 0] 26 (0, 0)) (pKq BK530) k_ hk⟩) _ (Nat.le_refl _)) (Below.refl _ _) (Nat.le_refl _) zq42 ?_; (case hd => rfl); (case hg => rfl); (case hr => exact zq30); (case hp => exact (Reps.one (show Kd.FK (Kd.slice 3 (Kd.int .i64)) _ _ l0_1 [.slice A0_1 l0_1.length c0_1] from (Kd.FK_slice_mk (Kd.V_reads' (Kd.V_mono (ok' := (fun k_ => ((P0_1_ k_ ∨ P1_1_ k_) ∨ w.heap.size ≤ k_) ∧ k_ ≠ gb528 ∧ k_ ≠ gb529 ∧ k_ ≠ gb530)) (HO_529001.out) (fun k_ hk => ⟨hk.1, ⟨hk.2.1, ⟨hk.2.2.1, hk.2.2.2⟩⟩⟩))).2.1 (Kd.V_F (Kd.V_mono (ok' := (fun k_ => ((P0_1_ k_ ∨ P1_1_ k_) ∨ w.heap.size ≤ k_) ∧ k_ ≠ gb528 ∧ k_ ≠ gb529 ∧ k_ ≠ gb530)) (HO_529001.out) (fun k_ hk => ⟨hk.1, ⟨hk.2.1, ⟨hk.2.2.1, hk.2.2.2⟩⟩⟩))))) (Reps.one (show Kd.FK (Kd.slice 3 (Kd.int .i64)) _ _ l1_1 [.slice A1_1 l1_1.length c1_1] from (Kd.FK_slice_mk (Kd.V_reads' (Kd.V_mono (ok' := (fun k_ => ((P0_1_ k_ ∨ P1_1_ k_) ∨ w.heap.size ≤ k_) ∧ k_ ≠ gb528 ∧ k_ ≠ gb529 ∧ k_ ≠ gb530)) (HO_530001.out) (fun k_ hk => ⟨hk.1, ⟨hk.2.1, ⟨hk.2.2.1, hk.2.2.2⟩⟩⟩))).2.1 (Kd.V_F (Kd.V_mono (ok' := (fun k_ => ((P0_1_ k_ ∨ P1_1_ k_) ∨ w.heap.size ≤ k_) ∧ k_ ≠ gb528 ∧ k_ ≠ gb529 ∧ k_ ≠ gb530)) (HO_530001.out) (fun k_ hk => ⟨hk.1, ⟨hk.2.1, ⟨hk.2.2.1, hk.2.2.2⟩⟩⟩))))) (Reps.none _ _))))
    intro v534 w38 ho39 hb hg_ hnew_
    clear hg_ hnew_
    (first | rw [← Ny533.out] at ho39 | (simp only [Int.reduceToNat] at ho39; rw [← Ny533.out] at ho39))
    have HO535 := am (Kd.N_lower ho39 (below_size (pBq HB)))
    replace HO_529001 := am (Kd.V_elder' (by (with_reducible repeat (first | apply Kd.V_alloc | apply Kd.V_drewN | apply Kd.V_drew)); exact HO_529001.out) (Kd.N_base ho39) hb)
    replace HO_530001 := am (Kd.V_elder' (by (with_reducible repeat (first | apply Kd.V_alloc | apply Kd.V_drewN | apply Kd.V_drew)); exact HO_530001.out) (Kd.N_base ho39) hb)
    replace BK528 := sK BK528 hb
    replace BK529 := sK BK529 hb
    replace BK530 := sK BK530 hb
    replace HB := sB HB hb
    clear hb ho39
    obtain ⟨Ao40, co40, eo40⟩ := Kd.N_slice HO535.out
    (first | subst eo40 | (injection eo40 with f1_ f2_ f3_; have f4_ := f1_.symm; have f5_ := f3_.symm; clear f1_ f2_ f3_; subst f4_; subst f5_))
    refine hK.out _ _ ⟨(blk_cell BK528.out 0).trans rfl, (blk_cell BK528.out 1).trans rfl, (blk_cell BK529.out 0).trans rfl, (blk_cell BK529.out 1).trans rfl⟩ (fun hHeld => ?_)
    clear hK K
    refine zN 28 ?_
    refine zO 7 29 HT_ fun K hK => ?_
    refine goes_ Tryz.func81 zq15 rfl #[.slice Ao40 y533.length co40] (by rfl) rfl rfl zq0 ?_
    with_reducible refine (slices_Concat_int_int.calls _ _ y533 t536 _ ?side1 ?side2 A35.out).mono ?_
    (case side1 => repeat (first | exact (Kd.N_reads' HO535.out).2.2 | (with_reducible refine Kd.C_alloc ?_ _) | (with_reducible refine Kd.C_drewN ?_ _) | (with_reducible refine Kd.C_drew ?_)))
    (case side2 => exact (Kd.N_reads' HO535.out).2.1)
    rintro e w41 ⟨v537, rfl, ho0, hb⟩
    refine ⟨_, rfl, ?_⟩
    have HO538 := am (Kd.R_lower (Kd.R_newM (M := fun k_ => (w.heap.size ≤ k_)) ho0 (below_size (pBq HB)) (fun k_ h_ => h_)) (below_size (pBq HB)))
    replace HO_529001 := am (Kd.V_elder' (by (with_reducible repeat (first | apply Kd.V_alloc | apply Kd.V_drewN | apply Kd.V_drew)); exact HO_529001.out) (Kd.R_base ho0) hb)
    replace HO_530001 := am (Kd.V_elder' (by (with_reducible repeat (first | apply Kd.V_alloc | apply Kd.V_drewN | apply Kd.V_drew)); exact HO_530001.out) (Kd.R_base ho0) hb)
    replace HO535 := am (Kd.N_elder' (by (with_reducible repeat (first | apply Kd.N_alloc | apply Kd.N_drewN | apply Kd.N_drew)); exact HO535.out) (Kd.R_base ho0) hb)
    replace BK528 := sK BK528 hb
    replace BK529 := sK BK529 hb
    replace BK530 := sK BK530 hb
    replace HB := sB HB hb
    (try clear hb)
    (try clear hb2)
    (try clear hk)
    (try clear hi)
    (try clear ho0)
    obtain ⟨Ao42, co42, eo42⟩ := Kd.R_slice HO538.out
    (first | subst eo42 | (injection eo42 with f1_ f2_ f3_; have f4_ := f1_.symm; have f5_ := f3_.symm; clear f1_ f2_ f3_; subst f4_; subst f5_))
    refine hK.out _ _ ⟨(blk_cell BK528.out 0).trans rfl, (blk_cell BK528.out 1).trans rfl, (blk_cell BK529.out 0).trans rfl, (blk_cell BK529.out 1).trans rfl⟩ (fun hHeld => ?_)
    clear hK K
    refine zN 29 ?_
    refine zU 8 30 HT_ ?_
    refine zO 9 31 HT_ fun K hK => ?_
    refine goes_ Tryz.func68 zq15 rfl #[.agg #[.int .i64 a0_0, .slice Ao42 t536.length co42]] (by rfl) rfl rfl zq0 ?_
    with_reducible refine (impl_checked.calls a0_0 (fun k_ => some k_ = (.slice Ao42 t536.length co42 : Value).ownBlock) (.slice Ao42 t536.length co42) t536 t539 t540 t543 w _ ?side1 ?side2 A36.out).mono ?_
    (case side1 => exact zq1)
    (case side2 => exact Kd.R_tight rfl HO538.out)
    rintro e w43 ⟨v541, rfl, ho0, hb, hkp⟩
    refine ⟨_, rfl, ?_⟩
    have HO542 := am (Kd.R_mono (ok' := fun k_ => (w.heap.size ≤ k_)) ho0 (fun k_ hk_ => Or.elim hk_ (fun hs_ => (HO538.out.1 k_ (hs_).symm).1) (fun hn_ => (Nat.le_trans (below_size (pBq HB)) hn_))))
    replace HO_529001 := am (Kd.V_mono (ok' := fun k_ => ((P0_1_ k_ ∨ P1_1_ k_) ∨ w.heap.size ≤ k_) ∧ some k_ ≠ (.slice Ao40 y533.length co40 : Value).ownBlock ∧ k_ ≠ gb528 ∧ k_ ≠ gb529 ∧ k_ ≠ gb530 ∧ some k_ ≠ (v541 : Value).ownBlock) (Kd.V_keptB (HO_529001.out) hkp (fun k_ hk_ hs_ => (hk_.2) hs_)) (fun k_ hk_ => ⟨hk_.1.1.1.1, hk_.1.1.2, hk_.1.1.1.2.1, hk_.1.1.1.2.2.1, hk_.1.1.1.2.2.2, fun e_ => Or.elim (ho0.1 k_ e_.symm) (fun hs_ => hk_.2.1 hs_) (fun hn_ => Nat.not_le.2 hk_.2.2 hn_)⟩))
    replace HO_530001 := am (Kd.V_mono (ok' := fun k_ => ((P0_1_ k_ ∨ P1_1_ k_) ∨ w.heap.size ≤ k_) ∧ some k_ ≠ (.slice Ao40 y533.length co40 : Value).ownBlock ∧ k_ ≠ gb528 ∧ k_ ≠ gb529 ∧ k_ ≠ gb530 ∧ some k_ ≠ (v541 : Value).ownBlock) (Kd.V_keptB (HO_530001.out) hkp (fun k_ hk_ hs_ => (hk_.2) hs_)) (fun k_ hk_ => ⟨hk_.1.1.1.1, hk_.1.1.2, hk_.1.1.1.2.1, hk_.1.1.1.2.2.1, hk_.1.1.1.2.2.2, fun e_ => Or.elim (ho0.1 k_ e_.symm) (fun hs_ => hk_.2.1 hs_) (fun hn_ => Nat.not_le.2 hk_.2.2 hn_)⟩))
    replace BK528 := am (blk_kept (pKq BK528) hkp (fun hs_ => (fun e_ => (Kd.R_ne HO538.out BK528.out zq27) e_) hs_))
    replace BK529 := am (blk_kept (pKq BK529) hkp (fun hs_ => (fun e_ => (Kd.R_ne HO538.out BK529.out zq27) e_) hs_))
    replace BK530 := am (blk_kept (pKq BK530) hkp (fun hs_ => (fun e_ => (Kd.R_ne HO538.out BK530.out zq27) e_) hs_))
    replace HO535 := am (Kd.N_mono (ok' := fun k_ => ((P0_1_ k_ ∨ P1_1_ k_) ∨ w.heap.size ≤ k_) ∧ k_ ≠ gb528 ∧ k_ ≠ gb529 ∧ k_ ≠ gb530 ∧ some k_ ≠ (v541 : Value).ownBlock) (Kd.N_keptB (HO535.out) hkp (fun k_ hk_ hs_ => (hk_.2) hs_)) (fun k_ hk_ => ⟨hk_.1.1.1, hk_.1.1.2.1, hk_.1.1.2.2.1, hk_.1.1.2.2.2, fun e_ => Or.elim (ho0.1 k_ e_.symm) (fun hs_ => hk_.2.1 hs_) (fun hn_ => Nat.not_le.2 hk_.2.2 hn_)⟩))
    replace HB := am (hb)
    clear HO538
    (try clear hb)
    (try clear hkp)
    (try clear ho0)
    obtain ⟨Ao45, co45, eo45⟩ := Kd.R_slice HO542.out
    (first | subst eo45 | (injection eo45 with f1_ f2_ f3_; have f4_ := f1_.symm; have f5_ := f3_.symm; clear f1_ f2_ f3_; subst f4_; subst f5_))
    refine hK.out _ _ ⟨(blk_cell BK528.out 0).trans rfl, (blk_cell BK528.out 1).trans rfl, (blk_cell BK529.out 0).trans rfl, (blk_cell BK529.out 1).trans rfl⟩ (fun hHeld => ?_)
    clear hK K
    refine zN 31 ?_
    refine zU 10 32 HT_ ?_
    refine zU 11 33 HT_ ?_
    refine one_ (i := 12) (N := none) #[true, true, true, true, true, true, true, true, true, true, true, true, true, false] rfl rfl (one_of HT_.out zq15) zq27 (fun K hK => ?_)
    have hs44 : w43.cell? ⟨gb530, 0, none⟩ = some (.int .i64 0) := (blk_cell BK530.out 0).trans rfl
    have hfs44 := blk_frozen BK530.out 0
    have hns44_0 := NB528_530.out
    have hns44_1 := NB529_530.out
    have hms44_0 := NB530_528.out
    have hms44_1 := NB530_529.out
    have hs46 : w43.cell? ⟨gb530, 1, none⟩ = some (.slice none 0 0) := (blk_cell BK530.out 1).trans rfl
    have hfs46 := blk_frozen BK530.out 1
    have hns46_0 := NB528_530.out
    have hns46_1 := NB529_530.out
    have hms46_0 := NB530_528.out
    have hms46_1 := NB530_529.out
    refine skip_ (w1 := ?_) (by rfl) rfl ?_ ?_
    rotate_left
    ·go_simp
     rfl
    refine hK.out _ _ ⟨((cell_far (p := ⟨gb530, _, none⟩) NB528_530.out _).trans (((cell_far (p := ⟨gb530, _, none⟩) NB528_530.out _).trans (hHeld.1)))), ((cell_far (p := ⟨gb530, _, none⟩) NB528_530.out _).trans (((cell_far (p := ⟨gb530, _, none⟩) NB528_530.out _).trans (hHeld.2.1)))), ((cell_far (p := ⟨gb530, _, none⟩) NB529_530.out _).trans (((cell_far (p := ⟨gb530, _, none⟩) NB529_530.out _).trans (hHeld.2.2.1)))), ((cell_far (p := ⟨gb530, _, none⟩) NB529_530.out _).trans (((cell_far (p := ⟨gb530, _, none⟩) NB529_530.out _).trans (hHeld.2.2.2))))⟩ (fun hHeld => ?_)
    clear hK K
    refine zU 13 5 HT_ ?_
    refine done_ (done_of HT_.out zq15) ?_
    try go_wp2
    refine bodyPost_ret (results_ct rfl _ _ gb530 26 #[.int .i64 t539, .slice Ao45 t540.length co45] (0, 0) _ rfl (by (with_reducible repeat (first | refine blk_drewN ?_ _ | refine blk_drew ?_ | refine blk_alloc ?_ _)); refine blk_put (cs := #[.int .i64 t539, .slice none 0 0]) ?_ 1 _ rfl; (with_reducible repeat (first | refine blk_drewN ?_ _ | refine blk_drew ?_ | refine blk_alloc ?_ _)); refine blk_put (cs := #[.int .i64 0, .slice none 0 0]) ?_ 0 _ rfl; (with_reducible repeat (first | refine blk_drewN ?_ _ | refine blk_drew ?_ | refine blk_alloc ?_ _)); exact BK530.out) Tryz.underlying26 rfl zq15) rfl ?_
    exact ⟨_, zq6, by (with_reducible repeat (first | apply Kd.R_alloc | apply Kd.R_drewN | apply Kd.R_drew)); exact Kd.R_mono (Kd.R_far (p := ⟨gb530, 1, none⟩) (Kd.R_far (p := ⟨gb530, 0, none⟩) (Kd.R_types HO542.out BK530.out zq27) (fun _ hk => hk.2) (.int .i64 t539)) (fun _ hk => hk.2) (.slice Ao45 t540.length co45)) (fun _ hk => hk.1), zq1⟩
end
end Go.Proofs.YtlmiiijjjcddkaaGreatDoor.PLg
