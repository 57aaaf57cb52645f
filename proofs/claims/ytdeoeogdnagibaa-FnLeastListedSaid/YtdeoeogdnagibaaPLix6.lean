-- Written for this claim by a program of this session (myprint.py) over the kit's printer.
import Derived.Test.YtdeoeogdnagibaaPLix0
import Derived.Test.YtdeoeogdnagibaaPLix1
import Derived.Test.YtdeoeogdnagibaaPLix2
import Derived.Test.YtdeoeogdnagibaaPLix5
namespace Go.Proofs.Ytdeoeogdnagibaa.PLi
noncomputable section
open Go.RowKit Go.Proofs.YtdeoeogdnagibaaW.PrintWords Go.Proofs.YtdeoeogdnagibaaW.PrintLast Go.Proofs.YtdeoeogdnagibaaW.PrintMore
attribute [local go_sem] max2_int min2_int max_two min_two max_three min_three max_four min_four   -- for this text's walks alone
open List (setIfInBounds_toArray set_cons_zero set_cons_succ)
set_option maxHeartbeats 8000000
set_option maxRecDepth 100000
set_option linter.unusedVariables false
set_option linter.unusedSimpArgs false
theorem pRq6 {α : Type} {d : Kd α} {e base : Nat} {ok : Nat → Prop} {v : Value} {xs : List α} {w W : World} (h0 : Aside0 (Kd.R d e w base ok v xs)) (hp : Kd.R d e W base ok v xs := by (with_reducible repeat (first | apply Kd.R_alloc | apply Kd.R_drewN | apply Kd.R_drew)); exact Aside0.out (by with_reducible assumption)) : Kd.R d e W base ok v xs := hp
theorem pKq6 {g : Nat} {o : Obj} {w W : World} (h0 : Aside0 (w.heap[g]? = some o)) (hp : W.heap[g]? = some o := by (with_reducible repeat (first | refine blk_drewN ?_ _ | refine blk_drew ?_ | refine blk_alloc ?_ _)); exact Aside0.out (by with_reducible assumption)) : W.heap[g]? = some o := hp
theorem pBq6 {b : Nat} {w0 w W : World} (h0 : Aside0 (Below b w0 w)) (hp : Below b w0 W := by repeat (first | (with_reducible first | exact Aside0.out (by assumption) | apply below_alloc | apply pw_below_drewN | apply below_drew1 | refine below_set ?_ (Aside0.out (by assumption))))) : Below b w0 W := hp
/-! ### spec_l1Cur_ladder: function 70 -/
def spec_l1Cur_ladder.f (k : Nat) (s0_0 : List Int) (s0_1 : Int) (s0_2 : Int) : Option (Int × List Int × Int × Int) := (spec_l1Cur_sureLadder.f k s0_0 s0_1 s0_2 6 12).bind fun bt396 => ((spec_l1Cur_pick.f s0_0 bt396.2.2.1 bt396.2.2.2 16).bind fun bt403 => (if bt403.1 = 0 then ((spec_l1Cur_among.f s0_0 bt403.2.1 bt403.2.2 (([(-1), wrap64 (bt396.1 - 1), 4611686018427387904] : List Int))).bind fun bt409 => (if bt396.2.1.length < 17592186044416 then (some (bt396.1, (bt396.2.1 ++ [bt409.1]), bt409.2.1, bt409.2.2)) else (none))) else (if bt403.1 = 1 then ((spec_l1Cur_among.f s0_0 bt403.2.1 bt403.2.2 (([1, 2, 8, 9, (-1)] : List Int))).bind fun bt418 => (some (bt418.1, bt396.2.1, bt418.2.1, bt418.2.2))) else (if bt403.1 = 2 then ((spec_l1Cur_pick.f s0_0 bt403.2.1 bt403.2.2 2).bind fun bt421 => (if 0 ≤ (wrap64 (60 + bt421.1)) then (if (wrap64 (60 + bt421.1) : Int).toNat ≤ 35184372088832 then (some (bt396.1, (List.replicate (wrap64 (60 + bt421.1) : Int).toNat 0), bt421.2.1, bt421.2.2)) else (none)) else (none))) else (some (bt396.1, bt396.2.1, bt403.2.1, bt403.2.2))))))
theorem spec_l1Cur_ladder.mono : ∀ a0 a1 a2 k, LeO (spec_l1Cur_ladder.f k a0 a1 a2) (spec_l1Cur_ladder.f (k + 1) a0 a1 a2) := by
 intro a0 a1 a2 k
 unfold spec_l1Cur_ladder.f
 repeat' first | (with_reducible first | exact spec_l1Cur_sureLadder.mono _ _ _ _ _ _ | exact LeO.refl _ | exact LeO.none _ | refine LeO.ite ?_ ?_ | refine LeO.bind ?_ (fun _ => ?_))
def spec_l1Cur_ladder.T4 : Bool × List (List Nat × List Nat) := (true, [([], []), ([0], [0]), ([], []), ([], []), ([3], [3]), ([4], [4]), ([5], [5]), ([2, 6], [2, 6]), ([7], [7]), ([1, 8, 7], [1, 8]), ([0, 1, 2, 3, 4, 5, 6, 7, 8, 9], []), ([10, 9, 9, 0, 1, 2, 3, 4, 5, 6, 7, 8, 9], [9, 10])])
def spec_l1Cur_ladder.B4 : List Nat := [0, 1, 0, 0, 8, 24, 56, 124, 252, 511, 1023, 2047]
theorem spec_l1Cur_ladder.tab4 : rtab .any (opsOf Try.f70 4) = spec_l1Cur_ladder.T4 := by kernel_rfl
theorem spec_l1Cur_ladder.bits4 : waitsOk spec_l1Cur_ladder.T4.2 spec_l1Cur_ladder.B4 = true := by kernel_rfl
theorem spec_l1Cur_ladder.calls (k : Nat) (g : Nat) (s0_0 : List Int) (s0_1 : Int) (s0_2 : Int) (r1 : Int) (r2 : List Int) (r3 : Int) (r4 : Int) (w0 w : World) (hI : IsS51 w0 w g s0_0 s0_1 s0_2) (hB : Below w0.heap.size w0 w) (h : spec_l1Cur_ladder.f k s0_0 s0_1 s0_2 = some (r1, r2, r3, r4)) :
  Calls Try.prog 70 #[.pointer (some ⟨g, 0, none⟩)] w fun e w' => ∃ v1_ : Value, e = .returned (.agg #[.int .i64 r1, v1_]) ∧ Kd.R (Kd.int .i64) 3 w' w.heap.size (fun _ => True) v1_ r2 ∧ IsS51 w0 w' g s0_0 r3 r4 ∧ Below w0.heap.size w0 w' ∧ KeepBut w w' g none := by
 have hu34 := Try.underlying34
 have HI0 := am hI
 have HK := am (KeepBut.refl w g none)
 have HL := am hB.size
 clear hI
 have HW0 := am hB.size
 have HB := am hB
 clear hB
 have H : ((spec_l1Cur_sureLadder.f k s0_0 s0_1 s0_2 6 12).bind fun bt396 => ((spec_l1Cur_pick.f s0_0 bt396.2.2.1 bt396.2.2.2 16).bind fun bt403 => (if bt403.1 = 0 then ((spec_l1Cur_among.f s0_0 bt403.2.1 bt403.2.2 (([(-1), wrap64 (bt396.1 - 1), 4611686018427387904] : List Int))).bind fun bt409 => (if bt396.2.1.length < 17592186044416 then (some (bt396.1, (bt396.2.1 ++ [bt409.1]), bt409.2.1, bt409.2.2)) else (none))) else (if bt403.1 = 1 then ((spec_l1Cur_among.f s0_0 bt403.2.1 bt403.2.2 (([1, 2, 8, 9, (-1)] : List Int))).bind fun bt418 => (some (bt418.1, bt396.2.1, bt418.2.1, bt418.2.2))) else (if bt403.1 = 2 then ((spec_l1Cur_pick.f s0_0 bt403.2.1 bt403.2.2 2).bind fun bt421 => (if 0 ≤ (wrap64 (60 + bt421.1)) then (if (wrap64 (60 + bt421.1) : Int).toNat ≤ 35184372088832 then (some (bt396.1, (List.replicate (wrap64 (60 + bt421.1) : Int).toNat 0), bt421.2.1, bt421.2.2)) else (none)) else (none))) else (some (bt396.1, bt396.2.1, bt403.2.1, bt403.2.2))))))) = some (r1, r2, r3, r4) := h
 clear h
 replace H := Option.bind_eq_some_iff.mp H
 obtain ⟨⟨t396, t397, t400, t401⟩, A20, H⟩ := H
 (try dsimp only at H)
 have A2 := am A20
 clear A20
 replace H := Option.bind_eq_some_iff.mp H
 obtain ⟨⟨t403, t404, t405⟩, A30, H⟩ := H
 (try dsimp only at H)
 have A3 := am A30
 clear A30
 by_cases c4 : t403 = 0
 ·rw [if_pos c4] at H
  have c4b0 : (t403 == 0) = true := beq_iff_eq.mpr c4
  have c4b1 : (t403 != 0) = false := bne_eq_false_iff_eq.mpr c4
  clear c4
  obtain ⟨y406, hy406⟩ : ∃ y_ : List Int, y_ = (([(-1), wrap64 (t396 - 1), 4611686018427387904] : List Int)) := ⟨_, rfl⟩
  replace H : ((spec_l1Cur_among.f s0_0 t404 t405 y406).bind fun bt409 => (if t397.length < 17592186044416 then (some (t396, (t397 ++ [bt409.1]), bt409.2.1, bt409.2.2)) else (none))) = some (r1, r2, r3, r4) := by first | (rw [hy406]; exact zH) | exact zH
  have Ny406 := am hy406
  clear hy406
  replace H := Option.bind_eq_some_iff.mp H
  obtain ⟨⟨t409, t410, t411⟩, A50, H⟩ := H
  (try dsimp only at H)
  have A5 := am A50
  clear A50
  by_cases c6 : t397.length < 17592186044416
  ·rw [if_pos c6] at H
   have LMc6 := am c6
   clear c6
   obtain ⟨y412, hy412⟩ : ∃ y_ : List Int, y_ = (t397 ++ [t409]) := ⟨_, rfl⟩
   replace H : (some (t396, y412, t410, t411)) = some (r1, r2, r3, r4) := by first | (rw [hy412]; exact zH) | exact zH
   have Ny412 := am hy412
   clear hy412
   simp only [Option.some.injEq, Prod.mk.injEq] at H
   obtain ⟨rfl, rfl, rfl, rfl⟩ := H
   go_enter Try.func70, Try.ntmps70
   try go_wp2_with (first | ((with_reducible refine gate_dst (N := 2) rfl ?_); refine zE 2 (cs := #[.int .i64 0, .slice none 0 0]) 34 ?_; intro gb395 hg w7 hbox hb; have BK395 := am (hbox); have GW395 := am ((zq47 : w.heap.size ≤ gb395)); have GE395 := am ((Nat.le_trans HW0.out (zq47 : w.heap.size ≤ gb395) : w0.heap.size ≤ gb395)); have NB0_395 := am ((zq68 : g ≠ gb395)); have NB395_0 := am ((zq69 : gb395 ≠ g)); replace HK := am (KeepBut.trans zq4 (KeepBut.of_below hb g none) (.inl rfl)); replace HB := am (below_step zq5 hb); replace HI0 := am (IsS51.below zq2 hb); clear hb hbox hg) | ((with_reducible refine gate_callee (f := 78) rfl ?_); refine goesL_ (some 5) rfl rfl Try.func78 zq26 rfl #[.pointer (some ⟨g, 0, none⟩), .int .i64 6, .int .i64 12] rfl zq1 ?_; (with_reducible refine (spec_l1Cur_sureLadder.calls k g s0_0 s0_1 s0_2 6 12 t396 t397 t400 t401 w0 _ ?side1 ?side2 A2.out).mono ?_); (case side1 => exact zq0); (case side2 => exact zq3); rintro e w8 ⟨v398, rfl, ho0, hi, hb, hk⟩; refine ⟨_, rfl, ?_⟩; have HO399 := am (Kd.R_lower ho0 (keep_size (w := w) (g := g) (row := none) zq19)); replace BK395 := am (KeepBut.blk hk (g' := gb395) (o := .cells #[.int .i64 0, .slice none 0 0] 34 (0, 0)) (pKq6 BK395) NB395_0.out zq66); replace HK := am (KeepBut.trans zq19 hk (.inl rfl)); replace HB := am (hb); replace HI0 := am (hi); (try clear hb hk hi ho0)) | ((with_reducible refine gate_dst (N := 3) rfl ?_); refine zE 3 (cs := #[.int .i64 0, .slice none 0 0]) 34 ?_; intro gb402 hg w9 hbox hb; have BK402 := am (hbox); have GW402 := am ((zq105 : w.heap.size ≤ gb402)); have GE402 := am ((Nat.le_trans HW0.out (zq105 : w.heap.size ≤ gb402) : w0.heap.size ≤ gb402)); have NB395_402 := am ((zq169 : gb395 ≠ gb402)); have NB402_395 := am ((zq170 : gb402 ≠ gb395)); have NB0_402 := am ((zq138 : g ≠ gb402)); have NB402_0 := am ((zq139 : gb402 ≠ g)); replace HO399 := am (Kd.R_below (pRq6 HO399) hb); replace BK395 := am (blk_below (pKq6 BK395) hb); replace HK := am (KeepBut.trans zq19 (KeepBut.of_below hb g none) (.inl rfl)); replace HB := am (below_step zq3 hb); replace HI0 := am (IsS51.below zq0 hb); clear hb hbox hg; have hnb10 := NB402_395.out; have hnc10 := NB395_402.out; have hnb11 := NB402_0.out; have hnc11 := NB0_402.out; have hcz12_0 : w9.cell? ⟨gb402, 0, none⟩ = some (.int .i64 0) := (blk_cell BK402.out 0).trans rfl; have hcz12_1 : w9.cell? ⟨gb402, 1, none⟩ = some (.slice none 0 0) := (blk_cell BK402.out 1).trans rfl; have hfz12_0 := blk_frozen BK402.out 0; have hfz12_1 := blk_frozen BK402.out 1; obtain ⟨Ao13, co13, eo13⟩ := Kd.R_slice HO399.out; subst eo13) | ((with_reducible refine gate_callee (f := 45) rfl ?_); refine goesL_ (some 7) rfl rfl Try.func45 zq26 rfl #[.pointer (some ⟨g, 0, none⟩), .int .i64 16] rfl zq1 ?_; (with_reducible refine (spec_l1Cur_pick.calls g s0_0 t400 t401 16 t403 t404 t405 w0 _ ?side1 ?side2 A3.out).mono ?_); (case side1 => exact zq0); (case side2 => exact zq3); rintro e w14 ⟨rfl, hi, hb, hk⟩; refine ⟨_, rfl, ?_⟩; replace BK395 := am (KeepBut.blk hk (g' := gb395) (o := .cells #[.int .i64 0, .slice none 0 0] 34 (0, 0)) zq45 NB395_0.out zq66); replace HO399 := am (Kd.R_mono (Kd.R_keep (IsS51.apart (show IsS51 w0 _ g s0_0 t400 t401 from zq0) (by (with_reducible repeat (first | apply Kd.R_alloc | apply Kd.R_drewN | apply Kd.R_drew)); exact (Kd.R_mono (Kd.R_far (p := ⟨gb402, 1, none⟩) (Kd.R_far (p := ⟨gb402, 0, none⟩) (Kd.R_types HO399.out BK402.out zq36) (fun _ hk => hk.2) (.int .i64 t396)) (fun _ hk => hk.2) (.slice Ao13 t397.length co13)) (fun _ h_ => h_.1))) zq36) hk (fun _ h => h.2)) (fun _ h => h.1)); replace BK402 := am (KeepBut.blk hk (g' := gb402) (o := .cells #[.int .i64 t396, .slice Ao13 t397.length co13] 34 (0, 0)) zq37 NB402_0.out zq66); replace HK := am (KeepBut.trans zq17 hk (.inl rfl)); replace HB := am (hb); replace HI0 := am (hi); (try clear hb hk hi)))
   replace HO399 := am (Kd.R_drew HO399.out)
   replace BK395 := am (blk_drew BK395.out)
   replace BK402 := am (blk_drew BK402.out)
   replace HI0 := am (IsS51.drew HI0.out)
   replace HK := am (keep_drew HK.out)
   replace HB := am (below_drew1 HB.out)
   refine start_ (n := 12) (S := fun w' => w'.cell? ⟨gb402, 0, none⟩ = some (.int .i64 t396) ∧ w'.cell? ⟨gb402, 1, none⟩ = some (.slice Ao13 t397.length co13)) (ds := [11]) #[false, false, false, false, false, false, false, false, false, false, false, false] zq26 rfl rfl ⟨(blk_cell BK402.out 0).trans rfl, (blk_cell BK402.out 1).trans rfl⟩ (fun hHeld => ?_); refine with_tabW spec_l1Cur_ladder.tab4 spec_l1Cur_ladder.bits4 (fun HT_ HW_ => ?_)
   generalize w14.drew = w15 at HO399 BK395 BK402 HI0 HK HB hHeld ⊢
   refine zU 0 10 HT_ ?_
   refine zU 2 12 HT_ ?_
   refine zU 3 13 HT_ ?_
   refine zT 1 11 HT_ HW_ hHeld ?_
   refine zT 4 14 HT_ HW_ hHeld ?_
   refine zU 5 15 HT_ ?_
   refine zO 6 16 HT_ fun K hK => ?_
   refine Kd.R_lit_step (Kd.int .i64) _ 3 ?hg (N := 16) ?hd (xs := ([(-1), wrap64 (t396 - 1), 4611686018427387904] : List Int)) (inner := [.int .i64 (-1), .int .i64 (wrap64 (t396 - 1)), .int .i64 4611686018427387904]) (ok := fun _ => True) (okp := fun _ => True) ?hr ?hp (fun _ hk => hk) trivial (Below.refl _ _) (Nat.le_refl _) zq66 ?_; (case hd => rfl); (case hg => rfl); (case hr => exact zq53); (case hp => exact (Reps.one (show Kd.M (Kd.int .i64) _ _ _ (-1) [.int .i64 (-1)] from rfl) (Reps.one (show Kd.M (Kd.int .i64) _ _ _ (wrap64 (t396 - 1)) [.int .i64 (wrap64 (t396 - 1))] from rfl) (Reps.one (show Kd.M (Kd.int .i64) _ _ _ 4611686018427387904 [.int .i64 4611686018427387904] from rfl) (Reps.none _ _)))))
   intro v407 w16 ho17 hb hg_ hnew_
   clear hg_ hnew_
   (first | rw [← Ny406.out] at ho17 | (simp only [Int.reduceToNat] at ho17; rw [← Ny406.out] at ho17))
   have HO408 := am (Kd.R_lower (Kd.R_new' ho17 (Kd.R_lt (pRq6 HO399))) (keep_size (w := w) (g := g) (row := none) zq17))
   replace HO399 := am (Kd.R_elder' (pRq6 HO399) (Kd.R_base ho17) hb)
   replace BK395 := am (blk_below (pKq6 BK395) hb)
   replace BK402 := am (blk_below (pKq6 BK402) hb)
   replace HK := am (KeepBut.trans zq17 (KeepBut.of_below hb g none) (.inl rfl))
   replace HB := am (below_step zq3 hb)
   replace HI0 := am (IsS51.below zq0 hb)
   clear hb ho17
   obtain ⟨Ao18, co18, eo18⟩ := Kd.R_slice HO408.out
   (first | subst eo18 | (injection eo18 with f1_ f2_ f3_; have f4_ := f1_.symm; have f5_ := f3_.symm; clear f1_ f2_ f3_; subst f4_; subst f5_))
   refine hK.out _ _ ⟨(blk_cell BK402.out 0).trans rfl, (blk_cell BK402.out 1).trans rfl⟩ (fun hHeld => ?_)
   clear hK K
   refine zN 16 ?_
   refine zO 7 17 HT_ fun K hK => ?_
   refine goes_ Try.func51 zq26 rfl #[.pointer (some ⟨g, 0, none⟩), .slice Ao18 y406.length co18] (by rfl) rfl rfl zq1 ?_
   with_reducible refine (spec_l1Cur_among.calls g s0_0 t404 t405 _ _ y406 t409 t410 t411 w0 _ ?side1 ?side2 ?side3 ?side4 ?side5 A5.out).mono ?_
   (case side1 => exact zq0)
   (case side2 => exact zq3)
   (case side3 => repeat (first | exact (Kd.R_reads' HO408.out).2.2 | (with_reducible refine Kd.C_alloc ?_ _) | (with_reducible refine Kd.C_drewN ?_ _) | (with_reducible refine Kd.C_drew ?_)))
   (case side4 => exact (Kd.R_reads' HO408.out).2.1)
   (case side5 => exact far_slice (IsS51.own_ne HI0.out HO408.out zq36))
   rintro e w19 ⟨rfl, hi, hb, hk⟩
   refine ⟨_, rfl, ?_⟩
   replace BK395 := am (KeepBut.blk hk (g' := gb395) (o := .cells #[.int .i64 0, .slice none 0 0] 34 (0, 0)) (pKq6 BK395) NB395_0.out zq66)
   replace HO399 := am (Kd.R_mono (Kd.R_keep (IsS51.apart (show IsS51 w0 _ g s0_0 t404 t405 from zq0) (pRq6 HO399) zq36) hk (fun _ h => h.2)) (fun _ h => h.1))
   replace BK402 := am (KeepBut.blk hk (g' := gb402) (o := .cells #[.int .i64 t396, .slice Ao13 t397.length co13] 34 (0, 0)) (pKq6 BK402) NB402_0.out zq66)
   replace HO408 := am (Kd.R_mono (Kd.R_keep (IsS51.apart (show IsS51 w0 _ g s0_0 t404 t405 from zq0) (pRq6 HO408) zq36) hk (fun _ h => h.2)) (fun _ h => h.1))
   replace HK := am (KeepBut.trans zq17 hk (.inl rfl))
   replace HB := am (hb)
   replace HI0 := am (hi)
   (try clear hb)
   (try clear hb2)
   (try clear hk)
   (try clear hi)
   refine hK.out _ _ ⟨(blk_cell BK402.out 0).trans rfl, (blk_cell BK402.out 1).trans rfl⟩ (fun hHeld => ?_)
   clear hK K
   refine zN 17 ?_
   refine zO 8 18 HT_ fun K hK => ?_
   refine value_ (w1 := ?_) (v := ?_) (by rfl) rfl ?_ ?_
   rotate_left 2
   ·go_simp
    constructor
    ·rfl
    ·rfl
   refine hK.out _ _ ⟨(blk_cell (blk_alloc BK402.out _) 0).trans rfl, (blk_cell (blk_alloc BK402.out _) 1).trans rfl⟩ (fun hHeld => ?_)
   clear hK K
   refine zN 18 ?_
   refine zO 9 19 HT_ fun K hK => ?_
   refine Kd.R_append_step (Kd.int .i64) w.heap.size (by rfl) (.tmp 11) (.tmp 18) 24 3 (.int .i64 0) 8 rfl Try.underlying24 info3 rfl zq36 zq62 (.slice Ao13 t397.length co13) t397 t409 [.int .i64 t409] (fun k_ => some k_ ≠ (.slice Ao18 y406.length co18 : Value).ownBlock) (fun _ => False) rfl rfl ?aP (fun _ hk => hk.elim) ?aF ?aO (Below.refl _ _) ?aS ?aL ?_
   (case aP => exact rfl)
   (case aF => exact (fun k_ hk => Kd.fresh' (Kd.R_lt (pRq6 HO408)) k_ hk))
   (case aO => exact (by (with_reducible repeat (first | apply Kd.R_alloc | apply Kd.R_drewN | apply Kd.R_drew)); exact Kd.R_mono HO399.out (fun _ hk => hk.2)))
   (case aS => exact (keep_size (w := w) (g := g) (row := none) zq17))
   (case aL => have := LMc6.out; omega)
   intro v413 w20 ho hb hg hat
   rw [← Ny412.out] at ho
   have HO414 := am (ho)
   replace BK395 := am (blk_grown (g := gb395) (o := .cells #[.int .i64 0, .slice none 0 0] 34 (0, 0)) (pKq6 BK395) hg (Kd.R_ne HO399.out BK395.out zq36))
   replace BK402 := am (blk_grown (g := gb402) (o := .cells #[.int .i64 t396, .slice Ao13 t397.length co13] 34 (0, 0)) (pKq6 BK402) hg (Kd.R_ne HO399.out BK402.out zq36))
   replace HO408 := am (Kd.R_after (ok := (fun _ => True)) (pRq6 HO408) hg hat)
   replace HB := am (below_weaken zq3 HL.out hb)
   replace HI0 := am (IsS51.grown zq0 hg (IsS51.own_ne HI0.out HO399.out zq36))
   replace HK := am (KeepBut.trans zq17 (KeepBut.of_grown hg g) (Kd.R_base2 HO399.out))
   clear HO399
   clear ho hb hg hat
   obtain ⟨Ao21, co21, eo21⟩ := Kd.R_slice HO414.out
   (first | subst eo21 | (injection eo21 with f1_ f2_ f3_; have f4_ := f1_.symm; have f5_ := f3_.symm; clear f1_ f2_ f3_; subst f4_; subst f5_))
   refine hK.out _ _ ⟨(blk_cell BK402.out 0).trans rfl, (blk_cell BK402.out 1).trans rfl⟩ (fun hHeld => ?_)
   clear hK K
   refine zN 19 ?_
   refine zU 10 20 HT_ ?_
   refine last_ (i := 11) (N := none) #[true, true, true, true, true, true, true, true, true, true, true, true] rfl rfl (one_of HT_.out zq26) zq36 (fun K hK => ?_)
   have hs22 : w20.cell? ⟨gb402, 1, none⟩ = some (.slice Ao13 t397.length co13) := (blk_cell BK402.out 1).trans rfl
   have hfs22 := blk_frozen BK402.out 1
   have hns22_0 := NB395_402.out
   have hms22_0 := NB402_395.out
   refine skip_ (w1 := ?_) (by rfl) rfl ?_ ?_
   rotate_left
   ·go_simp
    rfl
   refine hK.out _ _ ?_
   clear hK K
   refine done_ (done_of HT_.out zq26) ?_
   have hcz23_0 : w20.cell? ⟨gb402, 0, none⟩ = some (.int .i64 t396) := (blk_cell BK402.out 0).trans rfl
   have hcz23_1 : w20.cell? ⟨gb402, 1, none⟩ = some (.slice Ao13 t397.length co13) := (blk_cell BK402.out 1).trans rfl
   have hfz23_0 := blk_frozen BK402.out 0
   have hfz23_1 := blk_frozen BK402.out 1
   have hnb24 := NB395_0.out
   have hnc24 := NB0_395.out
   have hcz25_0 : w20.cell? ⟨gb395, 0, none⟩ = some (.int .i64 0) := (blk_cell BK395.out 0).trans rfl
   have hcz25_1 : w20.cell? ⟨gb395, 1, none⟩ = some (.slice none 0 0) := (blk_cell BK395.out 1).trans rfl
   have hfz25_0 := blk_frozen BK395.out 0
   have hfz25_1 := blk_frozen BK395.out 1
   try go_wp2
   refine bodyPost_ret (results_cell_row rfl _ _ gb395 34 #[.int .i64 t396, .slice Ao21 y412.length co21] (0, 0) _ rfl zq75 Try.underlying34 rfl zq26) rfl ?_
   exact ⟨_, zq11, by (with_reducible repeat (first | apply Kd.R_alloc | apply Kd.R_drewN | apply Kd.R_drew)); exact Kd.R_mono (Kd.R_far (p := ⟨gb395, 1, none⟩) (Kd.R_far (p := ⟨gb395, 0, none⟩) (Kd.R_far (p := ⟨gb402, 1, none⟩) (Kd.R_types (Kd.R_types HO414.out BK402.out zq36) BK395.out zq36) (fun _ hk => hk.1.2) (.slice Ao21 y412.length co21)) (fun _ hk => hk.2) (.int .i64 t396)) (fun _ hk => hk.2) (.slice Ao21 y412.length co21)) (fun _ hk => trivial), zq0, zq3, zq17⟩
  ·rw [if_neg c6] at H
   exact absurd H zq66
 ·rw [if_neg c4] at H
  have c4b0 : (t403 == 0) = false := beq_eq_false_iff_ne.mpr c4
  have c4b1 : (t403 != 0) = true := bne_iff_ne.mpr c4
  by_cases c26 : t403 = 1
  ·rw [if_pos c26] at H
   have c26b0 : (t403 == 1) = true := beq_iff_eq.mpr c26
   have c26b1 : (t403 != 1) = false := bne_eq_false_iff_eq.mpr c26
   clear c26
   obtain ⟨y415, hy415⟩ : ∃ y_ : List Int, y_ = (([1, 2, 8, 9, (-1)] : List Int)) := ⟨_, rfl⟩
   replace H : ((spec_l1Cur_among.f s0_0 t404 t405 y415).bind fun bt418 => (some (bt418.1, t397, bt418.2.1, bt418.2.2))) = some (r1, r2, r3, r4) := by first | (rw [hy415]; exact zH) | exact zH
   have Ny415 := am hy415
   clear hy415
   replace H := Option.bind_eq_some_iff.mp H
   obtain ⟨⟨t418, t419, t420⟩, A270, H⟩ := H
   (try dsimp only at H)
   have A27 := am A270
   clear A270
   simp only [Option.some.injEq, Prod.mk.injEq] at H
   obtain ⟨rfl, rfl, rfl, rfl⟩ := H
   go_enter Try.func70, Try.ntmps70
   go_wp2_with (first | ((with_reducible refine gate_dst (N := 2) rfl ?_); refine zE 2 (cs := #[.int .i64 0, .slice none 0 0]) 34 ?_; intro gb395 hg w28 hbox hb; have BK395 := am (hbox); have GW395 := am ((zq47 : w.heap.size ≤ gb395)); have GE395 := am ((Nat.le_trans HW0.out (zq47 : w.heap.size ≤ gb395) : w0.heap.size ≤ gb395)); have NB0_395 := am ((zq68 : g ≠ gb395)); have NB395_0 := am ((zq69 : gb395 ≠ g)); replace HK := am (KeepBut.trans zq4 (KeepBut.of_below hb g none) (.inl rfl)); replace HB := am (below_step zq5 hb); replace HI0 := am (IsS51.below zq2 hb); clear hb hbox hg) | ((with_reducible refine gate_callee (f := 78) rfl ?_); refine goesL_ (some 5) rfl rfl Try.func78 zq26 rfl #[.pointer (some ⟨g, 0, none⟩), .int .i64 6, .int .i64 12] rfl zq1 ?_; (with_reducible refine (spec_l1Cur_sureLadder.calls k g s0_0 s0_1 s0_2 6 12 t396 t397 t400 t401 w0 _ ?side1 ?side2 A2.out).mono ?_); (case side1 => exact zq0); (case side2 => exact zq3); rintro e w29 ⟨v398, rfl, ho0, hi, hb, hk⟩; refine ⟨_, rfl, ?_⟩; have HO399 := am (Kd.R_lower ho0 (keep_size (w := w) (g := g) (row := none) zq19)); replace BK395 := am (KeepBut.blk hk (g' := gb395) (o := .cells #[.int .i64 0, .slice none 0 0] 34 (0, 0)) (pKq6 BK395) NB395_0.out zq66); replace HK := am (KeepBut.trans zq19 hk (.inl rfl)); replace HB := am (hb); replace HI0 := am (hi); (try clear hb hk hi ho0)) | ((with_reducible refine gate_dst (N := 3) rfl ?_); refine zE 3 (cs := #[.int .i64 0, .slice none 0 0]) 34 ?_; intro gb402 hg w30 hbox hb; have BK402 := am (hbox); have GW402 := am ((zq105 : w.heap.size ≤ gb402)); have GE402 := am ((Nat.le_trans HW0.out (zq105 : w.heap.size ≤ gb402) : w0.heap.size ≤ gb402)); have NB395_402 := am ((zq169 : gb395 ≠ gb402)); have NB402_395 := am ((zq170 : gb402 ≠ gb395)); have NB0_402 := am ((zq138 : g ≠ gb402)); have NB402_0 := am ((zq139 : gb402 ≠ g)); replace HO399 := am (Kd.R_below (pRq6 HO399) hb); replace BK395 := am (blk_below (pKq6 BK395) hb); replace HK := am (KeepBut.trans zq19 (KeepBut.of_below hb g none) (.inl rfl)); replace HB := am (below_step zq3 hb); replace HI0 := am (IsS51.below zq0 hb); clear hb hbox hg; have hnb31 := NB402_395.out; have hnc31 := NB395_402.out; have hnb32 := NB402_0.out; have hnc32 := NB0_402.out; have hcz33_0 : w30.cell? ⟨gb402, 0, none⟩ = some (.int .i64 0) := (blk_cell BK402.out 0).trans rfl; have hcz33_1 : w30.cell? ⟨gb402, 1, none⟩ = some (.slice none 0 0) := (blk_cell BK402.out 1).trans rfl; have hfz33_0 := blk_frozen BK402.out 0; have hfz33_1 := blk_frozen BK402.out 1; obtain ⟨Ao34, co34, eo34⟩ := Kd.R_slice HO399.out; subst eo34) | ((with_reducible refine gate_callee (f := 45) rfl ?_); refine goesL_ (some 7) rfl rfl Try.func45 zq26 rfl #[.pointer (some ⟨g, 0, none⟩), .int .i64 16] rfl zq1 ?_; (with_reducible refine (spec_l1Cur_pick.calls g s0_0 t400 t401 16 t403 t404 t405 w0 _ ?side1 ?side2 A3.out).mono ?_); (case side1 => exact zq0); (case side2 => exact zq3); rintro e w35 ⟨rfl, hi, hb, hk⟩; refine ⟨_, rfl, ?_⟩; replace BK395 := am (KeepBut.blk hk (g' := gb395) (o := .cells #[.int .i64 0, .slice none 0 0] 34 (0, 0)) zq45 NB395_0.out zq66); replace HO399 := am (Kd.R_mono (Kd.R_keep (IsS51.apart (show IsS51 w0 _ g s0_0 t400 t401 from zq0) (by (with_reducible repeat (first | apply Kd.R_alloc | apply Kd.R_drewN | apply Kd.R_drew)); exact (Kd.R_mono (Kd.R_far (p := ⟨gb402, 1, none⟩) (Kd.R_far (p := ⟨gb402, 0, none⟩) (Kd.R_types HO399.out BK402.out zq36) (fun _ hk => hk.2) (.int .i64 t396)) (fun _ hk => hk.2) (.slice Ao34 t397.length co34)) (fun _ h_ => h_.1))) zq36) hk (fun _ h => h.2)) (fun _ h => h.1)); replace BK402 := am (KeepBut.blk hk (g' := gb402) (o := .cells #[.int .i64 t396, .slice Ao34 t397.length co34] 34 (0, 0)) zq37 NB402_0.out zq66); replace HK := am (KeepBut.trans zq17 hk (.inl rfl)); replace HB := am (hb); replace HI0 := am (hi); (try clear hb hk hi)) | ((with_reducible refine gate_dst (N := 24) rfl ?_); refine Kd.R_lit (Kd.int .i64) _ 3 ?hg (N := 24) ?hd (xs := ([1, 2, 8, 9, (-1)] : List Int)) (inner := [.int .i64 1, .int .i64 2, .int .i64 8, .int .i64 9, .int .i64 (-1)]) (ok := fun _ => True) (okp := fun _ => True) ?hr ?hp (fun _ hk => hk) trivial (Below.refl _ _) (Nat.le_refl _) zq66 ?_; (case hd => rfl); (case hg => rfl); (case hr => exact zq53); (case hp => exact (Reps.one (show Kd.M (Kd.int .i64) _ _ _ 1 [.int .i64 1] from rfl) (Reps.one (show Kd.M (Kd.int .i64) _ _ _ 2 [.int .i64 2] from rfl) (Reps.one (show Kd.M (Kd.int .i64) _ _ _ 8 [.int .i64 8] from rfl) (Reps.one (show Kd.M (Kd.int .i64) _ _ _ 9 [.int .i64 9] from rfl) (Reps.one (show Kd.M (Kd.int .i64) _ _ _ (-1) [.int .i64 (-1)] from rfl) (Reps.none _ _))))))); intro v416 w36 ho37 hb hg_ hnew_; clear hg_ hnew_; (first | rw [← Ny415.out] at ho37 | (simp only [Int.reduceToNat] at ho37; rw [← Ny415.out] at ho37)); have HO417 := am (Kd.R_lower (Kd.R_new' ho37 (Kd.R_lt (pRq6 HO399))) (keep_size (w := w) (g := g) (row := none) zq17)); replace HO399 := am (Kd.R_elder' (pRq6 HO399) (Kd.R_base ho37) hb); replace BK395 := am (blk_below (pKq6 BK395) hb); replace BK402 := am (blk_below (pKq6 BK402) hb); replace HK := am (KeepBut.trans zq17 (KeepBut.of_below hb g none) (.inl rfl)); replace HB := am (below_step zq3 hb); replace HI0 := am (IsS51.below zq0 hb); clear hb ho37; obtain ⟨Ao38, co38, eo38⟩ := Kd.R_slice HO417.out; subst eo38) | ((with_reducible refine gate_callee (f := 51) rfl ?_); refine goesL_ (some 25) rfl rfl Try.func51 zq26 rfl #[.pointer (some ⟨g, 0, none⟩), .slice Ao38 y415.length co38] rfl zq1 ?_; (with_reducible refine (spec_l1Cur_among.calls g s0_0 t404 t405 _ _ y415 t418 t419 t420 w0 _ ?side1 ?side2 ?side3 ?side4 ?side5 A27.out).mono ?_); (case side1 => exact zq0); (case side2 => exact zq3); (case side3 => repeat (first | exact (Kd.R_reads' HO417.out).2.2 | (with_reducible refine Kd.C_alloc ?_ _) | (with_reducible refine Kd.C_drewN ?_ _) | (with_reducible refine Kd.C_drew ?_))); (case side4 => exact (Kd.R_reads' HO417.out).2.1); (case side5 => exact far_slice (IsS51.own_ne HI0.out HO417.out zq36)); rintro e w39 ⟨rfl, hi, hb, hk⟩; refine ⟨_, rfl, ?_⟩; replace BK395 := am (KeepBut.blk hk (g' := gb395) (o := .cells #[.int .i64 0, .slice none 0 0] 34 (0, 0)) (pKq6 BK395) NB395_0.out zq66); replace HO399 := am (Kd.R_mono (Kd.R_keep (IsS51.apart (show IsS51 w0 _ g s0_0 t404 t405 from zq0) (pRq6 HO399) zq36) hk (fun _ h => h.2)) (fun _ h => h.1)); replace BK402 := am (KeepBut.blk hk (g' := gb402) (o := .cells #[.int .i64 t396, .slice Ao34 t397.length co34] 34 (0, 0)) (pKq6 BK402) NB402_0.out zq66); replace HO417 := am (Kd.R_mono (Kd.R_keep (IsS51.apart (show IsS51 w0 _ g s0_0 t404 t405 from zq0) (pRq6 HO417) zq36) hk (fun _ h => h.2)) (fun _ h => h.1)); replace HK := am (KeepBut.trans zq17 hk (.inl rfl)); replace HB := am (hb); replace HI0 := am (hi); (try clear hb hk hi); have hcz40_0 : w39.cell? ⟨gb402, 0, none⟩ = some (.int .i64 t396) := (blk_cell BK402.out 0).trans rfl; have hcz40_1 : w39.cell? ⟨gb402, 1, none⟩ = some (.slice Ao34 t397.length co34) := (blk_cell BK402.out 1).trans rfl; have hfz40_0 := blk_frozen BK402.out 0; have hfz40_1 := blk_frozen BK402.out 1; have hnb41 := NB395_0.out; have hnc41 := NB0_395.out; have hcz42_0 : w39.cell? ⟨gb395, 0, none⟩ = some (.int .i64 0) := (blk_cell BK395.out 0).trans rfl; have hcz42_1 : w39.cell? ⟨gb395, 1, none⟩ = some (.slice none 0 0) := (blk_cell BK395.out 1).trans rfl; have hfz42_0 := blk_frozen BK395.out 0; have hfz42_1 := blk_frozen BK395.out 1))
   refine bodyPost_ret (results_cell_row rfl _ _ gb395 34 #[.int .i64 t418, .slice Ao34 t397.length co34] (0, 0) _ rfl (by (with_reducible repeat (first | refine blk_drewN ?_ _ | refine blk_drew ?_ | refine blk_alloc ?_ _)); refine blk_put (cs := #[.int .i64 t418, .slice none 0 0]) ?_ 1 _ rfl; (with_reducible repeat (first | refine blk_drewN ?_ _ | refine blk_drew ?_ | refine blk_alloc ?_ _)); refine blk_put (cs := #[.int .i64 0, .slice none 0 0]) ?_ 0 _ rfl; (with_reducible repeat (first | refine blk_drewN ?_ _ | refine blk_drew ?_ | refine blk_alloc ?_ _)); refine blk_far ?_ NB395_402.out _; (with_reducible repeat (first | refine blk_drewN ?_ _ | refine blk_drew ?_ | refine blk_alloc ?_ _)); exact BK395.out) Try.underlying34 rfl zq26) rfl ?_
   exact ⟨_, zq11, by (with_reducible repeat (first | apply Kd.R_alloc | apply Kd.R_drewN | apply Kd.R_drew)); exact Kd.R_mono (Kd.R_far (p := ⟨gb395, 1, none⟩) (Kd.R_far (p := ⟨gb395, 0, none⟩) (Kd.R_far (p := ⟨gb402, 0, none⟩) (Kd.R_types (Kd.R_types HO399.out BK402.out zq36) BK395.out zq36) (fun _ hk => hk.1.2) (.int .i64 t418)) (fun _ hk => hk.2) (.int .i64 t418)) (fun _ hk => hk.2) (.slice Ao34 t397.length co34)) (fun _ hk => trivial), zq0, zq3, zq17⟩
  ·rw [if_neg c26] at H
   have c26b0 : (t403 == 1) = false := beq_eq_false_iff_ne.mpr c26
   have c26b1 : (t403 != 1) = true := bne_iff_ne.mpr c26
   by_cases c43 : t403 = 2
   ·rw [if_pos c43] at H
    have c43b0 : (t403 == 2) = true := beq_iff_eq.mpr c43
    have c43b1 : (t403 != 2) = false := bne_eq_false_iff_eq.mpr c43
    clear c43
    replace H := Option.bind_eq_some_iff.mp H
    obtain ⟨⟨t421, t422, t423⟩, A440, H⟩ := H
    (try dsimp only at H)
    have A44 := am A440
    clear A440
    obtain ⟨ji45, hji45⟩ : ∃ j_ : Int, (wrap64 (60 + t421)) = j_ := ⟨_, rfl⟩
    replace H : (if 0 ≤ (ji45) then (if (ji45 : Int).toNat ≤ 35184372088832 then (some (t396, (List.replicate (ji45 : Int).toNat 0), t422, t423)) else (none)) else (none)) = some (r1, r2, r3, r4) := by first | (rw [hji45] at H; exact H) | (simp only [hji45] at H ⊢; exact H)
    (try rw [hji45] at A2)
    (try rw [hji45] at A3)
    (try rw [hji45] at A44)
    have hji45w : (IntKind.i64.wrap (60 + t421)) = ji45 := (i64_w _).trans hji45
    by_cases c46 : 0 ≤ (ji45)
    ·rw [if_pos c46] at H
     have c46b0 := eq_true c46
     have c46b1 : decide (0 ≤ (ji45)) = true := decide_eq_true c46
     clear c46
     by_cases c47 : (ji45 : Int).toNat ≤ 35184372088832
     ·rw [if_pos c47] at H
      have c47b0 := eq_true c47
      have c47b1 : decide ((ji45 : Int).toNat ≤ 35184372088832) = true := decide_eq_true c47
      clear c47
      obtain ⟨y424, hy424⟩ : ∃ y_ : List Int, y_ = (List.replicate (ji45 : Int).toNat 0) := ⟨_, rfl⟩
      replace H : (some (t396, y424, t422, t423)) = some (r1, r2, r3, r4) := by first | (rw [hy424]; exact zH) | exact zH
      have Ny424 := am hy424
      clear hy424
      simp only [Option.some.injEq, Prod.mk.injEq] at H
      obtain ⟨rfl, rfl, rfl, rfl⟩ := H
      go_enter Try.func70, Try.ntmps70
      go_wp2_with (first | ((with_reducible refine gate_dst (N := 2) rfl ?_); refine zE 2 (cs := #[.int .i64 0, .slice none 0 0]) 34 ?_; intro gb395 hg w48 hbox hb; have BK395 := am (hbox); have GW395 := am ((zq47 : w.heap.size ≤ gb395)); have GE395 := am ((Nat.le_trans HW0.out (zq47 : w.heap.size ≤ gb395) : w0.heap.size ≤ gb395)); have NB0_395 := am ((zq68 : g ≠ gb395)); have NB395_0 := am ((zq69 : gb395 ≠ g)); replace HK := am (KeepBut.trans zq4 (KeepBut.of_below hb g none) (.inl rfl)); replace HB := am (below_step zq5 hb); replace HI0 := am (IsS51.below zq2 hb); clear hb hbox hg) | ((with_reducible refine gate_callee (f := 78) rfl ?_); refine goesL_ (some 5) rfl rfl Try.func78 zq26 rfl #[.pointer (some ⟨g, 0, none⟩), .int .i64 6, .int .i64 12] rfl zq1 ?_; (with_reducible refine (spec_l1Cur_sureLadder.calls k g s0_0 s0_1 s0_2 6 12 t396 t397 t400 t401 w0 _ ?side1 ?side2 A2.out).mono ?_); (case side1 => exact zq0); (case side2 => exact zq3); rintro e w49 ⟨v398, rfl, ho0, hi, hb, hk⟩; refine ⟨_, rfl, ?_⟩; have HO399 := am (Kd.R_lower ho0 (keep_size (w := w) (g := g) (row := none) zq19)); replace BK395 := am (KeepBut.blk hk (g' := gb395) (o := .cells #[.int .i64 0, .slice none 0 0] 34 (0, 0)) (pKq6 BK395) NB395_0.out zq66); replace HK := am (KeepBut.trans zq19 hk (.inl rfl)); replace HB := am (hb); replace HI0 := am (hi); (try clear hb hk hi ho0)) | ((with_reducible refine gate_dst (N := 3) rfl ?_); refine zE 3 (cs := #[.int .i64 0, .slice none 0 0]) 34 ?_; intro gb402 hg w50 hbox hb; have BK402 := am (hbox); have GW402 := am ((zq105 : w.heap.size ≤ gb402)); have GE402 := am ((Nat.le_trans HW0.out (zq105 : w.heap.size ≤ gb402) : w0.heap.size ≤ gb402)); have NB395_402 := am ((zq169 : gb395 ≠ gb402)); have NB402_395 := am ((zq170 : gb402 ≠ gb395)); have NB0_402 := am ((zq138 : g ≠ gb402)); have NB402_0 := am ((zq139 : gb402 ≠ g)); replace HO399 := am (Kd.R_below (pRq6 HO399) hb); replace BK395 := am (blk_below (pKq6 BK395) hb); replace HK := am (KeepBut.trans zq19 (KeepBut.of_below hb g none) (.inl rfl)); replace HB := am (below_step zq3 hb); replace HI0 := am (IsS51.below zq0 hb); clear hb hbox hg; have hnb51 := NB402_395.out; have hnc51 := NB395_402.out; have hnb52 := NB402_0.out; have hnc52 := NB0_402.out; have hcz53_0 : w50.cell? ⟨gb402, 0, none⟩ = some (.int .i64 0) := (blk_cell BK402.out 0).trans rfl; have hcz53_1 : w50.cell? ⟨gb402, 1, none⟩ = some (.slice none 0 0) := (blk_cell BK402.out 1).trans rfl; have hfz53_0 := blk_frozen BK402.out 0; have hfz53_1 := blk_frozen BK402.out 1; obtain ⟨Ao54, co54, eo54⟩ := Kd.R_slice HO399.out; subst eo54) | ((with_reducible refine gate_callee (f := 45) rfl ?_); refine goesL_ (some 7) rfl rfl Try.func45 zq26 rfl #[.pointer (some ⟨g, 0, none⟩), .int .i64 16] rfl zq1 ?_; (with_reducible refine (spec_l1Cur_pick.calls g s0_0 t400 t401 16 t403 t404 t405 w0 _ ?side1 ?side2 A3.out).mono ?_); (case side1 => exact zq0); (case side2 => exact zq3); rintro e w55 ⟨rfl, hi, hb, hk⟩; refine ⟨_, rfl, ?_⟩; replace BK395 := am (KeepBut.blk hk (g' := gb395) (o := .cells #[.int .i64 0, .slice none 0 0] 34 (0, 0)) zq45 NB395_0.out zq66); replace HO399 := am (Kd.R_mono (Kd.R_keep (IsS51.apart (show IsS51 w0 _ g s0_0 t400 t401 from zq0) (by (with_reducible repeat (first | apply Kd.R_alloc | apply Kd.R_drewN | apply Kd.R_drew)); exact (Kd.R_mono (Kd.R_far (p := ⟨gb402, 1, none⟩) (Kd.R_far (p := ⟨gb402, 0, none⟩) (Kd.R_types HO399.out BK402.out zq36) (fun _ hk => hk.2) (.int .i64 t396)) (fun _ hk => hk.2) (.slice Ao54 t397.length co54)) (fun _ h_ => h_.1))) zq36) hk (fun _ h => h.2)) (fun _ h => h.1)); replace BK402 := am (KeepBut.blk hk (g' := gb402) (o := .cells #[.int .i64 t396, .slice Ao54 t397.length co54] 34 (0, 0)) zq37 NB402_0.out zq66); replace HK := am (KeepBut.trans zq17 hk (.inl rfl)); replace HB := am (hb); replace HI0 := am (hi); (try clear hb hk hi)) | ((with_reducible refine gate_callee (f := 45) rfl ?_); refine goesL_ (some 30) rfl rfl Try.func45 zq26 rfl #[.pointer (some ⟨g, 0, none⟩), .int .i64 2] rfl zq1 ?_; (with_reducible refine (spec_l1Cur_pick.calls g s0_0 t404 t405 2 t421 t422 t423 w0 _ ?side1 ?side2 A44.out).mono ?_); (case side1 => exact zq0); (case side2 => exact zq3); rintro e w56 ⟨rfl, hi, hb, hk⟩; refine ⟨_, rfl, ?_⟩; replace BK395 := am (KeepBut.blk hk (g' := gb395) (o := .cells #[.int .i64 0, .slice none 0 0] 34 (0, 0)) (pKq6 BK395) NB395_0.out zq66); replace HO399 := am (Kd.R_mono (Kd.R_keep (IsS51.apart (show IsS51 w0 _ g s0_0 t404 t405 from zq0) (pRq6 HO399) zq36) hk (fun _ h => h.2)) (fun _ h => h.1)); replace BK402 := am (KeepBut.blk hk (g' := gb402) (o := .cells #[.int .i64 t396, .slice Ao54 t397.length co54] 34 (0, 0)) (pKq6 BK402) NB402_0.out zq66); replace HK := am (KeepBut.trans zq17 hk (.inl rfl)); replace HB := am (hb); replace HI0 := am (hi); (try clear hb hk hi)) | ((with_reducible refine gate_dst (N := 32) rfl ?_); refine Kd.R_make (Kd.int .i64) _ 3 rfl (N := 32) rfl 24 _ _ rfl ji45 rfl rfl Try.underlying24 (.int .i64 0) 8 info3 rfl zq36 zq62 0 (ok := fun _ => True) (okp := fun _ => True) rfl (fun _ hk => hk) trivial (of_decide_eq_true zq9) (Nat.le_trans (Nat.mul_le_mul_right _ (of_decide_eq_true zq9 : ji45.toNat ≤ 35184372088832)) zq62) (Below.refl _ _) (Nat.le_refl _) ?_; intro v425 w57 ho58 hb hg_ hnew_; clear hg_ hnew_; (first | rw [← Ny424.out] at ho58 | (simp only [Int.reduceToNat] at ho58; rw [← Ny424.out] at ho58)); have HO426 := am (Kd.R_lower (Kd.R_new' ho58 (Kd.R_lt (pRq6 HO399))) (keep_size (w := w) (g := g) (row := none) zq17)); replace HO399 := am (Kd.R_elder' (pRq6 HO399) (Kd.R_base ho58) hb); replace BK395 := am (blk_below (pKq6 BK395) hb); replace BK402 := am (blk_below (pKq6 BK402) hb); replace HK := am (KeepBut.trans zq17 (KeepBut.of_below hb g none) (.inl rfl)); replace HB := am (below_step zq3 hb); replace HI0 := am (IsS51.below zq0 hb); clear hb ho58; obtain ⟨Ao59, co59, eo59⟩ := Kd.R_slice HO426.out; subst eo59; have hcz60_0 : w57.cell? ⟨gb402, 0, none⟩ = some (.int .i64 t396) := (blk_cell BK402.out 0).trans rfl; have hcz60_1 : w57.cell? ⟨gb402, 1, none⟩ = some (.slice Ao54 t397.length co54) := (blk_cell BK402.out 1).trans rfl; have hfz60_0 := blk_frozen BK402.out 0; have hfz60_1 := blk_frozen BK402.out 1; have hnb61 := NB395_0.out; have hnc61 := NB0_395.out; have hcz62_0 : w57.cell? ⟨gb395, 0, none⟩ = some (.int .i64 0) := (blk_cell BK395.out 0).trans rfl; have hcz62_1 : w57.cell? ⟨gb395, 1, none⟩ = some (.slice none 0 0) := (blk_cell BK395.out 1).trans rfl; have hfz62_0 := blk_frozen BK395.out 0; have hfz62_1 := blk_frozen BK395.out 1))
      refine bodyPost_ret (results_cell_row rfl _ _ gb395 34 #[.int .i64 t396, .slice Ao59 y424.length co59] (0, 0) _ rfl zq75 Try.underlying34 rfl zq26) rfl ?_
      exact ⟨_, by first | rfl | (simp [errW_none, errW_some] <;> rfl) | (simp only [← hji45]; first | rfl | (simp [errW_none, errW_some] <;> rfl)) | (simp [*, errW_none, errW_some] <;> rfl), by (with_reducible repeat (first | apply Kd.R_alloc | apply Kd.R_drewN | apply Kd.R_drew)); exact Kd.R_mono (Kd.R_far (p := ⟨gb395, 1, none⟩) (Kd.R_far (p := ⟨gb395, 0, none⟩) (Kd.R_far (p := ⟨gb402, 1, none⟩) (Kd.R_types (Kd.R_types HO426.out BK402.out zq36) BK395.out zq36) (fun _ hk => hk.1.2) (.slice Ao59 y424.length co59)) (fun _ hk => hk.2) (.int .i64 t396)) (fun _ hk => hk.2) (.slice Ao59 y424.length co59)) (fun _ hk => trivial), zq0, zq3, zq17⟩
     ·rw [if_neg c47] at H
      exact absurd H zq66
    ·rw [if_neg c46] at H
     exact absurd H zq66
   ·rw [if_neg c43] at H
    have c43b0 : (t403 == 2) = false := beq_eq_false_iff_ne.mpr c43
    have c43b1 : (t403 != 2) = true := bne_iff_ne.mpr c43
    simp only [Option.some.injEq, Prod.mk.injEq] at H
    obtain ⟨rfl, rfl, rfl, rfl⟩ := H
    go_enter Try.func70, Try.ntmps70
    go_wp2_with (first | ((with_reducible refine gate_dst (N := 2) rfl ?_); refine zE 2 (cs := #[.int .i64 0, .slice none 0 0]) 34 ?_; intro gb395 hg w63 hbox hb; have BK395 := am (hbox); have GW395 := am ((zq47 : w.heap.size ≤ gb395)); have GE395 := am ((Nat.le_trans HW0.out (zq47 : w.heap.size ≤ gb395) : w0.heap.size ≤ gb395)); have NB0_395 := am ((zq68 : g ≠ gb395)); have NB395_0 := am ((zq69 : gb395 ≠ g)); replace HK := am (KeepBut.trans zq4 (KeepBut.of_below hb g none) (.inl rfl)); replace HB := am (below_step zq5 hb); replace HI0 := am (IsS51.below zq2 hb); clear hb hbox hg) | ((with_reducible refine gate_callee (f := 78) rfl ?_); refine goesL_ (some 5) rfl rfl Try.func78 zq26 rfl #[.pointer (some ⟨g, 0, none⟩), .int .i64 6, .int .i64 12] rfl zq1 ?_; (with_reducible refine (spec_l1Cur_sureLadder.calls k g s0_0 s0_1 s0_2 6 12 t396 t397 t400 t401 w0 _ ?side1 ?side2 A2.out).mono ?_); (case side1 => exact zq0); (case side2 => exact zq3); rintro e w64 ⟨v398, rfl, ho0, hi, hb, hk⟩; refine ⟨_, rfl, ?_⟩; have HO399 := am (Kd.R_lower ho0 (keep_size (w := w) (g := g) (row := none) zq19)); replace BK395 := am (KeepBut.blk hk (g' := gb395) (o := .cells #[.int .i64 0, .slice none 0 0] 34 (0, 0)) (pKq6 BK395) NB395_0.out zq66); replace HK := am (KeepBut.trans zq19 hk (.inl rfl)); replace HB := am (hb); replace HI0 := am (hi); (try clear hb hk hi ho0)) | ((with_reducible refine gate_dst (N := 3) rfl ?_); refine zE 3 (cs := #[.int .i64 0, .slice none 0 0]) 34 ?_; intro gb402 hg w65 hbox hb; have BK402 := am (hbox); have GW402 := am ((zq105 : w.heap.size ≤ gb402)); have GE402 := am ((Nat.le_trans HW0.out (zq105 : w.heap.size ≤ gb402) : w0.heap.size ≤ gb402)); have NB395_402 := am ((zq169 : gb395 ≠ gb402)); have NB402_395 := am ((zq170 : gb402 ≠ gb395)); have NB0_402 := am ((zq138 : g ≠ gb402)); have NB402_0 := am ((zq139 : gb402 ≠ g)); replace HO399 := am (Kd.R_below (pRq6 HO399) hb); replace BK395 := am (blk_below (pKq6 BK395) hb); replace HK := am (KeepBut.trans zq19 (KeepBut.of_below hb g none) (.inl rfl)); replace HB := am (below_step zq3 hb); replace HI0 := am (IsS51.below zq0 hb); clear hb hbox hg; have hnb66 := NB402_395.out; have hnc66 := NB395_402.out; have hnb67 := NB402_0.out; have hnc67 := NB0_402.out; have hcz68_0 : w65.cell? ⟨gb402, 0, none⟩ = some (.int .i64 0) := (blk_cell BK402.out 0).trans rfl; have hcz68_1 : w65.cell? ⟨gb402, 1, none⟩ = some (.slice none 0 0) := (blk_cell BK402.out 1).trans rfl; have hfz68_0 := blk_frozen BK402.out 0; have hfz68_1 := blk_frozen BK402.out 1; obtain ⟨Ao69, co69, eo69⟩ := Kd.R_slice HO399.out; subst eo69) | ((with_reducible refine gate_callee (f := 45) rfl ?_); refine goesL_ (some 7) rfl rfl Try.func45 zq26 rfl #[.pointer (some ⟨g, 0, none⟩), .int .i64 16] rfl zq1 ?_; (with_reducible refine (spec_l1Cur_pick.calls g s0_0 t400 t401 16 t403 t404 t405 w0 _ ?side1 ?side2 A3.out).mono ?_); (case side1 => exact zq0); (case side2 => exact zq3); rintro e w70 ⟨rfl, hi, hb, hk⟩; refine ⟨_, rfl, ?_⟩; replace BK395 := am (KeepBut.blk hk (g' := gb395) (o := .cells #[.int .i64 0, .slice none 0 0] 34 (0, 0)) zq45 NB395_0.out zq66); replace HO399 := am (Kd.R_mono (Kd.R_keep (IsS51.apart (show IsS51 w0 _ g s0_0 t400 t401 from zq0) (by (with_reducible repeat (first | apply Kd.R_alloc | apply Kd.R_drewN | apply Kd.R_drew)); exact (Kd.R_mono (Kd.R_far (p := ⟨gb402, 1, none⟩) (Kd.R_far (p := ⟨gb402, 0, none⟩) (Kd.R_types HO399.out BK402.out zq36) (fun _ hk => hk.2) (.int .i64 t396)) (fun _ hk => hk.2) (.slice Ao69 t397.length co69)) (fun _ h_ => h_.1))) zq36) hk (fun _ h => h.2)) (fun _ h => h.1)); replace BK402 := am (KeepBut.blk hk (g' := gb402) (o := .cells #[.int .i64 t396, .slice Ao69 t397.length co69] 34 (0, 0)) zq37 NB402_0.out zq66); replace HK := am (KeepBut.trans zq17 hk (.inl rfl)); replace HB := am (hb); replace HI0 := am (hi); (try clear hb hk hi); have hcz71_0 : w70.cell? ⟨gb402, 0, none⟩ = some (.int .i64 t396) := (blk_cell BK402.out 0).trans rfl; have hcz71_1 : w70.cell? ⟨gb402, 1, none⟩ = some (.slice Ao69 t397.length co69) := (blk_cell BK402.out 1).trans rfl; have hfz71_0 := blk_frozen BK402.out 0; have hfz71_1 := blk_frozen BK402.out 1; have hnb72 := NB395_0.out; have hnc72 := NB0_395.out; have hcz73_0 : w70.cell? ⟨gb395, 0, none⟩ = some (.int .i64 0) := (blk_cell BK395.out 0).trans rfl; have hcz73_1 : w70.cell? ⟨gb395, 1, none⟩ = some (.slice none 0 0) := (blk_cell BK395.out 1).trans rfl; have hfz73_0 := blk_frozen BK395.out 0; have hfz73_1 := blk_frozen BK395.out 1))
    refine bodyPost_ret (results_cell_row rfl _ _ gb395 34 #[.int .i64 t396, .slice Ao69 t397.length co69] (0, 0) _ rfl (by (with_reducible repeat (first | refine blk_drewN ?_ _ | refine blk_drew ?_ | refine blk_alloc ?_ _)); refine blk_put (cs := #[.int .i64 t396, .slice none 0 0]) ?_ 1 _ rfl; (with_reducible repeat (first | refine blk_drewN ?_ _ | refine blk_drew ?_ | refine blk_alloc ?_ _)); refine blk_put (cs := #[.int .i64 0, .slice none 0 0]) ?_ 0 _ rfl; (with_reducible repeat (first | refine blk_drewN ?_ _ | refine blk_drew ?_ | refine blk_alloc ?_ _)); exact BK395.out) Try.underlying34 rfl zq26) rfl ?_
    exact ⟨_, zq11, by (with_reducible repeat (first | apply Kd.R_alloc | apply Kd.R_drewN | apply Kd.R_drew)); exact Kd.R_mono (Kd.R_far (p := ⟨gb395, 1, none⟩) (Kd.R_far (p := ⟨gb395, 0, none⟩) (Kd.R_types HO399.out BK395.out zq36) (fun _ hk => hk.2) (.int .i64 t396)) (fun _ hk => hk.2) (.slice Ao69 t397.length co69)) (fun _ hk => trivial), zq0, zq3, zq17⟩
/-! ### spec_lsInversions: function 52 -/
mutual
def spec_lsInversions.l0 : Nat → List Int → List (List Int) → Int → Int → Option ((List (List Int)))
 | 0, _, _, _, _ => none
 | k + 1, x0, x3, x7, x8 => if x8 < x7 then (spec_lsInversions.l1 k x0 x3 x8 (wrap64 (x8 + 1)) x7 x8) else (some x3)
def spec_lsInversions.l1 : Nat → List Int → List (List Int) → Int → Int → Int → Int → Option ((List (List Int)))
 | 0, _, _, _, _, _, _ => none
 | k + 1, x0, x3, x4, x5, x7, x8 => if x5 < (x0.length : Int) then (if 0 ≤ x4 then (if x4 < (x0.length : Int) then (if 0 ≤ x5 then (if (rd x0 x4) > (rd x0 x5) then (if x3.length < 5864062014805 then (spec_lsInversions.l1 k x0 (x3 ++ [(([x4, x5] : List Int))]) x4 (wrap64 (x5 + 1)) x7 x8) else (none)) else (spec_lsInversions.l1 k x0 x3 x4 (wrap64 (x5 + 1)) x7 x8)) else (none)) else (none)) else (none)) else (spec_lsInversions.l0 k x0 x3 x7 (wrap64 (x8 + 1)))
end
def spec_lsInversions.f (k : Nat) (l0 : List Int) : Option ((List (List Int))) := spec_lsInversions.l0 k l0 ([] : List (List Int)) (l0.length : Int) 0
theorem spec_lsInversions.mono_l : ∀ k, (∀ y0 y1 y2 y3, LeO (spec_lsInversions.l0 k y0 y1 y2 y3) (spec_lsInversions.l0 (k + 1) y0 y1 y2 y3)) ∧ (∀ y0 y1 y2 y3 y4 y5, LeO (spec_lsInversions.l1 k y0 y1 y2 y3 y4 y5) (spec_lsInversions.l1 (k + 1) y0 y1 y2 y3 y4 y5))
 | 0 => ⟨fun _ _ _ _ r h => by simp [spec_lsInversions.l0] at h, fun _ _ _ _ _ _ r h => by simp [spec_lsInversions.l1] at h⟩
 | k + 1 => by
  obtain ⟨ih0, ih1⟩ := spec_lsInversions.mono_l k
  refine ⟨?_, ?_⟩
  ·intro y0 y1 y2 y3
   unfold spec_lsInversions.l0
   repeat' first | (with_reducible first | exact ih0 _ _ _ _ | exact ih1 _ _ _ _ _ _ | exact LeO.refl _ | exact LeO.none _ | refine LeO.ite ?_ ?_ | refine LeO.bind ?_ (fun _ => ?_))
  ·intro y0 y1 y2 y3 y4 y5
   unfold spec_lsInversions.l1
   repeat' first | (with_reducible first | exact ih0 _ _ _ _ | exact ih1 _ _ _ _ _ _ | exact LeO.refl _ | exact LeO.none _ | refine LeO.ite ?_ ?_ | refine LeO.bind ?_ (fun _ => ?_))
theorem spec_lsInversions.mono : ∀ a0 k, LeO (spec_lsInversions.f k a0) (spec_lsInversions.f (k + 1) a0) := by
 intro a0 k
 obtain ⟨ih0, ih1⟩ := spec_lsInversions.mono_l k
 unfold spec_lsInversions.f
 repeat' first | (with_reducible first | exact ih0 _ _ _ _ | exact ih1 _ _ _ _ _ _ | exact LeO.refl _ | exact LeO.none _ | refine LeO.ite ?_ ?_ | refine LeO.bind ?_ (fun _ => ?_))
theorem spec_lsInversions.calls (k : Nat) (A0 : Option Addr) (c0 : Nat) (l0 : List Int) (r : List (List Int)) (w : World) (hr0 : Kd.C (Kd.int .i64) w A0 l0.length l0) (hc0 : l0.length ≤ c0) (h : spec_lsInversions.f k l0 = some r) :
  Calls Try.prog 52 #[.slice A0 l0.length c0] w fun e w' => ∃ v0_ : Value, e = .returned (v0_) ∧ Kd.S (Kd.slice 3 (Kd.int .i64)) 24 w' w.heap.size (fun _ => True) v0_ r ∧ Below w.heap.size w w' := by
 have HR0 := am hr0
 have HC0 := am hc0
 clear hr0 hc0
 have HB := am (Below.refl w.heap.size w)
 have H : (spec_lsInversions.l0 k l0 ([] : List (List Int)) (l0.length : Int) 0) = some r := h
 clear h
 have H' := am H
 clear H
 go_enter Try.func52, Try.ntmps52
 go_wp2
 repeat (go_quiet (fail); try go_wp2)
 go_loopg [3, 8] k (fun kq v3 v8 w' => ∃ (x3_1 : List (List Int)) (x8_1 : Int), v8 = .int .i64 x8_1 ∧ Aside0 (spec_lsInversions.l0 kq l0 x3_1 (l0.length : Int) x8_1 = some r) ∧ Aside0 (kq ≤ k) ∧ Aside0 (Kd.S (Kd.slice 3 (Kd.int .i64)) 24 w' w.heap.size (fun _ => True) v3 x3_1) ∧ Aside0 (Below w.heap.size w w'))
 case atStart => exact ⟨(([] : List (List Int))), (0), zq13, H', ⟨Nat.le_refl _⟩, ⟨zq107⟩, ⟨zq12⟩⟩
 case round =>
  clear H'
  obtain ⟨x3_1, x8_1, rfl, HA, HK1, HO_3, HB⟩ := hrel
  cases gk with
  | zero => exact absurd HA.out (by simp [spec_lsInversions.l0])
  | succ k1 =>
   have H := HA.out
   clear HA
   simp only [spec_lsInversions.l0] at H
   by_cases c2 : x8_1 < (l0.length : Int)
   ·rw [if_pos c2] at H
    have c2b0 : decide (x8_1 < (l0.length : Int)) = true := decide_eq_true c2
    clear c2
    have H' := am H
    clear H
    go_wp2
    repeat (go_quiet (fail); try go_wp2)
    go_loopg [3, 5] k1 (fun kq v3 v5 w' => ∃ (x3_2 : List (List Int)) (x5_2 : Int), v5 = .int .i64 x5_2 ∧ Aside0 (spec_lsInversions.l1 kq l0 x3_2 x8_1 x5_2 (l0.length : Int) x8_1 = some r) ∧ Aside0 (kq ≤ k1) ∧ Aside0 (Kd.S (Kd.slice 3 (Kd.int .i64)) 24 w' w.heap.size (fun _ => True) v3 x3_2) ∧ Aside0 (Below w.heap.size w w'))
    case atStart => exact ⟨(x3_1), (wrap64 (x8_1 + 1)), zq13, H', ⟨Nat.le_refl _⟩, ⟨zq18⟩, ⟨zq12⟩⟩
    case round =>
     clear H'
     try clear c2
     try clear c2b0
     try clear p2
     obtain ⟨x3_2, x5_2, rfl, HA, HK2, HO_3, HB⟩ := hrel
     cases gk with
     | zero => exact absurd HA.out (by simp [spec_lsInversions.l1])
     | succ k2 =>
      have H := HA.out
      clear HA
      simp only [spec_lsInversions.l1] at H
      by_cases c3 : x5_2 < (l0.length : Int)
      ·rw [if_pos c3] at H
       have c3b0 : decide (x5_2 < (l0.length : Int)) = true := decide_eq_true c3
       clear c3
       by_cases c4 : 0 ≤ x8_1
       ·rw [if_pos c4] at H
        have c4b0 : decide (0 ≤ x8_1) = true := decide_eq_true c4
        clear c4
        by_cases c5 : x8_1 < (l0.length : Int)
        ·rw [if_pos c5] at H
         have c5b0 : decide (x8_1 < (l0.length : Int)) = true := decide_eq_true c5
         clear c5
         by_cases c6 : 0 ≤ x5_2
         ·rw [if_pos c6] at H
          have c6b0 : decide (0 ≤ x5_2) = true := decide_eq_true c6
          clear c6
          by_cases c7 : (rd l0 x8_1) > (rd l0 x5_2)
          ·rw [if_pos c7] at H
           have c7b0 : decide ((rd l0 x5_2) < (rd l0 x8_1)) = true := decide_eq_true c7
           clear c7
           obtain ⟨y429, hy429⟩ : ∃ y_ : List Int, y_ = (([x8_1, x5_2] : List Int)) := ⟨_, rfl⟩
           replace H : (if x3_2.length < 5864062014805 then (spec_lsInversions.l1 k2 l0 (x3_2 ++ [y429]) x8_1 (wrap64 (x5_2 + 1)) (l0.length : Int) x8_1) else (none)) = some r := by first | (rw [hy429]; exact zH) | exact zH
           have Ny429 := am hy429
           clear hy429
           by_cases c8 : x3_2.length < 5864062014805
           ·rw [if_pos c8] at H
            have LMc8 := am c8
            clear c8
            obtain ⟨y432, hy432⟩ : ∃ y_ : List (List Int), y_ = (x3_2 ++ [y429]) := ⟨_, rfl⟩
            replace H : (spec_lsInversions.l1 k2 l0 y432 x8_1 (wrap64 (x5_2 + 1)) (l0.length : Int) x8_1) = some r := by first | (rw [hy432]; exact zH) | exact zH
            have Ny432 := am hy432
            clear hy432
            have H' := am H
            clear H
            have p427 : 0 ≤ (x8_1 : Int) := of_decide_eq_true zq9
            have q427 : x8_1 < (l0.length : Int) := of_decide_eq_true zq9
            obtain ⟨ad427, e427, hx427_0⟩ := Kd.at_int HR0.out x8_1 p427 q427
            cases e427
            replace hx427_0 := (HB.out.cell (World.block_lt_of_cell? w _ hx427_0)).trans hx427_0
            replace p427 := eq_true p427
            replace q427 := eq_true q427
            have p428 : 0 ≤ (x5_2 : Int) := of_decide_eq_true zq9
            have q428 : x5_2 < (l0.length : Int) := of_decide_eq_true zq9
            obtain ⟨ad428, e428, hx428_0⟩ := Kd.at_int HR0.out x5_2 p428 q428
            obtain rfl : ad427 = ad428 := (by injection e428)
            replace hx428_0 := (HB.out.cell (World.block_lt_of_cell? w _ hx428_0)).trans hx428_0
            replace p428 := eq_true p428
            replace q428 := eq_true q428
            go_wp2_with (first | ((with_reducible refine gate_dst (N := 31) rfl ?_); refine Kd.R_lit (Kd.int .i64) _ 3 ?hg (N := 31) ?hd (xs := ([x8_1, x5_2] : List Int)) (inner := [.int .i64 x8_1, .int .i64 x5_2]) (ok := fun _ => True) (okp := fun _ => True) ?hr ?hp (fun _ hk => hk) trivial (Below.refl _ _) (Nat.le_refl _) zq66 ?_; (case hd => rfl); (case hg => rfl); (case hr => exact zq53); (case hp => exact zq124); intro v430 w9 ho10 hb hg_ hnew_; clear hg_ hnew_; (first | rw [← Ny429.out] at ho10 | (simp only [Int.reduceToNat] at ho10; rw [← Ny429.out] at ho10)); have HO431 := am (Kd.R_lower ho10 (below_size (pBq6 HB))); replace HO_3 := am (Kd.S_elder' zq18 (Kd.R_base ho10) hb); replace HB := am (below_step (pBq6 HB) hb); clear hb ho10; obtain ⟨Ao12, co12, eo12⟩ := Kd.R_slice HO431.out; subst eo12) | ((with_reducible refine gate_builtin (b := .append) (xs := #[.tmp 28, .tmp 32]) rfl ?_); at_builtin; refine Kd.S_append (Kd.slice 3 (Kd.int .i64)) (w0 := w) w.heap.size rfl (.tmp 28) (.tmp 32) 53 24 (.slice none 0 0) 24 rfl Try.underlying53 info24 rfl zq36 zq62 u3 x3_2 y429 [.slice Ao12 y429.length co12] (fun _ => True) (fun k_ => some k_ = (.slice Ao12 y429.length co12 : Value).ownBlock) rfl rfl ?aP (fun k_ hk_ => ((Kd.R_mono (ok' := fun k_ => ((fun _ => True)) k_ ∧ some k_ ≠ (u3 : Value).ownBlock) (Kd.R_apart' (HO431.out) (Kd.S_typed HO_3.out) zq36) (fun k_ hk => ⟨trivial, hk.2⟩))).1 k_ hk_.symm) ?aF ?aO ?aB ?aS ?aL ?_; (case aP => exact zq103); (case aB => exact (pBq6 HB)); (case aF => exact zq145); (case aO => exact zq63); (case aS => exact (below_size (pBq6 HB))); (case aL => have := LMc8.out; omega); intro v433 w11 ho hb hg hat; rw [← Ny432.out] at ho; have HO434 := am (ho); replace HB := am (hb); clear HO_3 HO431; clear ho hb hg hat))
            repeat (go_quiet (first | ((with_reducible refine gate_dst (N := 31) rfl ?_); refine Kd.R_lit (Kd.int .i64) _ 3 ?hg (N := 31) ?hd (xs := ([x8_1, x5_2] : List Int)) (inner := [.int .i64 x8_1, .int .i64 x5_2]) (ok := fun _ => True) (okp := fun _ => True) ?hr ?hp (fun _ hk => hk) trivial (Below.refl _ _) (Nat.le_refl _) zq66 ?_; (case hd => rfl); (case hg => rfl); (case hr => exact zq53); (case hp => exact zq124); intro v430 w9 ho10 hb hg_ hnew_; clear hg_ hnew_; (first | rw [← Ny429.out] at ho10 | (simp only [Int.reduceToNat] at ho10; rw [← Ny429.out] at ho10)); have HO431 := am (Kd.R_lower ho10 (below_size (pBq6 HB))); replace HO_3 := am (Kd.S_elder' zq18 (Kd.R_base ho10) hb); replace HB := am (below_step (pBq6 HB) hb); clear hb ho10; obtain ⟨Ao12, co12, eo12⟩ := Kd.R_slice HO431.out; subst eo12) | ((with_reducible refine gate_builtin (b := .append) (xs := #[.tmp 28, .tmp 32]) rfl ?_); at_builtin; refine Kd.S_append (Kd.slice 3 (Kd.int .i64)) (w0 := w) w.heap.size rfl (.tmp 28) (.tmp 32) 53 24 (.slice none 0 0) 24 rfl Try.underlying53 info24 rfl zq36 zq62 u3 x3_2 y429 [.slice Ao12 y429.length co12] (fun _ => True) (fun k_ => some k_ = (.slice Ao12 y429.length co12 : Value).ownBlock) rfl rfl ?aP (fun k_ hk_ => ((Kd.R_mono (ok' := fun k_ => ((fun _ => True)) k_ ∧ some k_ ≠ (u3 : Value).ownBlock) (Kd.R_apart' (HO431.out) (Kd.S_typed HO_3.out) zq36) (fun k_ hk => ⟨trivial, hk.2⟩))).1 k_ hk_.symm) ?aF ?aO ?aB ?aS ?aL ?_; (case aP => exact zq103); (case aB => exact (pBq6 HB)); (case aF => exact zq145); (case aO => exact zq63); (case aS => exact (below_size (pBq6 HB))); (case aL => have := LMc8.out; omega); intro v433 w11 ho hb hg hat; rw [← Ny432.out] at ho; have HO434 := am (ho); replace HB := am (hb); clear HO_3 HO431; clear ho hb hg hat)); try go_wp2_with (first | ((with_reducible refine gate_dst (N := 31) rfl ?_); refine Kd.R_lit (Kd.int .i64) _ 3 ?hg (N := 31) ?hd (xs := ([x8_1, x5_2] : List Int)) (inner := [.int .i64 x8_1, .int .i64 x5_2]) (ok := fun _ => True) (okp := fun _ => True) ?hr ?hp (fun _ hk => hk) trivial (Below.refl _ _) (Nat.le_refl _) zq66 ?_; (case hd => rfl); (case hg => rfl); (case hr => exact zq53); (case hp => exact zq124); intro v430 w9 ho10 hb hg_ hnew_; clear hg_ hnew_; (first | rw [← Ny429.out] at ho10 | (simp only [Int.reduceToNat] at ho10; rw [← Ny429.out] at ho10)); have HO431 := am (Kd.R_lower ho10 (below_size (pBq6 HB))); replace HO_3 := am (Kd.S_elder' zq18 (Kd.R_base ho10) hb); replace HB := am (below_step (pBq6 HB) hb); clear hb ho10; obtain ⟨Ao12, co12, eo12⟩ := Kd.R_slice HO431.out; subst eo12) | ((with_reducible refine gate_builtin (b := .append) (xs := #[.tmp 28, .tmp 32]) rfl ?_); at_builtin; refine Kd.S_append (Kd.slice 3 (Kd.int .i64)) (w0 := w) w.heap.size rfl (.tmp 28) (.tmp 32) 53 24 (.slice none 0 0) 24 rfl Try.underlying53 info24 rfl zq36 zq62 u3 x3_2 y429 [.slice Ao12 y429.length co12] (fun _ => True) (fun k_ => some k_ = (.slice Ao12 y429.length co12 : Value).ownBlock) rfl rfl ?aP (fun k_ hk_ => ((Kd.R_mono (ok' := fun k_ => ((fun _ => True)) k_ ∧ some k_ ≠ (u3 : Value).ownBlock) (Kd.R_apart' (HO431.out) (Kd.S_typed HO_3.out) zq36) (fun k_ hk => ⟨trivial, hk.2⟩))).1 k_ hk_.symm) ?aF ?aO ?aB ?aS ?aL ?_; (case aP => exact zq103); (case aB => exact (pBq6 HB)); (case aF => exact zq145); (case aO => exact zq63); (case aS => exact (below_size (pBq6 HB))); (case aL => have := LMc8.out; omega); intro v433 w11 ho hb hg hat; rw [← Ny432.out] at ho; have HO434 := am (ho); replace HB := am (hb); clear HO_3 HO431; clear ho hb hg hat)))
            go_roundg k2
            case measure => have := HK1.out; have := HK2.out; omega
            case rel => exact ⟨(y432), (wrap64 (x5_2 + 1)), zq13, H', ⟨zq76⟩, ⟨by (with_reducible repeat (first | apply Kd.S_alloc | apply Kd.S_drewN | apply Kd.S_drew)); exact HO434.out⟩, ⟨zq12⟩⟩
           ·rw [if_neg c8] at H
            exact absurd H zq66
          ·rw [if_neg c7] at H
           have c7b0 : decide ((rd l0 x5_2) < (rd l0 x8_1)) = false := decide_eq_false c7
           clear c7
           have H' := am H
           clear H
           have p427 : 0 ≤ (x8_1 : Int) := of_decide_eq_true zq9
           have q427 : x8_1 < (l0.length : Int) := of_decide_eq_true zq9
           obtain ⟨ad427, e427, hx427_0⟩ := Kd.at_int HR0.out x8_1 p427 q427
           cases e427
           replace hx427_0 := (HB.out.cell (World.block_lt_of_cell? w _ hx427_0)).trans hx427_0
           replace p427 := eq_true p427
           replace q427 := eq_true q427
           have p428 : 0 ≤ (x5_2 : Int) := of_decide_eq_true zq9
           have q428 : x5_2 < (l0.length : Int) := of_decide_eq_true zq9
           obtain ⟨ad428, e428, hx428_0⟩ := Kd.at_int HR0.out x5_2 p428 q428
           obtain rfl : ad427 = ad428 := (by injection e428)
           replace hx428_0 := (HB.out.cell (World.block_lt_of_cell? w _ hx428_0)).trans hx428_0
           replace p428 := eq_true p428
           replace q428 := eq_true q428
           go_wp2
           repeat (go_quiet (fail); try go_wp2)
           go_roundg k2
           case measure => have := HK1.out; have := HK2.out; omega
           case rel => exact ⟨(x3_2), (wrap64 (x5_2 + 1)), zq13, H', ⟨zq76⟩, ⟨zq18⟩, ⟨zq12⟩⟩
         ·rw [if_neg c6] at H
          exact absurd H zq66
        ·rw [if_neg c5] at H
         exact absurd H zq66
       ·rw [if_neg c4] at H
        exact absurd H zq66
      ·rw [if_neg c3] at H
       have c3b0 : decide (x5_2 < (l0.length : Int)) = false := decide_eq_false c3
       clear c3
       have H' := am H
       clear H
       go_wp2
       repeat (go_quiet (fail); try go_wp2)
       go_roundg k2
       case measure => have := HK1.out; have := HK2.out; omega
       case rel => exact ⟨(x3_2), (wrap64 (x8_1 + 1)), zq13, H', ⟨zq76⟩, ⟨zq18⟩, ⟨zq12⟩⟩
   ·rw [if_neg c2] at H
    have c2b0 : decide (x8_1 < (l0.length : Int)) = false := decide_eq_false c2
    clear c2
    obtain rfl := Option.some.inj H
    go_wp2
    repeat (go_quiet (fail); try go_wp2)
    go_ret
    exact ⟨_, zq11, zq18, zq12⟩
/-! ### spec_l1Cur_leastOf: function 71 -/
mutual
def spec_l1Cur_leastOf.l0 : Nat → List Int → Int → List Int → Int → Int → Int → List Int → Option (Int × List Int × Int × Int)
 | 0, _, _, _, _, _, _, _ => none
 | k + 1, x1, x6, x1000, x1001, x1002, x437000, x437001 => if x6 > 0 then (spec_l1Cur_leastOf.l1 k x1 x6 ([] : List Int) 0 x1000 x1001 x1002 x437000 x437001) else (some (x437000, x437001, x1001, x1002))
def spec_l1Cur_leastOf.l1 : Nat → List Int → Int → List Int → Int → List Int → Int → Int → Int → List Int → Option (Int × List Int × Int × Int)
 | 0, _, _, _, _, _, _, _, _, _ => none
 | k + 1, x1, x6, x7, x8, x1000, x1001, x1002, x437000, x437001 => if (wrap64 (x8 + 1)) < (x1.length : Int) then (if 0 ≤ x8 then (if x8 < (x1.length : Int) then (if 0 ≤ (wrap64 (x8 + 1)) then (if (rd x1 x8) > (rd x1 (wrap64 (x8 + 1))) then (if x7.length < 17592186044416 then (spec_l1Cur_leastOf.l1 k x1 x6 (x7 ++ [x8]) (wrap64 (x8 + 1)) x1000 x1001 x1002 x437000 x437001) else (none)) else (spec_l1Cur_leastOf.l1 k x1 x6 x7 (wrap64 (x8 + 1)) x1000 x1001 x1002 x437000 x437001)) else (none)) else (none)) else (none)) else ((spec_l1Cur_pick.f x1000 x1001 x1002 (x7.length : Int)).bind fun bt445 => (if 0 ≤ bt445.1 then (if bt445.1 < (x7.length : Int) then (if x437001.length < 17592186044416 then ((spec_alSwap.f x1 (rd x7 bt445.1)).bind fun t452 => (spec_l1Cur_leastOf.l0 k t452 (wrap64 (x6 - 1)) x1000 bt445.2.1 bt445.2.2 x437000 (x437001 ++ [rd x7 bt445.1]))) else (none)) else (none)) else (none)))
end
def spec_l1Cur_leastOf.f (k : Nat) (s0_0 : List Int) (s0_1 : Int) (s0_2 : Int) (l1 : List Int) : Option (Int × List Int × Int × Int) := (spec_lsInversions.f k l1).bind fun t437 => (spec_l1Cur_leastOf.l0 k l1 (t437.length : Int) s0_0 s0_1 s0_2 (l1.length : Int) ([] : List Int))
theorem spec_l1Cur_leastOf.mono_l : ∀ k, (∀ y0 y1 y2 y3 y4 y5 y6, LeO (spec_l1Cur_leastOf.l0 k y0 y1 y2 y3 y4 y5 y6) (spec_l1Cur_leastOf.l0 (k + 1) y0 y1 y2 y3 y4 y5 y6)) ∧ (∀ y0 y1 y2 y3 y4 y5 y6 y7 y8, LeO (spec_l1Cur_leastOf.l1 k y0 y1 y2 y3 y4 y5 y6 y7 y8) (spec_l1Cur_leastOf.l1 (k + 1) y0 y1 y2 y3 y4 y5 y6 y7 y8))
 | 0 => ⟨fun _ _ _ _ _ _ _ r h => by simp [spec_l1Cur_leastOf.l0] at h, fun _ _ _ _ _ _ _ _ _ r h => by simp [spec_l1Cur_leastOf.l1] at h⟩
 | k + 1 => by
  obtain ⟨ih0, ih1⟩ := spec_l1Cur_leastOf.mono_l k
  refine ⟨?_, ?_⟩
  ·intro y0 y1 y2 y3 y4 y5 y6
   unfold spec_l1Cur_leastOf.l0
   repeat' first | (with_reducible first | exact ih0 _ _ _ _ _ _ _ | exact ih1 _ _ _ _ _ _ _ _ _ | exact spec_lsInversions.mono _ _ | exact LeO.refl _ | exact LeO.none _ | refine LeO.ite ?_ ?_ | refine LeO.bind ?_ (fun _ => ?_))
  ·intro y0 y1 y2 y3 y4 y5 y6 y7 y8
   unfold spec_l1Cur_leastOf.l1
   repeat' first | (with_reducible first | exact ih0 _ _ _ _ _ _ _ | exact ih1 _ _ _ _ _ _ _ _ _ | exact spec_lsInversions.mono _ _ | exact LeO.refl _ | exact LeO.none _ | refine LeO.ite ?_ ?_ | refine LeO.bind ?_ (fun _ => ?_))
theorem spec_l1Cur_leastOf.mono : ∀ a0 a1 a2 a3 k, LeO (spec_l1Cur_leastOf.f k a0 a1 a2 a3) (spec_l1Cur_leastOf.f (k + 1) a0 a1 a2 a3) := by
 intro a0 a1 a2 a3 k
 obtain ⟨ih0, ih1⟩ := spec_l1Cur_leastOf.mono_l k
 unfold spec_l1Cur_leastOf.f
 repeat' first | (with_reducible first | exact ih0 _ _ _ _ _ _ _ | exact ih1 _ _ _ _ _ _ _ _ _ | exact spec_lsInversions.mono _ _ | exact LeO.refl _ | exact LeO.none _ | refine LeO.ite ?_ ?_ | refine LeO.bind ?_ (fun _ => ?_))
theorem spec_l1Cur_leastOf.calls (k : Nat) (g : Nat) (s0_0 : List Int) (s0_1 : Int) (s0_2 : Int) (P1_ : Nat → Prop) (A1 : Option Addr) (c1 : Nat) (l1 : List Int) (r1 : Int) (r2 : List Int) (r3 : Int) (r4 : Int) (w0 w : World) (hI : IsS51 w0 w g s0_0 s0_1 s0_2) (hB : Below w0.heap.size w0 w) (hs1 : Kd.V (Kd.int .i64) 3 w w.heap.size (fun k_ => P1_ k_ ∧ k_ ≠ g) (.slice A1 l1.length c1) l1) (h : spec_l1Cur_leastOf.f k s0_0 s0_1 s0_2 l1 = some (r1, r2, r3, r4)) :
  Calls Try.prog 71 #[.pointer (some ⟨g, 0, none⟩), .slice A1 l1.length c1] w fun e w' => ∃ v1_ : Value, e = .returned (.agg #[.int .i64 r1, v1_]) ∧ Kd.R (Kd.int .i64) 3 w' w.heap.size (fun k_ => (w.heap.size ≤ k_)) v1_ r2 ∧ IsS51 w0 w' g s0_0 r3 r4 ∧ Below w0.heap.size w0 w' ∧ KeepBut w w' g none := by
 have hu34 := Try.underlying34
 have HO1 := am (show Kd.V (Kd.int .i64) 3 w w.heap.size (fun k_ => (P1_ k_ ∨ w.heap.size ≤ k_) ∧ k_ ≠ g) (.slice A1 l1.length c1) l1 from Kd.V_mono hs1 (fun k_ hk => ⟨.inl hk.1, hk.2⟩))
 have HI0 := am hI
 have HK := am (KeepBut.refl w g none)
 have HL := am hB.size
 clear hI
 have HW0 := am hB.size
 have HB := am hB
 clear hB
 have H : ((spec_lsInversions.f k l1).bind fun t437 => (spec_l1Cur_leastOf.l0 k l1 (t437.length : Int) s0_0 s0_1 s0_2 (l1.length : Int) ([] : List Int))) = some (r1, r2, r3, r4) := h
 clear h
 obtain ⟨t437, A3, H⟩ := zS H
 (try dsimp only at H)
 have H' := am H
 clear H
 go_enter Try.func71, Try.ntmps71
 go_wp2_with (first | ((with_reducible refine gate_dst (N := 4) rfl ?_); refine zE 4 (cs := #[.int .i64 0, .slice none 0 0]) 34 ?_; intro gb435 hg w4 hbox hb; have BK435 := am (hbox); have GW435 := am ((zq47 : w.heap.size ≤ gb435)); have GE435 := am ((Nat.le_trans HW0.out (zq47 : w.heap.size ≤ gb435) : w0.heap.size ≤ gb435)); have NB0_435 := am ((zq68 : g ≠ gb435)); have NB435_0 := am ((zq69 : gb435 ≠ g)); replace HO1 := am (Kd.V_below (Kd.V_elderB zq85 gb435 (Nat.le_of_eq hg.symm)) hb); replace HK := am (KeepBut.trans zq4 (KeepBut.of_below hb g none) (.inl rfl)); replace HB := am (below_step zq5 hb); replace HI0 := am (IsS51.below zq2 hb); clear hb hbox hg) | ((with_reducible refine gate_dst (N := 5) rfl ?_); refine zE 5 (cs := #[.int .i64 0, .slice none 0 0]) 34 ?_; intro gb436 hg w5 hbox hb; have BK436 := am (hbox); have GW436 := am ((zq125 : w.heap.size ≤ gb436)); have GE436 := am ((Nat.le_trans HW0.out (zq125 : w.heap.size ≤ gb436) : w0.heap.size ≤ gb436)); have NB435_436 := am ((by rw [hg]; exact Nat.ne_of_lt (blk_lt (pKq6 BK435)) : gb435 ≠ gb436)); have NB436_435 := am ((by rw [hg]; exact Nat.ne_of_gt (blk_lt (pKq6 BK435)) : gb436 ≠ gb435)); have NB0_436 := am ((zq159 : g ≠ gb436)); have NB436_0 := am ((zq160 : gb436 ≠ g)); replace HO1 := am (Kd.V_below (Kd.V_elderB zq85 gb436 (Nat.le_of_eq hg.symm)) hb); replace BK435 := am (blk_below (pKq6 BK435) hb); replace HK := am (KeepBut.trans zq32 (KeepBut.of_below hb g none) (.inl rfl)); replace HB := am (below_step zq3 hb); replace HI0 := am (IsS51.below zq0 hb); clear hb hbox hg; have hnb6 := NB436_435.out; have hnc6 := NB435_436.out; have hnb7 := NB436_0.out; have hnc7 := NB0_436.out; have hcz8_0 : w5.cell? ⟨gb436, 0, none⟩ = some (.int .i64 0) := (blk_cell BK436.out 0).trans rfl; have hcz8_1 : w5.cell? ⟨gb436, 1, none⟩ = some (.slice none 0 0) := (blk_cell BK436.out 1).trans rfl; have hfz8_0 := blk_frozen BK436.out 0; have hfz8_1 := blk_frozen BK436.out 1) | (go_at_call 52; (with_reducible refine (spec_lsInversions.calls k _ _ l1 t437 _ ?side1 ?side2 A3.out).mono ?_); (case side1 => exact zq118); (case side2 => exact (Kd.V_reads' HO1.out).2.1); rintro e w9 ⟨v438, rfl, ho0, hb⟩; have HO439 := am (Kd.S_lower (Kd.S_newM (M := fun k_ => (w.heap.size ≤ k_)) ho0 (keep_size (w := w) (g := g) (row := none) zq8) (fun k_ h_ => h_)) (keep_size (w := w) (g := g) (row := none) zq8)); replace HO1 := am (Kd.V_elder' zq29 (Kd.S_base ho0) hb); replace BK435 := am (blk_below (g := gb435) (o := .cells #[.int .i64 0, .slice none 0 0] 34 (0, 0)) zq64 hb); replace BK436 := am (blk_below (g := gb436) (o := .cells #[.int .i64 (l1.length : Int), .slice none 0 0] 34 (0, 0)) zq54 hb); replace HK := am (KeepBut.trans zq8 (KeepBut.of_below hb g none) (.inl rfl)); replace HB := am (below_step zq3 hb); replace HI0 := am (IsS51.below (show IsS51 w0 ((w5.setCell ⟨gb436, 0, none⟩ (.int .i64 (l1.length : Int))).setCell ⟨gb436, 1, none⟩ (.slice none 0 0)) g s0_0 s0_1 s0_2 from zq0) hb); (try clear hb hk ho0); obtain ⟨Ao10, co10, eo10⟩ := Kd.S_slice HO439.out; subst eo10))
 repeat (go_quiet (first | ((with_reducible refine gate_dst (N := 4) rfl ?_); refine zE 4 (cs := #[.int .i64 0, .slice none 0 0]) 34 ?_; intro gb435 hg w4 hbox hb; have BK435 := am (hbox); have GW435 := am ((zq47 : w.heap.size ≤ gb435)); have GE435 := am ((Nat.le_trans HW0.out (zq47 : w.heap.size ≤ gb435) : w0.heap.size ≤ gb435)); have NB0_435 := am ((zq68 : g ≠ gb435)); have NB435_0 := am ((zq69 : gb435 ≠ g)); replace HO1 := am (Kd.V_below (Kd.V_elderB zq85 gb435 (Nat.le_of_eq hg.symm)) hb); replace HK := am (KeepBut.trans zq4 (KeepBut.of_below hb g none) (.inl rfl)); replace HB := am (below_step zq5 hb); replace HI0 := am (IsS51.below zq2 hb); clear hb hbox hg) | ((with_reducible refine gate_dst (N := 5) rfl ?_); refine zE 5 (cs := #[.int .i64 0, .slice none 0 0]) 34 ?_; intro gb436 hg w5 hbox hb; have BK436 := am (hbox); have GW436 := am ((zq125 : w.heap.size ≤ gb436)); have GE436 := am ((Nat.le_trans HW0.out (zq125 : w.heap.size ≤ gb436) : w0.heap.size ≤ gb436)); have NB435_436 := am ((by rw [hg]; exact Nat.ne_of_lt (blk_lt (pKq6 BK435)) : gb435 ≠ gb436)); have NB436_435 := am ((by rw [hg]; exact Nat.ne_of_gt (blk_lt (pKq6 BK435)) : gb436 ≠ gb435)); have NB0_436 := am ((zq159 : g ≠ gb436)); have NB436_0 := am ((zq160 : gb436 ≠ g)); replace HO1 := am (Kd.V_below (Kd.V_elderB zq85 gb436 (Nat.le_of_eq hg.symm)) hb); replace BK435 := am (blk_below (pKq6 BK435) hb); replace HK := am (KeepBut.trans zq32 (KeepBut.of_below hb g none) (.inl rfl)); replace HB := am (below_step zq3 hb); replace HI0 := am (IsS51.below zq0 hb); clear hb hbox hg; have hnb6 := NB436_435.out; have hnc6 := NB435_436.out; have hnb7 := NB436_0.out; have hnc7 := NB0_436.out; have hcz8_0 : w5.cell? ⟨gb436, 0, none⟩ = some (.int .i64 0) := (blk_cell BK436.out 0).trans rfl; have hcz8_1 : w5.cell? ⟨gb436, 1, none⟩ = some (.slice none 0 0) := (blk_cell BK436.out 1).trans rfl; have hfz8_0 := blk_frozen BK436.out 0; have hfz8_1 := blk_frozen BK436.out 1) | (go_at_call 52; (with_reducible refine (spec_lsInversions.calls k _ _ l1 t437 _ ?side1 ?side2 A3.out).mono ?_); (case side1 => exact zq118); (case side2 => exact (Kd.V_reads' HO1.out).2.1); rintro e w9 ⟨v438, rfl, ho0, hb⟩; have HO439 := am (Kd.S_lower (Kd.S_newM (M := fun k_ => (w.heap.size ≤ k_)) ho0 (keep_size (w := w) (g := g) (row := none) zq8) (fun k_ h_ => h_)) (keep_size (w := w) (g := g) (row := none) zq8)); replace HO1 := am (Kd.V_elder' zq29 (Kd.S_base ho0) hb); replace BK435 := am (blk_below (g := gb435) (o := .cells #[.int .i64 0, .slice none 0 0] 34 (0, 0)) zq64 hb); replace BK436 := am (blk_below (g := gb436) (o := .cells #[.int .i64 (l1.length : Int), .slice none 0 0] 34 (0, 0)) zq54 hb); replace HK := am (KeepBut.trans zq8 (KeepBut.of_below hb g none) (.inl rfl)); replace HB := am (below_step zq3 hb); replace HI0 := am (IsS51.below (show IsS51 w0 ((w5.setCell ⟨gb436, 0, none⟩ (.int .i64 (l1.length : Int))).setCell ⟨gb436, 1, none⟩ (.slice none 0 0)) g s0_0 s0_1 s0_2 from zq0) hb); (try clear hb hk ho0); obtain ⟨Ao10, co10, eo10⟩ := Kd.S_slice HO439.out; subst eo10)); try go_wp2_with (first | ((with_reducible refine gate_dst (N := 4) rfl ?_); refine zE 4 (cs := #[.int .i64 0, .slice none 0 0]) 34 ?_; intro gb435 hg w4 hbox hb; have BK435 := am (hbox); have GW435 := am ((zq47 : w.heap.size ≤ gb435)); have GE435 := am ((Nat.le_trans HW0.out (zq47 : w.heap.size ≤ gb435) : w0.heap.size ≤ gb435)); have NB0_435 := am ((zq68 : g ≠ gb435)); have NB435_0 := am ((zq69 : gb435 ≠ g)); replace HO1 := am (Kd.V_below (Kd.V_elderB zq85 gb435 (Nat.le_of_eq hg.symm)) hb); replace HK := am (KeepBut.trans zq4 (KeepBut.of_below hb g none) (.inl rfl)); replace HB := am (below_step zq5 hb); replace HI0 := am (IsS51.below zq2 hb); clear hb hbox hg) | ((with_reducible refine gate_dst (N := 5) rfl ?_); refine zE 5 (cs := #[.int .i64 0, .slice none 0 0]) 34 ?_; intro gb436 hg w5 hbox hb; have BK436 := am (hbox); have GW436 := am ((zq125 : w.heap.size ≤ gb436)); have GE436 := am ((Nat.le_trans HW0.out (zq125 : w.heap.size ≤ gb436) : w0.heap.size ≤ gb436)); have NB435_436 := am ((by rw [hg]; exact Nat.ne_of_lt (blk_lt (pKq6 BK435)) : gb435 ≠ gb436)); have NB436_435 := am ((by rw [hg]; exact Nat.ne_of_gt (blk_lt (pKq6 BK435)) : gb436 ≠ gb435)); have NB0_436 := am ((zq159 : g ≠ gb436)); have NB436_0 := am ((zq160 : gb436 ≠ g)); replace HO1 := am (Kd.V_below (Kd.V_elderB zq85 gb436 (Nat.le_of_eq hg.symm)) hb); replace BK435 := am (blk_below (pKq6 BK435) hb); replace HK := am (KeepBut.trans zq32 (KeepBut.of_below hb g none) (.inl rfl)); replace HB := am (below_step zq3 hb); replace HI0 := am (IsS51.below zq0 hb); clear hb hbox hg; have hnb6 := NB436_435.out; have hnc6 := NB435_436.out; have hnb7 := NB436_0.out; have hnc7 := NB0_436.out; have hcz8_0 : w5.cell? ⟨gb436, 0, none⟩ = some (.int .i64 0) := (blk_cell BK436.out 0).trans rfl; have hcz8_1 : w5.cell? ⟨gb436, 1, none⟩ = some (.slice none 0 0) := (blk_cell BK436.out 1).trans rfl; have hfz8_0 := blk_frozen BK436.out 0; have hfz8_1 := blk_frozen BK436.out 1) | (go_at_call 52; (with_reducible refine (spec_lsInversions.calls k _ _ l1 t437 _ ?side1 ?side2 A3.out).mono ?_); (case side1 => exact zq118); (case side2 => exact (Kd.V_reads' HO1.out).2.1); rintro e w9 ⟨v438, rfl, ho0, hb⟩; have HO439 := am (Kd.S_lower (Kd.S_newM (M := fun k_ => (w.heap.size ≤ k_)) ho0 (keep_size (w := w) (g := g) (row := none) zq8) (fun k_ h_ => h_)) (keep_size (w := w) (g := g) (row := none) zq8)); replace HO1 := am (Kd.V_elder' zq29 (Kd.S_base ho0) hb); replace BK435 := am (blk_below (g := gb435) (o := .cells #[.int .i64 0, .slice none 0 0] 34 (0, 0)) zq64 hb); replace BK436 := am (blk_below (g := gb436) (o := .cells #[.int .i64 (l1.length : Int), .slice none 0 0] 34 (0, 0)) zq54 hb); replace HK := am (KeepBut.trans zq8 (KeepBut.of_below hb g none) (.inl rfl)); replace HB := am (below_step zq3 hb); replace HI0 := am (IsS51.below (show IsS51 w0 ((w5.setCell ⟨gb436, 0, none⟩ (.int .i64 (l1.length : Int))).setCell ⟨gb436, 1, none⟩ (.slice none 0 0)) g s0_0 s0_1 s0_2 from zq0) hb); (try clear hb hk ho0); obtain ⟨Ao10, co10, eo10⟩ := Kd.S_slice HO439.out; subst eo10)))
 go_loopg [1, 6] k (fun kq v1 v6 w' => ∃ (x1_1 : List Int) (x6_1 : Int) (x1001_1 : Int) (x1002_1 : Int) (x437001_1 : List Int) (u437001 : Value), v6 = .int .i64 x6_1 ∧ Aside0 (spec_l1Cur_leastOf.l0 kq x1_1 x6_1 s0_0 x1001_1 x1002_1 (l1.length : Int) x437001_1 = some (r1, r2, r3, r4)) ∧ Aside0 (kq ≤ k) ∧ Aside0 (Kd.V (Kd.int .i64) 3 w' w.heap.size (fun k_ => (P1_ k_ ∨ w.heap.size ≤ k_) ∧ some k_ ≠ (u437001 : Value).ownBlock ∧ k_ ≠ gb435 ∧ k_ ≠ gb436 ∧ k_ ≠ g) v1 x1_1) ∧ Aside0 (Kd.R (Kd.int .i64) 3 w' w.heap.size (fun k_ => (w.heap.size ≤ k_)) u437001 x437001_1) ∧ Aside0 (w'.heap[gb435]? = some (.cells #[.int .i64 0, (.slice none 0 0)] 34 (0, 0))) ∧ Aside0 (w'.heap[gb436]? = some (.cells #[.int .i64 (l1.length : Int), u437001] 34 (0, 0))) ∧ Aside0 (IsS51 w0 w' g s0_0 x1001_1 x1002_1) ∧ Aside0 (KeepBut w w' g none) ∧ Aside0 (Below w0.heap.size w0 w'))
 case atStart => exact ⟨(l1), ((t437.length : Int)), (s0_1), (s0_2), (([] : List Int)), (.slice none 0 0), zq13, H', ⟨Nat.le_refl _⟩, ⟨by (with_reducible repeat (first | apply Kd.V_alloc | apply Kd.V_drewN | apply Kd.V_drew)); exact Kd.V_mono HO1.out (fun _ hk => ⟨hk.1.1.1.1, ⟨zq176, ⟨hk.1.1.2, ⟨hk.1.2, hk.1.1.1.2⟩⟩⟩⟩)⟩, ⟨zq24⟩, ⟨zq93⟩, ⟨zq92⟩, ⟨zq0⟩, ⟨zq8⟩, ⟨zq3⟩⟩
 case round =>
  clear H'
  try clear c1
  try clear p2
  try clear c6
  try clear c7
  try clear hcz8_0
  try clear hcz8_1
  try clear hfz8_0
  try clear hfz8_1
  obtain ⟨x1_1, x6_1, x1001_1, x1002_1, x437001_1, u437001, rfl, HA, HK1, HO_1, HO_437001, BK435, BK436, HI0, HK, HB⟩ := hrel
  cases gk with
  | zero => exact absurd HA.out (by simp [spec_l1Cur_leastOf.l0])
  | succ k1 =>
   have H := HA.out
   clear HA
   simp only [spec_l1Cur_leastOf.l0] at H
   by_cases c11 : x6_1 > 0
   ·rw [if_pos c11] at H
    have c11b0 : decide (0 < x6_1) = true := decide_eq_true c11
    clear c11
    have H' := am H
    clear H
    go_wp2
    repeat (go_quiet (fail); try go_wp2)
    go_loopg [7, 8] k1 (fun kq v7 v8 w' => ∃ (x7_2 : List Int) (x8_2 : Int), v8 = .int .i64 x8_2 ∧ Aside0 (spec_l1Cur_leastOf.l1 kq x1_1 x6_1 x7_2 x8_2 s0_0 x1001_1 x1002_1 (l1.length : Int) x437001_1 = some (r1, r2, r3, r4)) ∧ Aside0 (kq ≤ k1) ∧ Aside0 (Kd.V (Kd.int .i64) 3 w' w.heap.size (fun k_ => (P1_ k_ ∨ w.heap.size ≤ k_) ∧ some k_ ≠ (v7 : Value).ownBlock ∧ some k_ ≠ (u437001 : Value).ownBlock ∧ k_ ≠ gb435 ∧ k_ ≠ gb436 ∧ k_ ≠ g) u1 x1_1) ∧ Aside0 (Kd.R (Kd.int .i64) 3 w' w.heap.size (fun k_ => (w.heap.size ≤ k_) ∧ some k_ ≠ (u437001 : Value).ownBlock) v7 x7_2) ∧ Aside0 (Kd.R (Kd.int .i64) 3 w' w.heap.size (fun k_ => (w.heap.size ≤ k_) ∧ some k_ ≠ (v7 : Value).ownBlock) u437001 x437001_1) ∧ Aside0 (w'.heap[gb435]? = some (.cells #[.int .i64 0, (.slice none 0 0)] 34 (0, 0))) ∧ Aside0 (w'.heap[gb436]? = some (.cells #[.int .i64 (l1.length : Int), u437001] 34 (0, 0))) ∧ Aside0 (IsS51 w0 w' g s0_0 x1001_1 x1002_1) ∧ Aside0 (KeepBut w w' g none) ∧ Aside0 (Below w0.heap.size w0 w'))
    case atStart => exact ⟨(([] : List Int)), (0), zq13, H', ⟨Nat.le_refl _⟩, ⟨by (with_reducible repeat (first | apply Kd.V_alloc | apply Kd.V_drewN | apply Kd.V_drew)); exact Kd.V_mono HO_1.out (fun _ hk => ⟨hk.1, ⟨zq176, ⟨hk.2.1, ⟨hk.2.2.1, ⟨hk.2.2.2.1, hk.2.2.2.2⟩⟩⟩⟩⟩)⟩, ⟨zq24⟩, ⟨by (with_reducible repeat (first | apply Kd.R_alloc | apply Kd.R_drewN | apply Kd.R_drew)); exact Kd.R_mono HO_437001.out (fun _ hk => ⟨hk, zq176⟩)⟩, ⟨zq93⟩, ⟨zq92⟩, ⟨zq0⟩, ⟨zq8⟩, ⟨zq3⟩⟩
    case round =>
     clear H'
     try clear c1
     try clear p2
     try clear c6
     try clear c7
     try clear c11
     try clear c11b0
     try clear hcz8_0
     try clear hcz8_1
     try clear hfz8_0
     try clear hfz8_1
     try clear p2
     obtain ⟨x7_2, x8_2, rfl, HA, HK2, HO_1, HO_7, HO_437001, BK435, BK436, HI0, HK, HB⟩ := hrel
     cases gk with
     | zero => exact absurd HA.out (by simp [spec_l1Cur_leastOf.l1])
     | succ k2 =>
      have H := HA.out
      clear HA
      simp only [spec_l1Cur_leastOf.l1] at H
      by_cases c12 : (wrap64 (x8_2 + 1)) < (x1_1.length : Int)
      ·rw [if_pos c12] at H
       have c12b0 : decide ((wrap64 (x8_2 + 1)) < (x1_1.length : Int)) = true := decide_eq_true c12
       clear c12
       by_cases c13 : 0 ≤ x8_2
       ·rw [if_pos c13] at H
        have c13b0 : decide (0 ≤ x8_2) = true := decide_eq_true c13
        clear c13
        by_cases c14 : x8_2 < (x1_1.length : Int)
        ·rw [if_pos c14] at H
         have c14b0 : decide (x8_2 < (x1_1.length : Int)) = true := decide_eq_true c14
         clear c14
         obtain ⟨ji15, hji15⟩ : ∃ j_ : Int, (wrap64 (x8_2 + 1)) = j_ := ⟨_, rfl⟩
         replace H : (if 0 ≤ (ji15) then (if (rd x1_1 x8_2) > (rd x1_1 (ji15)) then (if x7_2.length < 17592186044416 then (spec_l1Cur_leastOf.l1 k2 x1_1 x6_1 (x7_2 ++ [x8_2]) ji15 s0_0 x1001_1 x1002_1 (l1.length : Int) x437001_1) else (none)) else (spec_l1Cur_leastOf.l1 k2 x1_1 x6_1 x7_2 ji15 s0_0 x1001_1 x1002_1 (l1.length : Int) x437001_1)) else (none)) = some (r1, r2, r3, r4) := by first | (rw [hji15] at H; exact H) | (simp only [hji15] at H ⊢; exact H)
         (try rw [hji15] at c12b0)
         have hji15w : (IntKind.i64.wrap (x8_2 + 1)) = ji15 := (i64_w _).trans hji15
         by_cases c16 : 0 ≤ (ji15)
         ·rw [if_pos c16] at H
          have c16b0 : decide (0 ≤ (ji15)) = true := decide_eq_true c16
          clear c16
          by_cases c17 : (rd x1_1 x8_2) > (rd x1_1 (ji15))
          ·rw [if_pos c17] at H
           have c17b0 : decide ((rd x1_1 (ji15)) < (rd x1_1 x8_2)) = true := decide_eq_true c17
           clear c17
           by_cases c18 : x7_2.length < 17592186044416
           ·rw [if_pos c18] at H
            have LMc18 := am c18
            clear c18
            obtain ⟨y442, hy442⟩ : ∃ y_ : List Int, y_ = (x7_2 ++ [x8_2]) := ⟨_, rfl⟩
            replace H : (spec_l1Cur_leastOf.l1 k2 x1_1 x6_1 y442 ji15 s0_0 x1001_1 x1002_1 (l1.length : Int) x437001_1) = some (r1, r2, r3, r4) := by first | (rw [hy442]; exact zH) | exact zH
            have Ny442 := am hy442
            clear hy442
            have H' := am H
            clear H
            obtain ⟨Ao19, co19, eo19⟩ := Kd.V_slice HO_1.out
            subst eo19
            have p440 : 0 ≤ (x8_2 : Int) := of_decide_eq_true zq9
            have q440 : x8_2 < (x1_1.length : Int) := of_decide_eq_true zq9
            obtain ⟨ad440, e440, hx440_0⟩ := Kd.at_int (Kd.V_reads' HO_1.out).2.2 x8_2 p440 q440
            cases e440
            replace p440 := eq_true p440
            replace q440 := eq_true q440
            have p441 : 0 ≤ ((ji15) : Int) := of_decide_eq_true zq9
            have q441 : (ji15) < (x1_1.length : Int) := of_decide_eq_true zq9
            obtain ⟨ad441, e441, hx441_0⟩ := Kd.at_int (Kd.V_reads' HO_1.out).2.2 (ji15) p441 q441
            obtain rfl : ad440 = ad441 := (by injection e441)
            replace p441 := eq_true p441
            replace q441 := eq_true q441
            go_wp2_with (first | ((with_reducible refine gate_builtin (b := .append) (xs := #[.tmp 37, .tmp 39]) rfl ?_); at_builtin; refine Kd.R_append (Kd.int .i64) w.heap.size rfl (.tmp 37) (.tmp 39) 24 3 (.int .i64 0) 8 rfl Try.underlying24 info3 rfl zq36 zq62 u7 x7_2 x8_2 [.int .i64 x8_2] (fun k_ => (w.heap.size ≤ k_) ∧ some k_ ≠ (u437001 : Value).ownBlock) (fun _ => False) rfl rfl ?aP (fun _ hk => hk.elim) ?aF ?aO (Below.refl _ _) ?aS ?aL ?_; (case aP => exact rfl); (case aF => exact zq140); (case aO => exact (pRq6 HO_7)); (case aS => exact zq149); (case aL => have := LMc18.out; omega); intro v443 w20 ho hb hg hat; rw [← Ny442.out] at ho; have HO444 := am (ho); replace HO_1 := am (Kd.V_afterv (ok := (fun k_ => (P1_ k_ ∨ w.heap.size ≤ k_) ∧ some k_ ≠ (u437001 : Value).ownBlock ∧ k_ ≠ gb435 ∧ k_ ≠ gb436 ∧ k_ ≠ g)) zq109 hg hat); replace HO_437001 := am (Kd.R_after (ok := (fun k_ => (w.heap.size ≤ k_))) (pRq6 HO_437001) hg hat); replace BK435 := am (blk_grown (g := gb435) (o := .cells #[.int .i64 0, .slice none 0 0] 34 (0, 0)) (pKq6 BK435) hg (Kd.R_ne HO_7.out BK435.out zq36)); replace BK436 := am (blk_grown (g := gb436) (o := .cells #[.int .i64 (l1.length : Int), u437001] 34 (0, 0)) (pKq6 BK436) hg (Kd.R_ne HO_7.out BK436.out zq36)); replace HB := am (below_weaken zq3 HL.out hb); replace HI0 := am (IsS51.grown zq0 hg (IsS51.own_ne HI0.out HO_7.out zq36)); replace HK := am (KeepBut.trans zq8 (KeepBut.of_grown hg g) (Kd.R_base2 HO_7.out)); clear HO_7; clear ho hb hg hat))
            repeat (go_quiet (first | ((with_reducible refine gate_builtin (b := .append) (xs := #[.tmp 37, .tmp 39]) rfl ?_); at_builtin; refine Kd.R_append (Kd.int .i64) w.heap.size rfl (.tmp 37) (.tmp 39) 24 3 (.int .i64 0) 8 rfl Try.underlying24 info3 rfl zq36 zq62 u7 x7_2 x8_2 [.int .i64 x8_2] (fun k_ => (w.heap.size ≤ k_) ∧ some k_ ≠ (u437001 : Value).ownBlock) (fun _ => False) rfl rfl ?aP (fun _ hk => hk.elim) ?aF ?aO (Below.refl _ _) ?aS ?aL ?_; (case aP => exact rfl); (case aF => exact zq140); (case aO => exact (pRq6 HO_7)); (case aS => exact zq149); (case aL => have := LMc18.out; omega); intro v443 w20 ho hb hg hat; rw [← Ny442.out] at ho; have HO444 := am (ho); replace HO_1 := am (Kd.V_afterv (ok := (fun k_ => (P1_ k_ ∨ w.heap.size ≤ k_) ∧ some k_ ≠ (u437001 : Value).ownBlock ∧ k_ ≠ gb435 ∧ k_ ≠ gb436 ∧ k_ ≠ g)) zq109 hg hat); replace HO_437001 := am (Kd.R_after (ok := (fun k_ => (w.heap.size ≤ k_))) (pRq6 HO_437001) hg hat); replace BK435 := am (blk_grown (g := gb435) (o := .cells #[.int .i64 0, .slice none 0 0] 34 (0, 0)) (pKq6 BK435) hg (Kd.R_ne HO_7.out BK435.out zq36)); replace BK436 := am (blk_grown (g := gb436) (o := .cells #[.int .i64 (l1.length : Int), u437001] 34 (0, 0)) (pKq6 BK436) hg (Kd.R_ne HO_7.out BK436.out zq36)); replace HB := am (below_weaken zq3 HL.out hb); replace HI0 := am (IsS51.grown zq0 hg (IsS51.own_ne HI0.out HO_7.out zq36)); replace HK := am (KeepBut.trans zq8 (KeepBut.of_grown hg g) (Kd.R_base2 HO_7.out)); clear HO_7; clear ho hb hg hat)); try go_wp2_with (first | ((with_reducible refine gate_builtin (b := .append) (xs := #[.tmp 37, .tmp 39]) rfl ?_); at_builtin; refine Kd.R_append (Kd.int .i64) w.heap.size rfl (.tmp 37) (.tmp 39) 24 3 (.int .i64 0) 8 rfl Try.underlying24 info3 rfl zq36 zq62 u7 x7_2 x8_2 [.int .i64 x8_2] (fun k_ => (w.heap.size ≤ k_) ∧ some k_ ≠ (u437001 : Value).ownBlock) (fun _ => False) rfl rfl ?aP (fun _ hk => hk.elim) ?aF ?aO (Below.refl _ _) ?aS ?aL ?_; (case aP => exact rfl); (case aF => exact zq140); (case aO => exact (pRq6 HO_7)); (case aS => exact zq149); (case aL => have := LMc18.out; omega); intro v443 w20 ho hb hg hat; rw [← Ny442.out] at ho; have HO444 := am (ho); replace HO_1 := am (Kd.V_afterv (ok := (fun k_ => (P1_ k_ ∨ w.heap.size ≤ k_) ∧ some k_ ≠ (u437001 : Value).ownBlock ∧ k_ ≠ gb435 ∧ k_ ≠ gb436 ∧ k_ ≠ g)) zq109 hg hat); replace HO_437001 := am (Kd.R_after (ok := (fun k_ => (w.heap.size ≤ k_))) (pRq6 HO_437001) hg hat); replace BK435 := am (blk_grown (g := gb435) (o := .cells #[.int .i64 0, .slice none 0 0] 34 (0, 0)) (pKq6 BK435) hg (Kd.R_ne HO_7.out BK435.out zq36)); replace BK436 := am (blk_grown (g := gb436) (o := .cells #[.int .i64 (l1.length : Int), u437001] 34 (0, 0)) (pKq6 BK436) hg (Kd.R_ne HO_7.out BK436.out zq36)); replace HB := am (below_weaken zq3 HL.out hb); replace HI0 := am (IsS51.grown zq0 hg (IsS51.own_ne HI0.out HO_7.out zq36)); replace HK := am (KeepBut.trans zq8 (KeepBut.of_grown hg g) (Kd.R_base2 HO_7.out)); clear HO_7; clear ho hb hg hat)))
            go_roundg k2
            case measure => have := HK1.out; have := HK2.out; omega
            case rel => exact ⟨(y442), (ji15), (by first | rfl | (simp; done) | (simp only [← hji15] <;> (first | rfl | simp)) | (simp [*]; done)), H', ⟨zq76⟩, ⟨by (with_reducible repeat (first | apply Kd.V_alloc | apply Kd.V_drewN | apply Kd.V_drew)); exact Kd.V_mono HO_1.out (fun _ hk => ⟨hk.1.1, ⟨hk.2, ⟨hk.1.2.1, ⟨hk.1.2.2.1, ⟨hk.1.2.2.2.1, hk.1.2.2.2.2⟩⟩⟩⟩⟩)⟩, ⟨by (with_reducible repeat (first | apply Kd.R_alloc | apply Kd.R_drewN | apply Kd.R_drew)); exact HO444.out⟩, ⟨by (with_reducible repeat (first | apply Kd.R_alloc | apply Kd.R_drewN | apply Kd.R_drew)); exact HO_437001.out⟩, ⟨zq93⟩, ⟨zq92⟩, ⟨zq0⟩, ⟨zq8⟩, ⟨zq3⟩⟩
           ·rw [if_neg c18] at H
            exact absurd H zq66
          ·rw [if_neg c17] at H
           have c17b0 : decide ((rd x1_1 (ji15)) < (rd x1_1 x8_2)) = false := decide_eq_false c17
           clear c17
           have H' := am H
           clear H
           obtain ⟨Ao21, co21, eo21⟩ := Kd.V_slice HO_1.out
           subst eo21
           have p440 : 0 ≤ (x8_2 : Int) := of_decide_eq_true zq9
           have q440 : x8_2 < (x1_1.length : Int) := of_decide_eq_true zq9
           obtain ⟨ad440, e440, hx440_0⟩ := Kd.at_int (Kd.V_reads' HO_1.out).2.2 x8_2 p440 q440
           cases e440
           replace p440 := eq_true p440
           replace q440 := eq_true q440
           have p441 : 0 ≤ ((ji15) : Int) := of_decide_eq_true zq9
           have q441 : (ji15) < (x1_1.length : Int) := of_decide_eq_true zq9
           obtain ⟨ad441, e441, hx441_0⟩ := Kd.at_int (Kd.V_reads' HO_1.out).2.2 (ji15) p441 q441
           obtain rfl : ad440 = ad441 := (by injection e441)
           replace p441 := eq_true p441
           replace q441 := eq_true q441
           go_wp2
           repeat (go_quiet (fail); try go_wp2)
           go_roundg k2
           case measure => have := HK1.out; have := HK2.out; omega
           case rel => exact ⟨(x7_2), (ji15), (by first | rfl | (simp; done) | (simp only [← hji15] <;> (first | rfl | simp)) | (simp [*]; done)), H', ⟨zq76⟩, ⟨zq122⟩, ⟨by (with_reducible repeat (first | apply Kd.R_alloc | apply Kd.R_drewN | apply Kd.R_drew)); exact HO_7.out⟩, ⟨by (with_reducible repeat (first | apply Kd.R_alloc | apply Kd.R_drewN | apply Kd.R_drew)); exact HO_437001.out⟩, ⟨zq93⟩, ⟨zq92⟩, ⟨zq0⟩, ⟨zq8⟩, ⟨zq3⟩⟩
         ·rw [if_neg c16] at H
          exact absurd H zq66
        ·rw [if_neg c14] at H
         exact absurd H zq66
       ·rw [if_neg c13] at H
        exact absurd H zq66
      ·rw [if_neg c12] at H
       have c12b0 : decide ((wrap64 (x8_2 + 1)) < (x1_1.length : Int)) = false := decide_eq_false c12
       clear c12
       replace H := Option.bind_eq_some_iff.mp H
       obtain ⟨⟨t445, t446, t447⟩, A220, H⟩ := H
       (try dsimp only at H)
       have A22 := am A220
       clear A220
       by_cases c23 : 0 ≤ t445
       ·rw [if_pos c23] at H
        have c23b0 : decide (0 ≤ t445) = true := decide_eq_true c23
        clear c23
        by_cases c24 : t445 < (x7_2.length : Int)
        ·rw [if_pos c24] at H
         have c24b0 : decide (t445 < (x7_2.length : Int)) = true := decide_eq_true c24
         clear c24
         by_cases c25 : x437001_1.length < 17592186044416
         ·rw [if_pos c25] at H
          have LMc25 := am c25
          clear c25
          obtain ⟨y449, hy449⟩ : ∃ y_ : List Int, y_ = (x437001_1 ++ [rd x7_2 t445]) := ⟨_, rfl⟩
          replace H : ((spec_alSwap.f x1_1 (rd x7_2 t445)).bind fun t452 => (spec_l1Cur_leastOf.l0 k2 t452 (wrap64 (x6_1 - 1)) s0_0 t446 t447 (l1.length : Int) y449)) = some (r1, r2, r3, r4) := by first | (rw [hy449]; exact zH) | exact zH
          have Ny449 := am hy449
          clear hy449
          obtain ⟨t452, A26, H⟩ := zS H
          (try dsimp only at H)
          have H' := am H
          clear H
          obtain ⟨Ao27, co27, eo27⟩ := Kd.V_slice HO_1.out
          subst eo27
          obtain ⟨Ao28, co28, eo28⟩ := Kd.R_slice HO_7.out
          subst eo28
          go_wp2_with (first | (go_at_call 45; (with_reducible refine (spec_l1Cur_pick.calls g s0_0 x1001_1 x1002_1 (x7_2.length : Int) t445 t446 t447 w0 _ ?side1 ?side2 A22.out).mono ?_); (case side1 => exact zq0); (case side2 => exact zq3); rintro e w29 ⟨rfl, hi, hb, hk⟩; replace HO_1 := am (Kd.V_mono (Kd.V_keep (Kd.V_mono (ok := fun k_ => (((P1_ k_ ∨ w.heap.size ≤ k_)) ∧ (some k_ ≠ (.slice Ao28 x7_2.length co28 : Value).ownBlock ∧ (some k_ ≠ (u437001 : Value).ownBlock ∧ (k_ ≠ gb435 ∧ (k_ ≠ gb436 ∧ k_ ≠ g)))))) zq122 (fun k_ hk_ => (⟨hk_, hk_.2.2.2.2.2⟩ : _ ∧ k_ ≠ g))) hk (fun _ h => h.2)) (fun _ h => h.1)); replace HO_7 := am (Kd.R_mono (Kd.R_keep (IsS51.apart (show IsS51 w0 _ g s0_0 x1001_1 x1002_1 from zq0) (pRq6 HO_7) zq36) hk (fun _ h => h.2)) (fun _ h => h.1)); replace HO_437001 := am (Kd.R_mono (Kd.R_keep (IsS51.apart (show IsS51 w0 _ g s0_0 x1001_1 x1002_1 from zq0) (pRq6 HO_437001) zq36) hk (fun _ h => h.2)) (fun _ h => h.1)); replace BK435 := am (KeepBut.blk hk (g' := gb435) (o := .cells #[.int .i64 0, .slice none 0 0] 34 (0, 0)) (pKq6 BK435) NB435_0.out zq66); replace BK436 := am (KeepBut.blk hk (g' := gb436) (o := .cells #[.int .i64 (l1.length : Int), u437001] 34 (0, 0)) (pKq6 BK436) NB436_0.out zq66); replace HK := am (KeepBut.trans zq8 hk (.inl rfl)); replace HB := am (hb); replace HI0 := am (hi); (try clear hb hk hi); have p448 : 0 ≤ (t445 : Int) := of_decide_eq_true zq9; have q448 : t445 < (x7_2.length : Int) := of_decide_eq_true zq9; obtain ⟨ad448, e448, hx448_0⟩ := Kd.at_int (Kd.R_reads' HO_7.out).2.2 t445 p448 q448; cases e448; replace p448 := eq_true p448; replace q448 := eq_true q448; have hnb30 := NB436_435.out; have hnc30 := NB435_436.out; have hnb31 := NB436_0.out; have hnc31 := NB0_436.out; have hcz32_0 : w29.cell? ⟨gb436, 0, none⟩ = some (.int .i64 (l1.length : Int)) := (blk_cell BK436.out 0).trans rfl; have hcz32_1 : w29.cell? ⟨gb436, 1, none⟩ = some (u437001) := (blk_cell BK436.out 1).trans rfl; have hfz32_0 := blk_frozen BK436.out 0; have hfz32_1 := blk_frozen BK436.out 1) | ((with_reducible refine gate_builtin (b := .append) (xs := #[.tmp 49, .tmp 51]) rfl ?_); at_builtin; refine Kd.R_append (Kd.int .i64) w.heap.size rfl (.tmp 49) (.tmp 51) 24 3 (.int .i64 0) 8 rfl Try.underlying24 info3 rfl zq36 zq62 u437001 x437001_1 (rd x7_2 t445) [.int .i64 (rd x7_2 t445)] (fun k_ => (w.heap.size ≤ k_) ∧ some k_ ≠ (.slice (some ad448) x7_2.length co28 : Value).ownBlock) (fun _ => False) rfl rfl ?aP (fun _ hk => hk.elim) ?aF ?aO (Below.refl _ _) ?aS ?aL ?_; (case aP => exact rfl); (case aF => exact zq144); (case aO => exact (pRq6 HO_437001)); (case aS => exact zq149); (case aL => have := LMc25.out; omega); intro v450 w33 ho hb hg hat; rw [← Ny449.out] at ho; have HO451 := am (ho); replace HO_1 := am (Kd.V_afterv (ok := (fun k_ => (P1_ k_ ∨ w.heap.size ≤ k_) ∧ some k_ ≠ (.slice (some ad448) x7_2.length co28 : Value).ownBlock ∧ k_ ≠ gb435 ∧ k_ ≠ gb436 ∧ k_ ≠ g)) zq110 hg hat); replace HO_7 := am (Kd.R_after (ok := (fun k_ => (w.heap.size ≤ k_))) (pRq6 HO_7) hg hat); replace BK435 := am (blk_grown (g := gb435) (o := .cells #[.int .i64 0, .slice none 0 0] 34 (0, 0)) (pKq6 BK435) hg (Kd.R_ne HO_437001.out BK435.out zq36)); replace BK436 := am (blk_grown (g := gb436) (o := .cells #[.int .i64 (l1.length : Int), u437001] 34 (0, 0)) (pKq6 BK436) hg (Kd.R_ne HO_437001.out BK436.out zq36)); replace HB := am (below_weaken zq3 HL.out hb); replace HI0 := am (IsS51.grown zq0 hg (IsS51.own_ne HI0.out HO_437001.out zq36)); replace HK := am (KeepBut.trans zq8 (KeepBut.of_grown hg g) (Kd.R_base2 HO_437001.out)); clear HO_437001; clear ho hb hg hat; obtain ⟨Ao34, co34, eo34⟩ := Kd.R_slice HO451.out; subst eo34; have hcz35_0 : w33.cell? ⟨gb436, 0, none⟩ = some (.int .i64 (l1.length : Int)) := (blk_cell BK436.out 0).trans rfl; have hcz35_1 : w33.cell? ⟨gb436, 1, none⟩ = some (u437001) := (blk_cell BK436.out 1).trans rfl; have hfz35_0 := blk_frozen BK436.out 0; have hfz35_1 := blk_frozen BK436.out 1) | (go_at_call 47; (with_reducible refine (spec_alSwap.calls _ _ x1_1 (rd x7_2 t445) t452 _ ?side1 ?side2 A26.out).mono ?_); (case side1 => exact zq73); (case side2 => exact (Kd.V_reads' HO_1.out).2.1); rintro e w36 ⟨v453, rfl, ho0, hb⟩; have HO454 := am (Kd.R_lower (Kd.R_new' (Kd.R_new' (Kd.R_newM (M := fun k_ => (w.heap.size ≤ k_)) ho0 (keep_size (w := w) (g := g) (row := none) zq8) (fun k_ h_ => h_)) (Kd.R_lt zq44)) (Kd.R_lt zq41)) (keep_size (w := w) (g := g) (row := none) zq8)); replace HO_1 := am (Kd.V_elder' zq34 (Kd.R_base ho0) hb); replace HO_7 := am (Kd.R_elder' zq44 (Kd.R_base ho0) hb); replace HO451 := am (Kd.R_elder' zq41 (Kd.R_base ho0) hb); replace BK435 := am (blk_below (g := gb435) (o := .cells #[.int .i64 0, .slice none 0 0] 34 (0, 0)) zq87 hb); replace BK436 := am (blk_below (g := gb436) (o := .cells #[.int .i64 (l1.length : Int), .slice Ao34 y449.length co34] 34 (0, 0)) zq77 hb); replace HK := am (KeepBut.trans zq8 (KeepBut.of_below hb g none) (.inl rfl)); replace HB := am (below_step zq3 hb); replace HI0 := am (IsS51.below (show IsS51 w0 (w33.setCell ⟨gb436, 1, none⟩ (.slice Ao34 y449.length co34)) g s0_0 t446 t447 from zq0) hb); (try clear hb hk ho0)))
          repeat (go_quiet (first | (go_at_call 45; (with_reducible refine (spec_l1Cur_pick.calls g s0_0 x1001_1 x1002_1 (x7_2.length : Int) t445 t446 t447 w0 _ ?side1 ?side2 A22.out).mono ?_); (case side1 => exact zq0); (case side2 => exact zq3); rintro e w29 ⟨rfl, hi, hb, hk⟩; replace HO_1 := am (Kd.V_mono (Kd.V_keep (Kd.V_mono (ok := fun k_ => (((P1_ k_ ∨ w.heap.size ≤ k_)) ∧ (some k_ ≠ (.slice Ao28 x7_2.length co28 : Value).ownBlock ∧ (some k_ ≠ (u437001 : Value).ownBlock ∧ (k_ ≠ gb435 ∧ (k_ ≠ gb436 ∧ k_ ≠ g)))))) zq122 (fun k_ hk_ => (⟨hk_, hk_.2.2.2.2.2⟩ : _ ∧ k_ ≠ g))) hk (fun _ h => h.2)) (fun _ h => h.1)); replace HO_7 := am (Kd.R_mono (Kd.R_keep (IsS51.apart (show IsS51 w0 _ g s0_0 x1001_1 x1002_1 from zq0) (pRq6 HO_7) zq36) hk (fun _ h => h.2)) (fun _ h => h.1)); replace HO_437001 := am (Kd.R_mono (Kd.R_keep (IsS51.apart (show IsS51 w0 _ g s0_0 x1001_1 x1002_1 from zq0) (pRq6 HO_437001) zq36) hk (fun _ h => h.2)) (fun _ h => h.1)); replace BK435 := am (KeepBut.blk hk (g' := gb435) (o := .cells #[.int .i64 0, .slice none 0 0] 34 (0, 0)) (pKq6 BK435) NB435_0.out zq66); replace BK436 := am (KeepBut.blk hk (g' := gb436) (o := .cells #[.int .i64 (l1.length : Int), u437001] 34 (0, 0)) (pKq6 BK436) NB436_0.out zq66); replace HK := am (KeepBut.trans zq8 hk (.inl rfl)); replace HB := am (hb); replace HI0 := am (hi); (try clear hb hk hi); have p448 : 0 ≤ (t445 : Int) := of_decide_eq_true zq9; have q448 : t445 < (x7_2.length : Int) := of_decide_eq_true zq9; obtain ⟨ad448, e448, hx448_0⟩ := Kd.at_int (Kd.R_reads' HO_7.out).2.2 t445 p448 q448; cases e448; replace p448 := eq_true p448; replace q448 := eq_true q448; have hnb30 := NB436_435.out; have hnc30 := NB435_436.out; have hnb31 := NB436_0.out; have hnc31 := NB0_436.out; have hcz32_0 : w29.cell? ⟨gb436, 0, none⟩ = some (.int .i64 (l1.length : Int)) := (blk_cell BK436.out 0).trans rfl; have hcz32_1 : w29.cell? ⟨gb436, 1, none⟩ = some (u437001) := (blk_cell BK436.out 1).trans rfl; have hfz32_0 := blk_frozen BK436.out 0; have hfz32_1 := blk_frozen BK436.out 1) | ((with_reducible refine gate_builtin (b := .append) (xs := #[.tmp 49, .tmp 51]) rfl ?_); at_builtin; refine Kd.R_append (Kd.int .i64) w.heap.size rfl (.tmp 49) (.tmp 51) 24 3 (.int .i64 0) 8 rfl Try.underlying24 info3 rfl zq36 zq62 u437001 x437001_1 (rd x7_2 t445) [.int .i64 (rd x7_2 t445)] (fun k_ => (w.heap.size ≤ k_) ∧ some k_ ≠ (.slice (some ad448) x7_2.length co28 : Value).ownBlock) (fun _ => False) rfl rfl ?aP (fun _ hk => hk.elim) ?aF ?aO (Below.refl _ _) ?aS ?aL ?_; (case aP => exact rfl); (case aF => exact zq144); (case aO => exact (pRq6 HO_437001)); (case aS => exact zq149); (case aL => have := LMc25.out; omega); intro v450 w33 ho hb hg hat; rw [← Ny449.out] at ho; have HO451 := am (ho); replace HO_1 := am (Kd.V_afterv (ok := (fun k_ => (P1_ k_ ∨ w.heap.size ≤ k_) ∧ some k_ ≠ (.slice (some ad448) x7_2.length co28 : Value).ownBlock ∧ k_ ≠ gb435 ∧ k_ ≠ gb436 ∧ k_ ≠ g)) zq110 hg hat); replace HO_7 := am (Kd.R_after (ok := (fun k_ => (w.heap.size ≤ k_))) (pRq6 HO_7) hg hat); replace BK435 := am (blk_grown (g := gb435) (o := .cells #[.int .i64 0, .slice none 0 0] 34 (0, 0)) (pKq6 BK435) hg (Kd.R_ne HO_437001.out BK435.out zq36)); replace BK436 := am (blk_grown (g := gb436) (o := .cells #[.int .i64 (l1.length : Int), u437001] 34 (0, 0)) (pKq6 BK436) hg (Kd.R_ne HO_437001.out BK436.out zq36)); replace HB := am (below_weaken zq3 HL.out hb); replace HI0 := am (IsS51.grown zq0 hg (IsS51.own_ne HI0.out HO_437001.out zq36)); replace HK := am (KeepBut.trans zq8 (KeepBut.of_grown hg g) (Kd.R_base2 HO_437001.out)); clear HO_437001; clear ho hb hg hat; obtain ⟨Ao34, co34, eo34⟩ := Kd.R_slice HO451.out; subst eo34; have hcz35_0 : w33.cell? ⟨gb436, 0, none⟩ = some (.int .i64 (l1.length : Int)) := (blk_cell BK436.out 0).trans rfl; have hcz35_1 : w33.cell? ⟨gb436, 1, none⟩ = some (u437001) := (blk_cell BK436.out 1).trans rfl; have hfz35_0 := blk_frozen BK436.out 0; have hfz35_1 := blk_frozen BK436.out 1) | (go_at_call 47; (with_reducible refine (spec_alSwap.calls _ _ x1_1 (rd x7_2 t445) t452 _ ?side1 ?side2 A26.out).mono ?_); (case side1 => exact zq73); (case side2 => exact (Kd.V_reads' HO_1.out).2.1); rintro e w36 ⟨v453, rfl, ho0, hb⟩; have HO454 := am (Kd.R_lower (Kd.R_new' (Kd.R_new' (Kd.R_newM (M := fun k_ => (w.heap.size ≤ k_)) ho0 (keep_size (w := w) (g := g) (row := none) zq8) (fun k_ h_ => h_)) (Kd.R_lt zq44)) (Kd.R_lt zq41)) (keep_size (w := w) (g := g) (row := none) zq8)); replace HO_1 := am (Kd.V_elder' zq34 (Kd.R_base ho0) hb); replace HO_7 := am (Kd.R_elder' zq44 (Kd.R_base ho0) hb); replace HO451 := am (Kd.R_elder' zq41 (Kd.R_base ho0) hb); replace BK435 := am (blk_below (g := gb435) (o := .cells #[.int .i64 0, .slice none 0 0] 34 (0, 0)) zq87 hb); replace BK436 := am (blk_below (g := gb436) (o := .cells #[.int .i64 (l1.length : Int), .slice Ao34 y449.length co34] 34 (0, 0)) zq77 hb); replace HK := am (KeepBut.trans zq8 (KeepBut.of_below hb g none) (.inl rfl)); replace HB := am (below_step zq3 hb); replace HI0 := am (IsS51.below (show IsS51 w0 (w33.setCell ⟨gb436, 1, none⟩ (.slice Ao34 y449.length co34)) g s0_0 t446 t447 from zq0) hb); (try clear hb hk hi ho0))); try go_wp2_with (first | (go_at_call 45; (with_reducible refine (spec_l1Cur_pick.calls g s0_0 x1001_1 x1002_1 (x7_2.length : Int) t445 t446 t447 w0 _ ?side1 ?side2 A22.out).mono ?_); (case side1 => exact zq0); (case side2 => exact zq3); rintro e w29 ⟨rfl, hi, hb, hk⟩; replace HO_1 := am (Kd.V_mono (Kd.V_keep (Kd.V_mono (ok := fun k_ => (((P1_ k_ ∨ w.heap.size ≤ k_)) ∧ (some k_ ≠ (.slice Ao28 x7_2.length co28 : Value).ownBlock ∧ (some k_ ≠ (u437001 : Value).ownBlock ∧ (k_ ≠ gb435 ∧ (k_ ≠ gb436 ∧ k_ ≠ g)))))) zq122 (fun k_ hk_ => (⟨hk_, hk_.2.2.2.2.2⟩ : _ ∧ k_ ≠ g))) hk (fun _ h => h.2)) (fun _ h => h.1)); replace HO_7 := am (Kd.R_mono (Kd.R_keep (IsS51.apart (show IsS51 w0 _ g s0_0 x1001_1 x1002_1 from zq0) (pRq6 HO_7) zq36) hk (fun _ h => h.2)) (fun _ h => h.1)); replace HO_437001 := am (Kd.R_mono (Kd.R_keep (IsS51.apart (show IsS51 w0 _ g s0_0 x1001_1 x1002_1 from zq0) (pRq6 HO_437001) zq36) hk (fun _ h => h.2)) (fun _ h => h.1)); replace BK435 := am (KeepBut.blk hk (g' := gb435) (o := .cells #[.int .i64 0, .slice none 0 0] 34 (0, 0)) (pKq6 BK435) NB435_0.out zq66); replace BK436 := am (KeepBut.blk hk (g' := gb436) (o := .cells #[.int .i64 (l1.length : Int), u437001] 34 (0, 0)) (pKq6 BK436) NB436_0.out zq66); replace HK := am (KeepBut.trans zq8 hk (.inl rfl)); replace HB := am (hb); replace HI0 := am (hi); (try clear hb hk hi); have p448 : 0 ≤ (t445 : Int) := of_decide_eq_true zq9; have q448 : t445 < (x7_2.length : Int) := of_decide_eq_true zq9; obtain ⟨ad448, e448, hx448_0⟩ := Kd.at_int (Kd.R_reads' HO_7.out).2.2 t445 p448 q448; cases e448; replace p448 := eq_true p448; replace q448 := eq_true q448; have hnb30 := NB436_435.out; have hnc30 := NB435_436.out; have hnb31 := NB436_0.out; have hnc31 := NB0_436.out; have hcz32_0 : w29.cell? ⟨gb436, 0, none⟩ = some (.int .i64 (l1.length : Int)) := (blk_cell BK436.out 0).trans rfl; have hcz32_1 : w29.cell? ⟨gb436, 1, none⟩ = some (u437001) := (blk_cell BK436.out 1).trans rfl; have hfz32_0 := blk_frozen BK436.out 0; have hfz32_1 := blk_frozen BK436.out 1) | ((with_reducible refine gate_builtin (b := .append) (xs := #[.tmp 49, .tmp 51]) rfl ?_); at_builtin; refine Kd.R_append (Kd.int .i64) w.heap.size rfl (.tmp 49) (.tmp 51) 24 3 (.int .i64 0) 8 rfl Try.underlying24 info3 rfl zq36 zq62 u437001 x437001_1 (rd x7_2 t445) [.int .i64 (rd x7_2 t445)] (fun k_ => (w.heap.size ≤ k_) ∧ some k_ ≠ (.slice (some ad448) x7_2.length co28 : Value).ownBlock) (fun _ => False) rfl rfl ?aP (fun _ hk => hk.elim) ?aF ?aO (Below.refl _ _) ?aS ?aL ?_; (case aP => exact rfl); (case aF => exact zq144); (case aO => exact (pRq6 HO_437001)); (case aS => exact zq149); (case aL => have := LMc25.out; omega); intro v450 w33 ho hb hg hat; rw [← Ny449.out] at ho; have HO451 := am (ho); replace HO_1 := am (Kd.V_afterv (ok := (fun k_ => (P1_ k_ ∨ w.heap.size ≤ k_) ∧ some k_ ≠ (.slice (some ad448) x7_2.length co28 : Value).ownBlock ∧ k_ ≠ gb435 ∧ k_ ≠ gb436 ∧ k_ ≠ g)) zq110 hg hat); replace HO_7 := am (Kd.R_after (ok := (fun k_ => (w.heap.size ≤ k_))) (pRq6 HO_7) hg hat); replace BK435 := am (blk_grown (g := gb435) (o := .cells #[.int .i64 0, .slice none 0 0] 34 (0, 0)) (pKq6 BK435) hg (Kd.R_ne HO_437001.out BK435.out zq36)); replace BK436 := am (blk_grown (g := gb436) (o := .cells #[.int .i64 (l1.length : Int), u437001] 34 (0, 0)) (pKq6 BK436) hg (Kd.R_ne HO_437001.out BK436.out zq36)); replace HB := am (below_weaken zq3 HL.out hb); replace HI0 := am (IsS51.grown zq0 hg (IsS51.own_ne HI0.out HO_437001.out zq36)); replace HK := am (KeepBut.trans zq8 (KeepBut.of_grown hg g) (Kd.R_base2 HO_437001.out)); clear HO_437001; clear ho hb hg hat; obtain ⟨Ao34, co34, eo34⟩ := Kd.R_slice HO451.out; subst eo34; have hcz35_0 : w33.cell? ⟨gb436, 0, none⟩ = some (.int .i64 (l1.length : Int)) := (blk_cell BK436.out 0).trans rfl; have hcz35_1 : w33.cell? ⟨gb436, 1, none⟩ = some (u437001) := (blk_cell BK436.out 1).trans rfl; have hfz35_0 := blk_frozen BK436.out 0; have hfz35_1 := blk_frozen BK436.out 1) | (go_at_call 47; (with_reducible refine (spec_alSwap.calls _ _ x1_1 (rd x7_2 t445) t452 _ ?side1 ?side2 A26.out).mono ?_); (case side1 => exact zq73); (case side2 => exact (Kd.V_reads' HO_1.out).2.1); rintro e w36 ⟨v453, rfl, ho0, hb⟩; have HO454 := am (Kd.R_lower (Kd.R_new' (Kd.R_new' (Kd.R_newM (M := fun k_ => (w.heap.size ≤ k_)) ho0 (keep_size (w := w) (g := g) (row := none) zq8) (fun k_ h_ => h_)) (Kd.R_lt zq44)) (Kd.R_lt zq41)) (keep_size (w := w) (g := g) (row := none) zq8)); replace HO_1 := am (Kd.V_elder' zq34 (Kd.R_base ho0) hb); replace HO_7 := am (Kd.R_elder' zq44 (Kd.R_base ho0) hb); replace HO451 := am (Kd.R_elder' zq41 (Kd.R_base ho0) hb); replace BK435 := am (blk_below (g := gb435) (o := .cells #[.int .i64 0, .slice none 0 0] 34 (0, 0)) zq87 hb); replace BK436 := am (blk_below (g := gb436) (o := .cells #[.int .i64 (l1.length : Int), .slice Ao34 y449.length co34] 34 (0, 0)) zq77 hb); replace HK := am (KeepBut.trans zq8 (KeepBut.of_below hb g none) (.inl rfl)); replace HB := am (below_step zq3 hb); replace HI0 := am (IsS51.below (show IsS51 w0 (w33.setCell ⟨gb436, 1, none⟩ (.slice Ao34 y449.length co34)) g s0_0 t446 t447 from zq0) hb); (try clear hb hk ho0))))
          go_roundg k2
          case measure => have := HK1.out; have := HK2.out; omega
          case rel => exact ⟨(t452), (wrap64 (x6_1 - 1)), (t446), (t447), (y449), (.slice Ao34 y449.length co34), zq13, H', ⟨zq76⟩, ⟨Kd.V_mono (Kd.R_V (by (with_reducible repeat (first | apply Kd.R_alloc | apply Kd.R_drewN | apply Kd.R_drew)); exact (IsS51.apart HI0.out (Kd.R_types (Kd.R_types HO454.out BK435.out zq36) BK436.out zq36) zq36))) (fun k_ hk => by exact ⟨(.inr (hk.1.1.1.1.1.1)), ⟨hk.1.1.1.2, ⟨hk.1.1.2, ⟨hk.1.2, hk.2⟩⟩⟩⟩)⟩, ⟨by (with_reducible repeat (first | apply Kd.R_alloc | apply Kd.R_drewN | apply Kd.R_drew)); exact Kd.R_mono HO451.out (fun _ hk => hk.1.1)⟩, ⟨zq93⟩, ⟨zq92⟩, ⟨zq0⟩, ⟨zq8⟩, ⟨zq3⟩⟩
         ·rw [if_neg c25] at H
          exact absurd H zq66
        ·rw [if_neg c24] at H
         exact absurd H zq66
       ·rw [if_neg c23] at H
        exact absurd H zq66
   ·rw [if_neg c11] at H
    have c11b0 : decide (0 < x6_1) = false := decide_eq_false c11
    clear c11
    simp only [Option.some.injEq, Prod.mk.injEq] at H
    obtain ⟨rfl, rfl, rfl, rfl⟩ := H
    have hnb37 := NB436_435.out
    have hnc37 := NB435_436.out
    have hnb38 := NB436_0.out
    have hnc38 := NB0_436.out
    have hcz39_0 : wr.cell? ⟨gb436, 0, none⟩ = some (.int .i64 (l1.length : Int)) := (blk_cell BK436.out 0).trans rfl
    have hcz39_1 : wr.cell? ⟨gb436, 1, none⟩ = some (u437001) := (blk_cell BK436.out 1).trans rfl
    have hfz39_0 := blk_frozen BK436.out 0
    have hfz39_1 := blk_frozen BK436.out 1
    have hnb40 := NB435_0.out
    have hnc40 := NB0_435.out
    have hcz41_0 : wr.cell? ⟨gb435, 0, none⟩ = some (.int .i64 0) := (blk_cell BK435.out 0).trans rfl
    have hcz41_1 : wr.cell? ⟨gb435, 1, none⟩ = some (.slice none 0 0) := (blk_cell BK435.out 1).trans rfl
    have hfz41_0 := blk_frozen BK435.out 0
    have hfz41_1 := blk_frozen BK435.out 1
    obtain ⟨Ao42, co42, eo42⟩ := Kd.R_slice HO_437001.out
    subst eo42
    go_wp2
    repeat (go_quiet (fail); try go_wp2)
    refine bodyPost_ret (results_cell_row rfl _ _ gb435 34 #[.int .i64 (l1.length : Int), .slice Ao42 x437001_1.length co42] (0, 0) _ rfl (by (with_reducible repeat (first | refine blk_drewN ?_ _ | refine blk_drew ?_ | refine blk_alloc ?_ _)); refine blk_put (cs := #[.int .i64 (l1.length : Int), .slice none 0 0]) ?_ 1 _ rfl; (with_reducible repeat (first | refine blk_drewN ?_ _ | refine blk_drew ?_ | refine blk_alloc ?_ _)); refine blk_put (cs := #[.int .i64 0, .slice none 0 0]) ?_ 0 _ rfl; (with_reducible repeat (first | refine blk_drewN ?_ _ | refine blk_drew ?_ | refine blk_alloc ?_ _)); exact BK435.out) Try.underlying34 rfl zq26) rfl ?_
    exact ⟨_, zq11, by (with_reducible repeat (first | apply Kd.R_alloc | apply Kd.R_drewN | apply Kd.R_drew)); exact Kd.R_mono (Kd.R_far (p := ⟨gb435, 1, none⟩) (Kd.R_far (p := ⟨gb435, 0, none⟩) (Kd.R_types HO_437001.out BK435.out zq36) (fun _ hk => hk.2) (.int .i64 (l1.length : Int))) (fun _ hk => hk.2) (.slice Ao42 x437001_1.length co42)) (fun _ hk => hk.1), zq0, zq3, zq8⟩
/-! ### spec_l1Cur_least: function 48 -/
def spec_l1Cur_least.f (k : Nat) (s0_0 : List Int) (s0_1 : Int) (s0_2 : Int) (a1 : Int) : Option (Int × List Int × Int × Int) := (spec_l1Cur_one.f s0_0 s0_1 s0_2 10).bind fun bt456 => (if bt456.1 = true then ((spec_l1Cur_ladder.f k s0_0 bt456.2.1 bt456.2.2).bind fun bt459 => (some (bt459.1, bt459.2.1, bt459.2.2.1, bt459.2.2.2))) else ((spec_l1Cur_pick.f s0_0 bt456.2.1 bt456.2.2 (wrap64 (a1 - 1))).bind fun bt465 => ((spec_l1Cur_sureOrder.f k s0_0 bt465.2.1 bt465.2.2 (wrap64 (2 + bt465.1))).bind fun bt468 => ((spec_l1Cur_leastOf.f k s0_0 bt468.2.1 bt468.2.2 bt468.1).bind fun bt473 => (some (bt473.1, bt473.2.1, bt473.2.2.1, bt473.2.2.2))))))
theorem spec_l1Cur_least.mono : ∀ a0 a1 a2 a3 k, LeO (spec_l1Cur_least.f k a0 a1 a2 a3) (spec_l1Cur_least.f (k + 1) a0 a1 a2 a3) := by
 intro a0 a1 a2 a3 k
 unfold spec_l1Cur_least.f
 repeat' first | (with_reducible first | exact spec_l1Cur_ladder.mono _ _ _ _ | exact spec_l1Cur_leastOf.mono _ _ _ _ _ | exact spec_l1Cur_sureOrder.mono _ _ _ _ _ | exact LeO.refl _ | exact LeO.none _ | refine LeO.ite ?_ ?_ | refine LeO.bind ?_ (fun _ => ?_))
theorem spec_l1Cur_least.calls (k : Nat) (g : Nat) (s0_0 : List Int) (s0_1 : Int) (s0_2 : Int) (a1 : Int) (r1 : Int) (r2 : List Int) (r3 : Int) (r4 : Int) (w0 w : World) (hI : IsS51 w0 w g s0_0 s0_1 s0_2) (hB : Below w0.heap.size w0 w) (h : spec_l1Cur_least.f k s0_0 s0_1 s0_2 a1 = some (r1, r2, r3, r4)) :
  Calls Try.prog 48 #[.pointer (some ⟨g, 0, none⟩), .int .i64 a1] w fun e w' => ∃ v1_ : Value, e = .returned (.agg #[.int .i64 r1, v1_]) ∧ Kd.R (Kd.int .i64) 3 w' w.heap.size (fun _ => True) v1_ r2 ∧ IsS51 w0 w' g s0_0 r3 r4 ∧ Below w0.heap.size w0 w' ∧ KeepBut w w' g none := by
 have hu34 := Try.underlying34
 have HI0 := am hI
 have HK := am (KeepBut.refl w g none)
 have HL := am hB.size
 clear hI
 have HW0 := am hB.size
 have HB := am hB
 clear hB
 have H : ((spec_l1Cur_one.f s0_0 s0_1 s0_2 10).bind fun bt456 => (if bt456.1 = true then ((spec_l1Cur_ladder.f k s0_0 bt456.2.1 bt456.2.2).bind fun bt459 => (some (bt459.1, bt459.2.1, bt459.2.2.1, bt459.2.2.2))) else ((spec_l1Cur_pick.f s0_0 bt456.2.1 bt456.2.2 (wrap64 (a1 - 1))).bind fun bt465 => ((spec_l1Cur_sureOrder.f k s0_0 bt465.2.1 bt465.2.2 (wrap64 (2 + bt465.1))).bind fun bt468 => ((spec_l1Cur_leastOf.f k s0_0 bt468.2.1 bt468.2.2 bt468.1).bind fun bt473 => (some (bt473.1, bt473.2.1, bt473.2.2.1, bt473.2.2.2))))))) = some (r1, r2, r3, r4) := h
 clear h
 replace H := Option.bind_eq_some_iff.mp H
 obtain ⟨⟨t456, t457, t458⟩, A30, H⟩ := H
 (try dsimp only at H)
 have A3 := am A30
 clear A30
 by_cases c4 : t456 = true
 ·subst c4
  rw [if_pos rfl] at H
  replace H := Option.bind_eq_some_iff.mp H
  obtain ⟨⟨t459, t460, t463, t464⟩, A50, H⟩ := H
  (try dsimp only at H)
  have A5 := am A50
  clear A50
  simp only [Option.some.injEq, Prod.mk.injEq] at H
  obtain ⟨rfl, rfl, rfl, rfl⟩ := H
  go_enter Try.func48, Try.ntmps48
  go_wp2_with (first | ((with_reducible refine gate_dst (N := 4) rfl ?_); refine zE 4 (cs := #[.int .i64 0, .slice none 0 0]) 34 ?_; intro gb455 hg w6 hbox hb; have BK455 := am (hbox); have GW455 := am ((zq47 : w.heap.size ≤ gb455)); have GE455 := am ((Nat.le_trans HW0.out (zq47 : w.heap.size ≤ gb455) : w0.heap.size ≤ gb455)); have NB0_455 := am ((zq68 : g ≠ gb455)); have NB455_0 := am ((zq69 : gb455 ≠ g)); replace HK := am (KeepBut.trans zq4 (KeepBut.of_below hb g none) (.inl rfl)); replace HB := am (below_step zq5 hb); replace HI0 := am (IsS51.below zq2 hb); clear hb hbox hg) | ((with_reducible refine gate_callee (f := 54) rfl ?_); refine goesL_ (some 6) rfl rfl Try.func54 zq26 rfl #[.pointer (some ⟨g, 0, none⟩), .int .i64 10] rfl zq1 ?_; (with_reducible refine (spec_l1Cur_one.calls g s0_0 s0_1 s0_2 10 true t457 t458 w0 _ ?side1 ?side2 A3.out).mono ?_); (case side1 => exact zq0); (case side2 => exact zq3); rintro e w7 ⟨rfl, hi, hb, hk⟩; refine ⟨_, rfl, ?_⟩; replace BK455 := am (KeepBut.blk hk (g' := gb455) (o := .cells #[.int .i64 0, .slice none 0 0] 34 (0, 0)) (pKq6 BK455) NB455_0.out zq66); replace HK := am (KeepBut.trans zq27 hk (.inl rfl)); replace HB := am (hb); replace HI0 := am (hi); (try clear hb hk hi)) | ((with_reducible refine gate_callee (f := 70) rfl ?_); refine goesL_ (some 8) rfl rfl Try.func70 zq26 rfl #[.pointer (some ⟨g, 0, none⟩)] rfl zq1 ?_; (with_reducible refine (spec_l1Cur_ladder.calls k g s0_0 t457 t458 t459 t460 t463 t464 w0 _ ?side1 ?side2 A5.out).mono ?_); (case side1 => exact zq0); (case side2 => exact zq3); rintro e w8 ⟨v461, rfl, ho0, hi, hb, hk⟩; refine ⟨_, rfl, ?_⟩; have HO462 := am (Kd.R_lower ho0 (keep_size (w := w) (g := g) (row := none) zq27)); replace BK455 := am (KeepBut.blk hk (g' := gb455) (o := .cells #[.int .i64 0, .slice none 0 0] 34 (0, 0)) (pKq6 BK455) NB455_0.out zq66); replace HK := am (KeepBut.trans zq27 hk (.inl rfl)); replace HB := am (hb); replace HI0 := am (hi); (try clear hb hk hi ho0); have hnb9 := NB455_0.out; have hnc9 := NB0_455.out; have hcz10_0 : w8.cell? ⟨gb455, 0, none⟩ = some (.int .i64 0) := (blk_cell BK455.out 0).trans rfl; have hcz10_1 : w8.cell? ⟨gb455, 1, none⟩ = some (.slice none 0 0) := (blk_cell BK455.out 1).trans rfl; have hfz10_0 := blk_frozen BK455.out 0; have hfz10_1 := blk_frozen BK455.out 1; obtain ⟨Ao11, co11, eo11⟩ := Kd.R_slice HO462.out; subst eo11))
  refine bodyPost_ret (results_cell_row rfl _ _ gb455 34 #[.int .i64 t459, .slice Ao11 t460.length co11] (0, 0) _ rfl (by (with_reducible repeat (first | refine blk_drewN ?_ _ | refine blk_drew ?_ | refine blk_alloc ?_ _)); refine blk_put (cs := #[.int .i64 t459, .slice none 0 0]) ?_ 1 _ rfl; (with_reducible repeat (first | refine blk_drewN ?_ _ | refine blk_drew ?_ | refine blk_alloc ?_ _)); refine blk_put (cs := #[.int .i64 0, .slice none 0 0]) ?_ 0 _ rfl; (with_reducible repeat (first | refine blk_drewN ?_ _ | refine blk_drew ?_ | refine blk_alloc ?_ _)); exact BK455.out) Try.underlying34 rfl zq26) rfl ?_
  exact ⟨_, zq11, by (with_reducible repeat (first | apply Kd.R_alloc | apply Kd.R_drewN | apply Kd.R_drew)); exact Kd.R_mono (Kd.R_far (p := ⟨gb455, 1, none⟩) (Kd.R_far (p := ⟨gb455, 0, none⟩) (Kd.R_types HO462.out BK455.out zq36) (fun _ hk => hk.2) (.int .i64 t459)) (fun _ hk => hk.2) (.slice Ao11 t460.length co11)) (fun _ hk => trivial), zq0, zq3, zq27⟩
 ·replace c4 := Bool.eq_false_iff.mpr c4
  subst c4
  rw [if_neg (show ¬ (false = true) by decide)] at H
  replace H := Option.bind_eq_some_iff.mp H
  obtain ⟨⟨t465, t466, t467⟩, A120, H⟩ := H
  (try dsimp only at H)
  have A12 := am A120
  clear A120
  replace H := Option.bind_eq_some_iff.mp H
  obtain ⟨⟨t468, t471, t472⟩, A130, H⟩ := H
  (try dsimp only at H)
  have A13 := am A130
  clear A130
  replace H := Option.bind_eq_some_iff.mp H
  obtain ⟨⟨t473, t474, t477, t478⟩, A140, H⟩ := H
  (try dsimp only at H)
  have A14 := am A140
  clear A140
  simp only [Option.some.injEq, Prod.mk.injEq] at H
  obtain ⟨rfl, rfl, rfl, rfl⟩ := H
  go_enter Try.func48, Try.ntmps48
  go_wp2_with (first | ((with_reducible refine gate_dst (N := 4) rfl ?_); refine zE 4 (cs := #[.int .i64 0, .slice none 0 0]) 34 ?_; intro gb455 hg w15 hbox hb; have BK455 := am (hbox); have GW455 := am ((zq47 : w.heap.size ≤ gb455)); have GE455 := am ((Nat.le_trans HW0.out (zq47 : w.heap.size ≤ gb455) : w0.heap.size ≤ gb455)); have NB0_455 := am ((zq68 : g ≠ gb455)); have NB455_0 := am ((zq69 : gb455 ≠ g)); replace HK := am (KeepBut.trans zq4 (KeepBut.of_below hb g none) (.inl rfl)); replace HB := am (below_step zq5 hb); replace HI0 := am (IsS51.below zq2 hb); clear hb hbox hg) | ((with_reducible refine gate_callee (f := 54) rfl ?_); refine goesL_ (some 6) rfl rfl Try.func54 zq26 rfl #[.pointer (some ⟨g, 0, none⟩), .int .i64 10] rfl zq1 ?_; (with_reducible refine (spec_l1Cur_one.calls g s0_0 s0_1 s0_2 10 false t457 t458 w0 _ ?side1 ?side2 A3.out).mono ?_); (case side1 => exact zq0); (case side2 => exact zq3); rintro e w16 ⟨rfl, hi, hb, hk⟩; refine ⟨_, rfl, ?_⟩; replace BK455 := am (KeepBut.blk hk (g' := gb455) (o := .cells #[.int .i64 0, .slice none 0 0] 34 (0, 0)) (pKq6 BK455) NB455_0.out zq66); replace HK := am (KeepBut.trans zq27 hk (.inl rfl)); replace HB := am (hb); replace HI0 := am (hi); (try clear hb hk hi)) | ((with_reducible refine gate_callee (f := 45) rfl ?_); refine goesL_ (some 14) rfl rfl Try.func45 zq26 rfl #[.pointer (some ⟨g, 0, none⟩), .int .i64 (wrap64 (a1 - 1))] rfl zq1 ?_; (with_reducible refine (spec_l1Cur_pick.calls g s0_0 t457 t458 (wrap64 (a1 - 1)) t465 t466 t467 w0 _ ?side1 ?side2 A12.out).mono ?_); (case side1 => exact zq0); (case side2 => exact zq3); rintro e w17 ⟨rfl, hi, hb, hk⟩; refine ⟨_, rfl, ?_⟩; replace BK455 := am (KeepBut.blk hk (g' := gb455) (o := .cells #[.int .i64 0, .slice none 0 0] 34 (0, 0)) (pKq6 BK455) NB455_0.out zq66); replace HK := am (KeepBut.trans zq27 hk (.inl rfl)); replace HB := am (hb); replace HI0 := am (hi); (try clear hb hk hi)) | ((with_reducible refine gate_callee (f := 56) rfl ?_); refine goesL_ (some 16) rfl rfl Try.func56 zq26 rfl #[.pointer (some ⟨g, 0, none⟩), .int .i64 (wrap64 (2 + t465))] rfl zq1 ?_; (with_reducible refine (spec_l1Cur_sureOrder.calls k g s0_0 t466 t467 (wrap64 (2 + t465)) t468 t471 t472 w0 _ ?side1 ?side2 A13.out).mono ?_); (case side1 => exact zq0); (case side2 => exact zq3); rintro e w18 ⟨v469, rfl, ho0, hi, hb, hk⟩; refine ⟨_, rfl, ?_⟩; have HO470 := am (Kd.R_lower ho0 (keep_size (w := w) (g := g) (row := none) zq27)); replace BK455 := am (KeepBut.blk hk (g' := gb455) (o := .cells #[.int .i64 0, .slice none 0 0] 34 (0, 0)) (pKq6 BK455) NB455_0.out zq66); replace HK := am (KeepBut.trans zq27 hk (.inl rfl)); replace HB := am (hb); replace HI0 := am (hi); (try clear hb hk hi ho0); obtain ⟨Ao19, co19, eo19⟩ := Kd.R_slice HO470.out; subst eo19) | ((with_reducible refine gate_callee (f := 71) rfl ?_); refine goesL_ (some 17) rfl rfl Try.func71 zq26 rfl #[.pointer (some ⟨g, 0, none⟩), .slice Ao19 t468.length co19] rfl zq1 ?_; (with_reducible refine (spec_l1Cur_leastOf.calls k g s0_0 t471 t472 (fun k_ => some k_ = (.slice Ao19 t468.length co19 : Value).ownBlock) _ _ t468 t473 t474 t477 t478 w0 _ ?side1 ?side2 ?side3 A14.out).mono ?_); (case side1 => exact zq0); (case side2 => exact zq3); (case side3 => exact Kd.V_mono (Kd.R_V (Kd.R_tight rfl (IsS51.apart HI0.out (Kd.R_types (HO470.out) BK455.out zq36) zq36))) (fun k_ hk_ => ⟨hk_, ((IsS51.apart HI0.out (Kd.R_types (HO470.out) BK455.out zq36) zq36).1 k_ hk_.symm).2⟩)); rintro e w20 ⟨v475, rfl, ho0, hi, hb, hk⟩; refine ⟨_, rfl, ?_⟩; have HO476 := am (Kd.R_lower (Kd.R_new' (Kd.R_mono (ok' := fun k_ => True) ho0 (fun _ hk_ => trivial)) (Kd.R_lt (pRq6 HO470))) (keep_size (w := w) (g := g) (row := none) zq27)); replace BK455 := am (KeepBut.blk hk (g' := gb455) (o := .cells #[.int .i64 0, .slice none 0 0] 34 (0, 0)) (pKq6 BK455) NB455_0.out zq66); replace HO470 := am (Kd.R_mono (Kd.R_told (Kd.R_oldK (IsS51.apart (show IsS51 w0 _ g s0_0 t471 t472 from zq0) (pRq6 HO470) zq36) hk) (Kd.R_base ho0)) (fun _ h_ => h_.1)); replace HK := am (KeepBut.trans zq27 hk (.inl rfl)); replace HB := am (hb); replace HI0 := am (hi); (try clear hb hk hi ho0); have hnb21 := NB455_0.out; have hnc21 := NB0_455.out; have hcz22_0 : w20.cell? ⟨gb455, 0, none⟩ = some (.int .i64 0) := (blk_cell BK455.out 0).trans rfl; have hcz22_1 : w20.cell? ⟨gb455, 1, none⟩ = some (.slice none 0 0) := (blk_cell BK455.out 1).trans rfl; have hfz22_0 := blk_frozen BK455.out 0; have hfz22_1 := blk_frozen BK455.out 1; obtain ⟨Ao23, co23, eo23⟩ := Kd.R_slice HO476.out; subst eo23))
  refine bodyPost_ret (results_cell_row rfl _ _ gb455 34 #[.int .i64 t473, .slice Ao23 t474.length co23] (0, 0) _ rfl (by (with_reducible repeat (first | refine blk_drewN ?_ _ | refine blk_drew ?_ | refine blk_alloc ?_ _)); refine blk_put (cs := #[.int .i64 t473, .slice none 0 0]) ?_ 1 _ rfl; (with_reducible repeat (first | refine blk_drewN ?_ _ | refine blk_drew ?_ | refine blk_alloc ?_ _)); refine blk_put (cs := #[.int .i64 0, .slice none 0 0]) ?_ 0 _ rfl; (with_reducible repeat (first | refine blk_drewN ?_ _ | refine blk_drew ?_ | refine blk_alloc ?_ _)); exact BK455.out) Try.underlying34 rfl zq26) rfl ?_
  exact ⟨_, zq11, by (with_reducible repeat (first | apply Kd.R_alloc | apply Kd.R_drewN | apply Kd.R_drew)); exact Kd.R_mono (Kd.R_far (p := ⟨gb455, 1, none⟩) (Kd.R_far (p := ⟨gb455, 0, none⟩) (Kd.R_types HO476.out BK455.out zq36) (fun _ hk => hk.2) (.int .i64 t473)) (fun _ hk => hk.2) (.slice Ao23 t474.length co23)) (fun _ hk => trivial), zq0, zq3, zq27⟩
/-! ### spec_DrawRankOfLeast: function 22 -/
def spec_DrawRankOfLeast.f (k : Nat) (l0 : List Int) : Option (Int × List Int) := (spec_l1Cur_least.f k l0 0 0 6).bind fun bt481 => (some (bt481.1, bt481.2.1))
theorem spec_DrawRankOfLeast.mono : ∀ a0 k, LeO (spec_DrawRankOfLeast.f k a0) (spec_DrawRankOfLeast.f (k + 1) a0) := by
 intro a0 k
 unfold spec_DrawRankOfLeast.f
 repeat' first | (with_reducible first | exact spec_l1Cur_least.mono _ _ _ _ _ | exact LeO.refl _ | exact LeO.none _ | refine LeO.ite ?_ ?_ | refine LeO.bind ?_ (fun _ => ?_))
theorem spec_DrawRankOfLeast.calls (k : Nat) (A0 : Option Addr) (c0 : Nat) (l0 : List Int) (r1 : Int) (r2 : List Int) (w : World) (hr0 : Kd.C (Kd.int .u8) w A0 l0.length l0) (hc0 : l0.length ≤ c0) (h : spec_DrawRankOfLeast.f k l0 = some (r1, r2)) :
  Calls Try.prog 22 #[.slice A0 l0.length c0] w fun e w' => ∃ v1_ : Value, e = .returned (.agg #[.int .i64 r1, v1_]) ∧ Kd.R (Kd.int .i64) 3 w' w.heap.size (fun _ => True) v1_ r2 ∧ Below w.heap.size w w' := by
 have hu34 := Try.underlying34
 have hu51 := Try.underlying51
 have HR0 := am hr0
 have HC0 := am hc0
 clear hr0 hc0
 have HB := am (Below.refl w.heap.size w)
 have H : ((spec_l1Cur_least.f k l0 0 0 6).bind fun bt481 => (some (bt481.1, bt481.2.1))) = some (r1, r2) := h
 clear h
 replace H := Option.bind_eq_some_iff.mp H
 obtain ⟨⟨t481, t482, t485, t486⟩, A20, H⟩ := H
 (try dsimp only at H)
 have A2 := am A20
 clear A20
 simp only [Option.some.injEq, Prod.mk.injEq] at H
 obtain ⟨rfl, rfl⟩ := H
 go_enter Try.func22, Try.ntmps22
 go_wp2_with (first | ((with_reducible refine gate_dst (N := 2) rfl ?_); refine zE 2 (cs := #[.int .i64 0, .slice none 0 0]) 34 ?_; intro gb479 hg w3 hbox hb; have BK479 := am (hbox); have GW479 := am ((by rw [hg]; exact (below_size (pBq6 HB)) : w.heap.size ≤ gb479)); have GE479 := am ((by rw [hg]; exact (below_size (pBq6 HB)) : w.heap.size ≤ gb479)); replace HB := am (below_step (pBq6 HB) hb); clear hb hbox hg) | ((with_reducible refine gate_dst (N := 6) rfl ?_); refine zE 6 (cs := #[.slice A0 l0.length c0, .int .i64 0, .int .u64 0]) 51 ?_; intro gb480 hg w4 hbox hb; have BK480 := am (hbox); have GW480 := am ((by rw [hg]; exact (below_size (pBq6 HB)) : w.heap.size ≤ gb480)); have GE480 := am ((by rw [hg]; exact (below_size (pBq6 HB)) : w.heap.size ≤ gb480)); have NB479_480 := am ((by rw [hg]; exact Nat.ne_of_lt (blk_lt (pKq6 BK479)) : gb479 ≠ gb480)); have NB480_479 := am ((by rw [hg]; exact Nat.ne_of_gt (blk_lt (pKq6 BK479)) : gb480 ≠ gb479)); replace BK479 := am (blk_below (pKq6 BK479) hb); replace HB := am (below_step (pBq6 HB) hb); clear hb hbox hg) | ((with_reducible refine gate_callee (f := 48) rfl ?_); refine goesL_ (some 8) rfl rfl Try.func48 zq26 rfl #[.pointer (some ⟨gb480, 0, none⟩), .int .i64 6] rfl zq1 ?_; (with_reducible refine (spec_l1Cur_least.calls k gb480 l0 0 0 6 t481 t482 t485 t486 w _ ?side1 ?side2 A2.out).mono ?_); (case side1 => unfold IsS51; exact ⟨_, _, (pKq6 BK480), GW480.out, HR0.out⟩); (case side2 => exact zq10); rintro e w5 ⟨v483, rfl, ho0, hi, hb, hk⟩; refine ⟨_, rfl, ?_⟩; have HO484 := am (Kd.R_lower ho0 (below_size (pBq6 HB))); replace BK479 := am (KeepBut.blk hk (g' := gb479) (o := .cells #[.int .i64 0, .slice none 0 0] 34 (0, 0)) (pKq6 BK479) NB479_480.out zq66); replace HB := am (hb); replace BK480 := am (hi); (try clear hb hk hi ho0); have hnb6 := NB479_480.out; have hnc6 := NB480_479.out; have hcz7_0 : w5.cell? ⟨gb479, 0, none⟩ = some (.int .i64 0) := (blk_cell BK479.out 0).trans rfl; have hcz7_1 : w5.cell? ⟨gb479, 1, none⟩ = some (.slice none 0 0) := (blk_cell BK479.out 1).trans rfl; have hfz7_0 := blk_frozen BK479.out 0; have hfz7_1 := blk_frozen BK479.out 1; obtain ⟨Ao8, co8, eo8⟩ := Kd.R_slice HO484.out; subst eo8))
 refine bodyPost_ret (results_cell_row rfl _ _ gb479 34 #[.int .i64 t481, .slice Ao8 t482.length co8] (0, 0) _ rfl (by (with_reducible repeat (first | refine blk_drewN ?_ _ | refine blk_drew ?_ | refine blk_alloc ?_ _)); refine blk_put (cs := #[.int .i64 t481, .slice none 0 0]) ?_ 1 _ rfl; (with_reducible repeat (first | refine blk_drewN ?_ _ | refine blk_drew ?_ | refine blk_alloc ?_ _)); refine blk_put (cs := #[.int .i64 0, .slice none 0 0]) ?_ 0 _ rfl; (with_reducible repeat (first | refine blk_drewN ?_ _ | refine blk_drew ?_ | refine blk_alloc ?_ _)); exact BK479.out) Try.underlying34 rfl zq26) rfl ?_
 exact ⟨_, zq11, by (with_reducible repeat (first | apply Kd.R_alloc | apply Kd.R_drewN | apply Kd.R_drew)); exact Kd.R_mono (Kd.R_far (p := ⟨gb479, 1, none⟩) (Kd.R_far (p := ⟨gb479, 0, none⟩) (Kd.R_types HO484.out BK479.out zq36) (fun _ hk => hk.2) (.int .i64 t481)) (fun _ hk => hk.2) (.slice Ao8 t482.length co8)) (fun _ hk => trivial), by repeat (first | (with_reducible first | exact HB.out | apply below_alloc | apply pw_below_drewN | apply below_drew1 | refine below_set ?_ (IsS51.ge BK480.out) | refine below_set ?_ (Aside0.out (by assumption))) | exact HB.out)⟩
/-! ### spec_laOver: function 80 -/
def spec_laOver.f (a0 : Int) (a1 : Int) : Option (Int) := if a0 = a1 then (some (wrap64 (a1 + 1))) else (if a0 = (wrap64 (a1 + 1)) then (some a1) else (some a0))
theorem spec_laOver.calls (a0 : Int) (a1 : Int) (r : Int) (w : World) (h : spec_laOver.f a0 a1 = some r) :
  Calls Try.prog 80 #[.int .i64 a0, .int .i64 a1] w fun e w' => e = .returned (.int .i64 r) ∧ Drawn0 w w' := by
 have H : (if a0 = a1 then (some (wrap64 (a1 + 1))) else (if a0 = (wrap64 (a1 + 1)) then (some a1) else (some a0))) = some r := h
 clear h
 by_cases c3 : a0 = a1
 ·rw [if_pos c3] at H
  have c3b0 : (a0 == a1) = true := beq_iff_eq.mpr c3
  have c3b1 : (a0 != a1) = false := bne_eq_false_iff_eq.mpr c3
  clear c3
  obtain rfl := Option.some.inj H
  go_enter Try.func80, Try.ntmps80
  go_wp2
  go_ret
  exact ⟨zq13, zq20⟩
 ·rw [if_neg c3] at H
  have c3b0 : (a0 == a1) = false := beq_eq_false_iff_ne.mpr c3
  have c3b1 : (a0 != a1) = true := bne_iff_ne.mpr c3
  by_cases c4 : a0 = (wrap64 (a1 + 1))
  ·rw [if_pos c4] at H
   have c4b0 : (a0 == (wrap64 (a1 + 1))) = true := beq_iff_eq.mpr c4
   have c4b1 : (a0 != (wrap64 (a1 + 1))) = false := bne_eq_false_iff_eq.mpr c4
   clear c4
   obtain rfl := Option.some.inj H
   go_enter Try.func80, Try.ntmps80
   go_wp2
   go_ret
   exact ⟨zq13, zq20⟩
  ·rw [if_neg c4] at H
   have c4b0 : (a0 == (wrap64 (a1 + 1))) = false := beq_eq_false_iff_ne.mpr c4
   have c4b1 : (a0 != (wrap64 (a1 + 1))) = true := bne_iff_ne.mpr c4
   obtain rfl := Option.some.inj H
   go_enter Try.func80, Try.ntmps80
   go_wp2
   go_ret
   exact ⟨zq13, zq20⟩
end
end Go.Proofs.Ytdeoeogdnagibaa.PLi
