-- Written for this claim by a program of this session (myprint.py) over the kit's printer.
import Derived.Test.YtlmiiijjjcddkaaPKax0
import Derived.Test.YtlmiiijjjcddkaaPKax3
import Derived.Test.YtlmiiijjjcddkaaPKax4
namespace Go.Proofs.Ytlmiiijjjcddkaa.PKa
noncomputable section
open Go.RowKit Go.Proofs.YtlmiiijjjcddkaaW.PrintWords Go.Proofs.YtlmiiijjjcddkaaW.PrintLast Go.Proofs.YtlmiiijjjcddkaaW.PrintMore
attribute [local go_sem] max2_int min2_int max_two min_two max_three min_three max_four min_four   -- for this text's walks alone
open List (setIfInBounds_toArray set_cons_zero set_cons_succ)
set_option maxHeartbeats 8000000
set_option maxRecDepth 100000
set_option linter.unusedVariables false
set_option linter.unusedSimpArgs false
theorem pRq5 {α : Type} {d : Kd α} {e base : Nat} {ok : Nat → Prop} {v : Value} {xs : List α} {w W : World} (h0 : Aside0 (Kd.R d e w base ok v xs)) (hp : Kd.R d e W base ok v xs := by (with_reducible repeat (first | apply Kd.R_alloc | apply Kd.R_drewN | apply Kd.R_drew)); exact Aside0.out (by with_reducible assumption)) : Kd.R d e W base ok v xs := hp
theorem pKq5 {g : Nat} {o : Obj} {w W : World} (h0 : Aside0 (w.heap[g]? = some o)) (hp : W.heap[g]? = some o := by (with_reducible repeat (first | refine blk_drewN ?_ _ | refine blk_drew ?_ | refine blk_alloc ?_ _)); exact Aside0.out (by with_reducible assumption)) : W.heap[g]? = some o := hp
theorem pBq5 {b : Nat} {w0 w W : World} (h0 : Aside0 (Below b w0 w)) (hp : Below b w0 W := by repeat (first | (with_reducible first | exact Aside0.out (by assumption) | apply below_alloc | apply pw_below_drewN | apply below_drew1 | refine below_set ?_ (Aside0.out (by assumption))))) : Below b w0 W := hp
/-! ### impl_flipped: function 32 -/
def impl_flipped.f (a0_0 : Int) (l0_1 : List Int) (a1 : Int) : Option (Int × List Int) := if 0 ≤ a1 then (if a1 < (l0_1.length : Int) then (if 0 ≤ (wrap64 (a1 + 1)) then (if (wrap64 (a1 + 1)) < (l0_1.length : Int) then ((slices_Clone_int_int.f l0_1).bind fun t293 => ((slices_Replace_int_int.f t293 a1 (wrap64 (a1 + 3)) (([rd l0_1 (wrap64 (a1 + 1)), rd l0_1 a1, rd l0_1 (wrap64 (a1 + 1))] : List Int))).bind fun t299 => (some (a0_0, t299)))) else (none)) else (none)) else (none)) else (none)
def impl_flipped.T1 : Bool × List (List Nat × List Nat) := (true, [([], []), ([0], [0]), ([], []), ([1, 2], [1, 2]), ([3], [3]), ([], []), ([5], [5]), ([], []), ([7], [7]), ([6, 8], [6, 8]), ([9], [9]), ([4, 0, 1, 2, 3, 4], [4]), ([10, 11, 0, 1, 2, 3, 4, 5, 6, 7, 8, 9, 10, 11], [10])])
def impl_flipped.B1 : List Nat := [0, 1, 0, 7, 15, 0, 32, 0, 128, 480, 992, 31, 4095]
theorem impl_flipped.tab1 : rtab .any (opsOf Try.f32 1) = impl_flipped.T1 := by kernel_rfl
theorem impl_flipped.bits1 : waitsOk impl_flipped.T1.2 impl_flipped.B1 = true := by kernel_rfl
def impl_flipped.T2 : Bool × List (List Nat × List Nat) := (true, [([], []), ([0], [0]), ([], []), ([2], [2]), ([3], [3]), ([], []), ([], []), ([6], [6]), ([], []), ([], []), ([], []), ([8, 9, 10], [8, 9, 10]), ([4, 5, 7, 11, 4], [4, 5, 7, 11]), ([1, 12], [1, 12]), ([13, 12, 0, 1, 2, 3, 4, 5, 6, 7, 8, 9, 10, 11, 12, 13], [13])])
def impl_flipped.B2 : List Nat := [0, 1, 0, 4, 12, 0, 0, 64, 0, 0, 0, 1792, 4092, 8191, 16383]
theorem impl_flipped.tab2 : rtab .any (opsOf Try.f32 2) = impl_flipped.T2 := by kernel_rfl
theorem impl_flipped.bits2 : waitsOk impl_flipped.T2.2 impl_flipped.B2 = true := by kernel_rfl
theorem impl_flipped.calls (a0_0 : Int) (A0_1 : Option Addr) (c0_1 : Nat) (l0_1 : List Int) (a1 : Int) (r1 : Int) (r2 : List Int) (w : World) (hr0_1 : Kd.C (Kd.int .i64) w A0_1 l0_1.length l0_1) (hc0_1 : l0_1.length ≤ c0_1) (h : impl_flipped.f a0_0 l0_1 a1 = some (r1, r2)) :
  Calls Try.prog 32 #[.agg #[.int .i64 a0_0, .slice A0_1 l0_1.length c0_1], .int .i64 a1] w fun e w' => ∃ v1_ : Value, e = .returned (.agg #[.int .i64 r1, v1_]) ∧ Kd.R (Kd.int .i64) 3 w' w.heap.size (fun _ => True) v1_ r2 ∧ Below w.heap.size w w' := by
 have hu40 := Try.underlying40
 have HR0_1 := am hr0_1
 have HC0_1 := am hc0_1
 clear hr0_1 hc0_1
 have HB := am (Below.refl w.heap.size w)
 have H : (if 0 ≤ a1 then (if a1 < (l0_1.length : Int) then (if 0 ≤ (wrap64 (a1 + 1)) then (if (wrap64 (a1 + 1)) < (l0_1.length : Int) then ((slices_Clone_int_int.f l0_1).bind fun t293 => ((slices_Replace_int_int.f t293 a1 (wrap64 (a1 + 3)) (([rd l0_1 (wrap64 (a1 + 1)), rd l0_1 a1, rd l0_1 (wrap64 (a1 + 1))] : List Int))).bind fun t299 => (some (a0_0, t299)))) else (none)) else (none)) else (none)) else (none)) = some (r1, r2) := h
 clear h
 by_cases c3 : 0 ≤ a1
 ·rw [if_pos c3] at H
  have c3b0 : decide (0 ≤ a1) = true := decide_eq_true c3
  clear c3
  by_cases c4 : a1 < (l0_1.length : Int)
  ·rw [if_pos c4] at H
   have c4b0 : decide (a1 < (l0_1.length : Int)) = true := decide_eq_true c4
   clear c4
   obtain ⟨ji5, hji5⟩ : ∃ j_ : Int, (wrap64 (a1 + 1)) = j_ := ⟨_, rfl⟩
   replace H : (if 0 ≤ (ji5) then (if (ji5) < (l0_1.length : Int) then ((slices_Clone_int_int.f l0_1).bind fun t293 => ((slices_Replace_int_int.f t293 a1 (wrap64 (a1 + 3)) (([rd l0_1 (ji5), rd l0_1 a1, rd l0_1 (ji5)] : List Int))).bind fun t299 => (some (a0_0, t299)))) else (none)) else (none)) = some (r1, r2) := zq84
   have hji5w : (IntKind.i64.wrap (a1 + 1)) = ji5 := (i64_w _).trans hji5
   by_cases c6 : 0 ≤ (ji5)
   ·rw [if_pos c6] at H
    have c6b0 : decide (0 ≤ (ji5)) = true := decide_eq_true c6
    clear c6
    by_cases c7 : (ji5) < (l0_1.length : Int)
    ·rw [if_pos c7] at H
     have c7b0 : decide ((ji5) < (l0_1.length : Int)) = true := decide_eq_true c7
     clear c7
     obtain ⟨t293, A8, H⟩ := zS H
     (try dsimp only at H)
     obtain ⟨y296, hy296⟩ : ∃ y_ : List Int, y_ = (([rd l0_1 (ji5), rd l0_1 a1, rd l0_1 (ji5)] : List Int)) := ⟨_, rfl⟩
     replace H : ((slices_Replace_int_int.f t293 a1 (wrap64 (a1 + 3)) y296).bind fun t299 => (some (a0_0, t299))) = some (r1, r2) := by first | (rw [hy296]; exact zH) | exact zH
     have Ny296 := am hy296
     clear hy296
     obtain ⟨t299, A9, H⟩ := zS H
     (try dsimp only at H)
     simp only [Option.some.injEq, Prod.mk.injEq] at H
     obtain ⟨rfl, rfl⟩ := H
     go_enter Try.func32, Try.ntmps32
     try go_wp2_with (first | ((with_reducible refine gate_dst (N := 2) rfl ?_); refine zE 2 (cs := #[.int .i64 a0_0, .slice A0_1 l0_1.length c0_1]) 40 ?_; intro gb289 hg w10 hbox hb; have BK289 := am (hbox); have GW289 := am ((by rw [hg]; exact (below_size (pBq5 HB)) : w.heap.size ≤ gb289)); have GE289 := am ((by rw [hg]; exact (below_size (pBq5 HB)) : w.heap.size ≤ gb289)); replace HB := am (below_step (pBq5 HB) hb); clear hb hbox hg) | ((with_reducible refine gate_dst (N := 4) rfl ?_); refine zE 4 (cs := #[.int .i64 0, .slice none 0 0]) 40 ?_; intro gb290 hg w11 hbox hb; have BK290 := am (hbox); have GW290 := am ((by rw [hg]; exact (below_size (pBq5 HB)) : w.heap.size ≤ gb290)); have GE290 := am ((by rw [hg]; exact (below_size (pBq5 HB)) : w.heap.size ≤ gb290)); have NB289_290 := am ((by rw [hg]; exact Nat.ne_of_lt (blk_lt (pKq5 BK289)) : gb289 ≠ gb290)); have NB290_289 := am ((by rw [hg]; exact Nat.ne_of_gt (blk_lt (pKq5 BK289)) : gb290 ≠ gb289)); replace BK289 := am (blk_below (pKq5 BK289) hb); replace HB := am (below_step (pBq5 HB) hb); clear hb hbox hg))
     replace BK289 := am (blk_drew BK289.out)
     replace BK290 := am (blk_drew BK290.out)
     replace HB := am (below_drew1 HB.out)
     have p291 : 0 ≤ (a1 : Int) := of_decide_eq_true zq0
     have q291 : a1 < (l0_1.length : Int) := of_decide_eq_true zq0
     obtain ⟨ad291, e291, hx291_0⟩ := Kd.at_int HR0_1.out a1 p291 q291
     have hw291_0 := hx291_0
     cases e291
     replace hx291_0 := (HB.out.cell (World.block_lt_of_cell? w _ hx291_0)).trans hx291_0
     replace p291 := eq_true p291
     replace q291 := eq_true q291
     have p292 : 0 ≤ ((ji5) : Int) := of_decide_eq_true zq0
     have q292 : (ji5) < (l0_1.length : Int) := of_decide_eq_true zq0
     obtain ⟨ad292, e292, hx292_0⟩ := Kd.at_int HR0_1.out (ji5) p292 q292
     have hw292_0 := hx292_0
     obtain rfl : ad291 = ad292 := (by injection e292)
     replace hx292_0 := (HB.out.cell (World.block_lt_of_cell? w _ hx292_0)).trans hx292_0
     replace p292 := eq_true p292
     replace q292 := eq_true q292
     refine start_ (n := 13) (S := fun w' => w'.cell? ⟨gb289, 0, none⟩ = some (.int .i64 a0_0) ∧ w'.cell? ⟨gb289, 1, none⟩ = some (.slice (some ad291) l0_1.length c0_1) ∧ w'.cell? (ad291.add (a1).toNat) = some (.int .i64 (rd l0_1 a1)) ∧ w'.cell? (ad291.add ((ji5)).toNat) = some (.int .i64 (rd l0_1 (ji5)))) (ds := []) #[false, false, false, false, false, false, false, false, false, false, false, false, false] zq24 rfl rfl ⟨(blk_cell BK289.out 0).trans rfl, (blk_cell BK289.out 1).trans rfl, ((HB.out.cell (World.block_lt_of_cell? w _ hw291_0)).trans hw291_0), ((HB.out.cell (World.block_lt_of_cell? w _ hw292_0)).trans hw292_0)⟩ (fun hHeld => ?_); refine with_tabW impl_flipped.tab1 impl_flipped.bits1 (fun HT_ HW_ => ?_)
     generalize w11.drew = w12 at BK289 BK290 HB hx291_0 hx292_0 hHeld ⊢
     refine zU 0 7 HT_ ?_
     refine zU 2 9 HT_ ?_
     refine zU 5 12 HT_ ?_
     refine zU 7 14 HT_ ?_
     refine zU 8 15 HT_ ?_
     refine zT 1 8 HT_ HW_ hHeld ?_
     refine zU 3 10 HT_ ?_
     refine zT 4 11 HT_ HW_ hHeld ?_
     refine zU 11 5 HT_ ?_
     refine zT 6 13 HT_ HW_ hHeld ?_
     refine zU 9 16 HT_ ?_
     refine zT 10 17 HT_ HW_ hHeld ?_
     refine zU 12 6 HT_ ?_
     refine done_ (done_of HT_.out zq24) ?_
     try go_wp2
     replace BK289 := am (blk_drew BK289.out)
     replace BK290 := am (blk_drew BK290.out)
     replace HB := am (below_drew1 HB.out)
     refine start_ (n := 15) (S := fun w' => w'.cell? ⟨gb289, 0, none⟩ = some (.int .i64 a0_0) ∧ w'.cell? ⟨gb289, 1, none⟩ = some (.slice (some ad291) l0_1.length c0_1)) (ds := []) #[false, false, false, false, false, false, false, false, false, false, false, false, false, false, false] zq24 rfl rfl ⟨(blk_cell BK289.out 0).trans rfl, (blk_cell BK289.out 1).trans rfl⟩ (fun hHeld => ?_); refine with_tabW impl_flipped.tab2 impl_flipped.bits2 (fun HT_ HW_ => ?_)
     generalize w12.drew = w13 at BK289 BK290 HB hHeld ⊢
     refine zU 0 18 HT_ ?_
     refine zU 2 20 HT_ ?_
     refine zU 5 23 HT_ ?_
     refine zU 6 24 HT_ ?_
     refine zU 7 25 HT_ ?_
     refine zU 8 26 HT_ ?_
     refine zU 9 27 HT_ ?_
     refine zU 10 28 HT_ ?_
     refine zT 1 19 HT_ HW_ hHeld ?_
     refine zT 3 21 HT_ HW_ hHeld ?_
     refine join_ (σ := Value × Value) 3 #[true, true, true, true, true, true, true, true, true, true, true, true, false, false, false] (fun s_ => [(22, s_.1), (29, s_.2)]) (fun s_ w' => (w'.cell? ⟨gb289, 0, none⟩ = some (.int .i64 a0_0) ∧ w'.cell? ⟨gb289, 1, none⟩ = some (.slice (some ad291) l0_1.length c0_1)) ∧ (Kd.R (Kd.int .i64) 3 w' w.heap.size (fun k_ => some k_ ≠ (s_.2 : Value).ownBlock) s_.1 t293) ∧ (Kd.R (Kd.int .i64) 3 w' w.heap.size (fun k_ => some k_ ≠ (s_.1 : Value).ownBlock) s_.2 y296) ∧ (w'.heap[gb289]? = some (.cells #[.int .i64 a0_0, .slice (some ad291) l0_1.length c0_1] 40 (0, 0))) ∧ (w'.heap[gb290]? = some (.cells #[.int .i64 0, .slice none 0 0] 40 (0, 0))) ∧ (Below w.heap.size w w')) ?_ ?_
     rotate_left
     ·intro hCont
      refine two_ (i := 4) (j := 11) (Ni := some 22) (Nj := some 29) #[true, true, true, true, true, true, true, true, true, true, true, false, false, false, false] #[true, true, true, true, false, true, true, true, true, true, true, true, false, false, false] rfl rfl rfl rfl (two_of HT_.out zq24) zq34 zq34 (fun K hK => ?_) (fun K hK => ?_)
      ·skip
       refine goes_ Try.func48 zq24 rfl #[.slice (some ad291) l0_1.length c0_1] (by rfl) rfl rfl zq3 ?_
       with_reducible refine (slices_Clone_int_int.calls _ _ l0_1 t293 _ ?side1 ?side2 A8.out).mono ?_
       (case side1 => exact zq28)
       (case side2 => exact HC0_1.out)
       rintro e w14 ⟨v294, rfl, ho0, hb⟩
       refine ⟨_, rfl, ?_⟩
       have HO295 := am (Kd.R_lower ho0 (below_size (pBq5 HB)))
       replace BK289 := am (blk_below (pKq5 BK289) hb)
       replace BK290 := am (blk_below (pKq5 BK290) hb)
       replace HB := am (below_step (pBq5 HB) hb)
       (try clear hb)
       (try clear hb2)
       (try clear hk)
       (try clear hi)
       (try clear ho0)
       refine hK.out _ _ ⟨(blk_cell BK289.out 0).trans rfl, (blk_cell BK289.out 1).trans rfl⟩ (fun hHeld => ?_)
       clear hK K
       refine zN 22 ?_
       refine zO 11 29 HT_ fun K hK => ?_
       refine Kd.R_lit_step (Kd.int .i64) _ 3 ?hg (N := 29) ?hd (xs := ([rd l0_1 (ji5), rd l0_1 a1, rd l0_1 (ji5)] : List Int)) (inner := [.int .i64 (rd l0_1 (ji5)), .int .i64 (rd l0_1 a1), .int .i64 (rd l0_1 (ji5))]) (ok := fun _ => True) (okp := fun _ => True) ?hr ?hp (fun _ hk => hk) trivial (Below.refl _ _) (Nat.le_refl _) zq25 ?_; (case hd => rfl); (case hg => rfl); (case hr => exact zq10); (case hp => exact zq54)
       intro v297 w15 ho16 hb hg_ hnew_
       clear hg_ hnew_
       (first | rw [← Ny296.out] at ho16 | (simp only [Int.reduceToNat] at ho16; rw [← Ny296.out] at ho16))
       have HO298 := am (Kd.R_lower (Kd.R_new' ho16 (Kd.R_lt (pRq5 HO295))) (below_size (pBq5 HB)))
       replace HO295 := am (Kd.R_elder' (pRq5 HO295) (Kd.R_base ho16) hb)
       replace BK289 := am (blk_below (pKq5 BK289) hb)
       replace BK290 := am (blk_below (pKq5 BK290) hb)
       replace HB := am (below_step (pBq5 HB) hb)
       clear hb ho16
       refine hK.out _ _ ⟨(blk_cell BK289.out 0).trans rfl, (blk_cell BK289.out 1).trans rfl⟩ (fun hHeld => ?_)
       clear hK K
       refine zN 29 ?_
       exact norm_ (by simp only [putAll, Act.put, setIfInBounds_toArray, set_cons_zero, set_cons_succ]) (hCont (v294, v297) _ ⟨hHeld, zq89, zq88, (pKq5 BK289), (pKq5 BK290), (pBq5 HB)⟩)
      ·skip
       refine Kd.R_lit_step (Kd.int .i64) _ 3 ?hg (N := 29) ?hd (xs := ([rd l0_1 (ji5), rd l0_1 a1, rd l0_1 (ji5)] : List Int)) (inner := [.int .i64 (rd l0_1 (ji5)), .int .i64 (rd l0_1 a1), .int .i64 (rd l0_1 (ji5))]) (ok := fun _ => True) (okp := fun _ => True) ?hr ?hp (fun _ hk => hk) trivial (Below.refl _ _) (Nat.le_refl _) zq25 ?_; (case hd => rfl); (case hg => rfl); (case hr => exact zq10); (case hp => exact zq54)
       intro v297 w14 ho15 hb hg_ hnew_
       clear hg_ hnew_
       (first | rw [← Ny296.out] at ho15 | (simp only [Int.reduceToNat] at ho15; rw [← Ny296.out] at ho15))
       have HO298 := am (Kd.R_lower ho15 (below_size (pBq5 HB)))
       replace BK289 := am (blk_below (pKq5 BK289) hb)
       replace BK290 := am (blk_below (pKq5 BK290) hb)
       replace HB := am (below_step (pBq5 HB) hb)
       clear hb ho15
       refine hK.out _ _ ⟨(blk_cell BK289.out 0).trans rfl, (blk_cell BK289.out 1).trans rfl⟩ (fun hHeld => ?_)
       clear hK K
       refine zN 29 ?_
       refine zO 4 22 HT_ fun K hK => ?_
       refine goes_ Try.func48 zq24 rfl #[.slice (some ad291) l0_1.length c0_1] (by rfl) rfl rfl zq3 ?_
       with_reducible refine (slices_Clone_int_int.calls _ _ l0_1 t293 _ ?side1 ?side2 A8.out).mono ?_
       (case side1 => exact zq28)
       (case side2 => exact HC0_1.out)
       rintro e w16 ⟨v294, rfl, ho0, hb⟩
       refine ⟨_, rfl, ?_⟩
       have HO295 := am (Kd.R_lower (Kd.R_new' ho0 (Kd.R_lt (pRq5 HO298))) (below_size (pBq5 HB)))
       replace HO298 := am (Kd.R_elder' (pRq5 HO298) (Kd.R_base ho0) hb)
       replace BK289 := am (blk_below (pKq5 BK289) hb)
       replace BK290 := am (blk_below (pKq5 BK290) hb)
       replace HB := am (below_step (pBq5 HB) hb)
       (try clear hb)
       (try clear hb2)
       (try clear hk)
       (try clear hi)
       (try clear ho0)
       refine hK.out _ _ ⟨(blk_cell BK289.out 0).trans rfl, (blk_cell BK289.out 1).trans rfl⟩ (fun hHeld => ?_)
       clear hK K
       refine zN 22 ?_
       exact norm_ (by simp only [putAll, Act.put, setIfInBounds_toArray, set_cons_zero, set_cons_succ]) (hCont (v294, v297) _ ⟨hHeld, zq89, zq88, (pKq5 BK289), (pKq5 BK290), (pBq5 HB)⟩)
     rintro ⟨v294, v297⟩ w17 ⟨hS_, h0_, h1_, h2_, h3_, h4_⟩
     have n0_ : Aside0 (Kd.R (Kd.int .i64) 3 w17 w.heap.size (fun k_ => some k_ ≠ (v297 : Value).ownBlock) v294 t293) := ⟨h0_⟩
     have n1_ : Aside0 (Kd.R (Kd.int .i64) 3 w17 w.heap.size (fun k_ => some k_ ≠ (v294 : Value).ownBlock) v297 y296) := ⟨h1_⟩
     have n2_ : Aside0 (w17.heap[gb289]? = some (.cells #[.int .i64 a0_0, .slice (some ad291) l0_1.length c0_1] 40 (0, 0))) := ⟨h2_⟩
     have n3_ : Aside0 (w17.heap[gb290]? = some (.cells #[.int .i64 0, .slice none 0 0] 40 (0, 0))) := ⟨h3_⟩
     have n4_ : Aside0 (Below w.heap.size w w17) := ⟨h4_⟩
     clear BK289
     clear BK290
     clear HB
     clear h0_ h1_ h2_ h3_ h4_
     have HO295 := n0_
     have HO298 := n1_
     have BK289 := n2_
     have BK290 := n3_
     have HB := n4_
     clear n0_ n1_ n2_ n3_ n4_
     have hHeld : w17.cell? ⟨gb289, 0, none⟩ = some (.int .i64 a0_0) ∧ w17.cell? ⟨gb289, 1, none⟩ = some (.slice (some ad291) l0_1.length c0_1) := hS_
     obtain ⟨Ao18, co18, eo18⟩ := Kd.R_slice HO295.out
     (first | subst eo18 | (injection eo18 with f1_ f2_ f3_; have f4_ := f1_.symm; have f5_ := f3_.symm; clear f1_ f2_ f3_; subst f4_; subst f5_))
     obtain ⟨Ao19, co19, eo19⟩ := Kd.R_slice HO298.out
     (first | subst eo19 | (injection eo19 with f1_ f2_ f3_; have f4_ := f1_.symm; have f5_ := f3_.symm; clear f1_ f2_ f3_; subst f4_; subst f5_))
     refine norm_ (a' := ?_) ?_ ?_
     rotate_left
     ·simp only [putAll, Act.put, setIfInBounds_toArray, set_cons_zero, set_cons_succ]
      rfl
     refine zO 12 30 HT_ fun K hK => ?_
     refine goes_ Try.func47 zq24 rfl #[.slice Ao18 t293.length co18, .int .i64 a1, .int .i64 (wrap64 (a1 + 3)), .slice Ao19 y296.length co19] (by rfl) rfl rfl zq3 ?_
     with_reducible refine (slices_Replace_int_int.calls (fun k_ => some k_ = (.slice Ao18 t293.length co18 : Value).ownBlock) (.slice Ao18 t293.length co18) t293 a1 (wrap64 (a1 + 3)) (fun k_ => some k_ = (.slice Ao19 y296.length co19 : Value).ownBlock) (.slice Ao19 y296.length co19) y296 t299 w _ ?side1 ?side2 ?side3 ?side4 ?side5 A9.out).mono ?_
     (case side1 => exact zq9)
     (case side2 => exact Kd.R_tight rfl HO295.out)
     (case side3 => exact fun k_ e_ => (HO295.out.1 k_ e_.symm))
     (case side4 => exact Kd.R_tight rfl HO298.out)
     (case side5 => exact fun k_ e_ => (HO298.out.1 k_ e_.symm))
     rintro e w20 ⟨v300, rfl, ho0, hb, hkp⟩
     refine ⟨_, rfl, ?_⟩
     have HO301 := am (Kd.R_mono (ok' := fun k_ => True) ho0 (fun k_ hk_ => trivial))
     replace BK289 := am (blk_kept (pKq5 BK289) hkp (fun hs_ => Or.elim hs_ (fun e_ => (fun e_ => (Kd.R_ne HO295.out BK289.out zq34) e_) e_) (fun e_ => (fun e_ => (Kd.R_ne HO298.out BK289.out zq34) e_) e_)))
     replace BK290 := am (blk_kept (pKq5 BK290) hkp (fun hs_ => Or.elim hs_ (fun e_ => (fun e_ => (Kd.R_ne HO295.out BK290.out zq34) e_) e_) (fun e_ => (fun e_ => (Kd.R_ne HO298.out BK290.out zq34) e_) e_)))
     replace HB := am (hb)
     clear HO295 HO298
     (try clear hb)
     (try clear hkp)
     (try clear ho0)
     obtain ⟨Ao21, co21, eo21⟩ := Kd.R_slice HO301.out
     (first | subst eo21 | (injection eo21 with f1_ f2_ f3_; have f4_ := f1_.symm; have f5_ := f3_.symm; clear f1_ f2_ f3_; subst f4_; subst f5_))
     refine hK.out _ _ ⟨(blk_cell BK289.out 0).trans rfl, (blk_cell BK289.out 1).trans rfl⟩ (fun hHeld => ?_)
     clear hK K
     refine zN 30 ?_
     refine zU 13 31 HT_ ?_
     refine one_ (i := 14) (N := none) #[true, true, true, true, true, true, true, true, true, true, true, true, true, true, true] rfl rfl (one_of HT_.out zq24) zq34 (fun K hK => ?_)
     have hs22 : w20.cell? ⟨gb290, 0, none⟩ = some (.int .i64 0) := (blk_cell BK290.out 0).trans rfl
     have hfs22 := blk_frozen BK290.out 0
     have hns22_0 := NB289_290.out
     have hms22_0 := NB290_289.out
     have hs23 : w20.cell? ⟨gb290, 1, none⟩ = some (.slice none 0 0) := (blk_cell BK290.out 1).trans rfl
     have hfs23 := blk_frozen BK290.out 1
     have hns23_0 := NB289_290.out
     have hms23_0 := NB290_289.out
     refine skip_ (w1 := ?_) (by rfl) rfl ?_ ?_
     rotate_left
     ·go_simp
      rfl
     refine hK.out _ _ ⟨((cell_far (p := ⟨gb290, _, none⟩) NB289_290.out _).trans (((cell_far (p := ⟨gb290, _, none⟩) NB289_290.out _).trans (hHeld.1)))), ((cell_far (p := ⟨gb290, _, none⟩) NB289_290.out _).trans (((cell_far (p := ⟨gb290, _, none⟩) NB289_290.out _).trans (hHeld.2))))⟩ (fun hHeld => ?_)
     clear hK K
     refine done_ (done_of HT_.out zq24) ?_
     try go_wp2
     refine bodyPost_ret (results_cell_row rfl _ _ gb290 40 #[.int .i64 a0_0, .slice Ao21 t299.length co21] (0, 0) _ rfl (by (with_reducible repeat (first | refine blk_drewN ?_ _ | refine blk_drew ?_ | refine blk_alloc ?_ _)); refine blk_put (cs := #[.int .i64 a0_0, .slice none 0 0]) ?_ 1 _ rfl; (with_reducible repeat (first | refine blk_drewN ?_ _ | refine blk_drew ?_ | refine blk_alloc ?_ _)); refine blk_put (cs := #[.int .i64 0, .slice none 0 0]) ?_ 0 _ rfl; (with_reducible repeat (first | refine blk_drewN ?_ _ | refine blk_drew ?_ | refine blk_alloc ?_ _)); exact BK290.out) Try.underlying40 rfl zq24) rfl ?_
     exact ⟨_, by first | rfl | (simp [errW_none, errW_some] <;> rfl) | (simp only [← hji5]; first | rfl | (simp [errW_none, errW_some] <;> rfl)) | (simp [*, errW_none, errW_some] <;> rfl), by (with_reducible repeat (first | apply Kd.R_alloc | apply Kd.R_drewN | apply Kd.R_drew)); exact Kd.R_mono (Kd.R_far (p := ⟨gb290, 1, none⟩) (Kd.R_far (p := ⟨gb290, 0, none⟩) (Kd.R_types HO301.out BK290.out zq34) (fun _ hk => hk.2) (.int .i64 a0_0)) (fun _ hk => hk.2) (.slice Ao21 t299.length co21)) (fun _ hk => trivial), zq9⟩
    ·rw [if_neg c7] at H
     exact absurd H zq25
   ·rw [if_neg c6] at H
    exact absurd H zq25
  ·rw [if_neg c4] at H
   exact absurd H zq25
 ·rw [if_neg c3] at H
  exact absurd H zq25
end
end Go.Proofs.Ytlmiiijjjcddkaa.PKa
