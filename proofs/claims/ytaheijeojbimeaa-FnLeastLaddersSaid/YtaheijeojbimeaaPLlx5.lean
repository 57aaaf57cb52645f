-- Written for this claim by a program of this session (myprint.py) over the kit's printer.
import Derived.Test.YtaheijeojbimeaaPLlx0
import Derived.Test.YtaheijeojbimeaaPLlx1
import Derived.Test.YtaheijeojbimeaaPLlx4
namespace Go.Proofs.Ytaheijeojbimeaa.PLl
noncomputable section
open Go.RowKit Go.Proofs.YtaheijeojbimeaaW.PrintWords Go.Proofs.YtaheijeojbimeaaW.PrintLast Go.Proofs.YtaheijeojbimeaaW.PrintMore
attribute [local go_sem] max2_int min2_int max_two min_two max_three min_three max_four min_four   -- for this text's walks alone
open List (setIfInBounds_toArray set_cons_zero set_cons_succ)
set_option linter.unusedVariables false
set_option linter.unusedSimpArgs false
theorem pRq5 {α : Type} {d : Kd α} {e base : Nat} {ok : Nat → Prop} {v : Value} {xs : List α} {w W : World} (h0 : Aside0 (Kd.R d e w base ok v xs)) (hp : Kd.R d e W base ok v xs := by (with_reducible repeat (first | apply Kd.R_alloc | apply Kd.R_drewN | apply Kd.R_drew)); exact Aside0.out (by with_reducible assumption)) : Kd.R d e W base ok v xs := hp
theorem pKq5 {g : Nat} {o : Obj} {w W : World} (h0 : Aside0 (w.heap[g]? = some o)) (hp : W.heap[g]? = some o := by (with_reducible repeat (first | refine blk_drewN ?_ _ | refine blk_drew ?_ | refine blk_alloc ?_ _)); exact Aside0.out (by with_reducible assumption)) : W.heap[g]? = some o := hp
theorem pBq5 {b : Nat} {w0 w W : World} (h0 : Aside0 (Below b w0 w)) (hp : Below b w0 W := by repeat (first | (with_reducible first | exact Aside0.out (by assumption) | apply below_alloc | apply pw_below_drewN | apply below_drew1 | refine below_set ?_ (Aside0.out (by assumption))))) : Below b w0 W := hp
/-! ### impl_MeetingsOf: function 37 -/
mutual
def impl_MeetingsOf.j0 : Nat → Int → Int → Bool → Int → List Int → Option (Int × Bool)
 | 0, _, _, _, _, _ => none
 | k + 1, x1, x2, x26, x353000, x353001 => if x26 = true then (some (0, false)) else ((impl_way.f k x353000 x353001 x1).bind fun t355 => ((impl_way.f k x353000 x353001 x2).bind fun t358 => (impl_MeetingsOf.l0 k t355 t358 0 (x353001.length : Int) 0)))
def impl_MeetingsOf.l0 : Nat → List Int → List Int → Int → Int → Int → Option (Int × Bool)
 | 0, _, _, _, _, _ => none
 | k + 1, x8, x9, x10, x35, x36 => if x36 < x35 then (if 0 ≤ x36 then (if x36 < (x8.length : Int) then (if 0 ≤ (wrap64 (x36 + 1)) then (if (wrap64 (x36 + 1)) < (x9.length : Int) then (if (rd x8 x36) = (rd x9 (wrap64 (x36 + 1))) then (if x36 < (x9.length : Int) then (if (wrap64 (x36 + 1)) < (x8.length : Int) then (if (rd x9 x36) = (rd x8 (wrap64 (x36 + 1))) then (impl_MeetingsOf.l0 k x8 x9 (wrap64 (x10 + 1)) x35 (wrap64 (x36 + 1))) else (impl_MeetingsOf.l0 k x8 x9 x10 x35 (wrap64 (x36 + 1)))) else (none)) else (none)) else (impl_MeetingsOf.l0 k x8 x9 x10 x35 (wrap64 (x36 + 1)))) else (none)) else (none)) else (none)) else (none)) else (some (x10, true))
end
def impl_MeetingsOf.f (k : Nat) (a0_0 : Int) (l0_1 : List Int) (a1 : Int) (a2 : Int) : Option (Int × Bool) := (impl_hasWire.f a0_0 l0_1 a1).bind fun t353 => (if t353 = true then ((impl_hasWire.f a0_0 l0_1 a2).bind fun t354 => (if t354 = true then (impl_MeetingsOf.j0 k a1 a2 (a1 == a2) a0_0 l0_1) else (impl_MeetingsOf.j0 k a1 a2 true a0_0 l0_1))) else (impl_MeetingsOf.j0 k a1 a2 true a0_0 l0_1))
theorem impl_MeetingsOf.mono_l : ∀ k, (∀ y0 y1 y2 y3 y4, LeO (impl_MeetingsOf.j0 k y0 y1 y2 y3 y4) (impl_MeetingsOf.j0 (k + 1) y0 y1 y2 y3 y4)) ∧ (∀ y0 y1 y2 y3 y4, LeO (impl_MeetingsOf.l0 k y0 y1 y2 y3 y4) (impl_MeetingsOf.l0 (k + 1) y0 y1 y2 y3 y4))
 | 0 => ⟨fun _ _ _ _ _ r h => by simp [impl_MeetingsOf.j0] at h, fun _ _ _ _ _ r h => by simp [impl_MeetingsOf.l0] at h⟩
 | k + 1 => by
  obtain ⟨ih0, ih1⟩ := impl_MeetingsOf.mono_l k
  refine ⟨?_, ?_⟩
  ·intro y0 y1 y2 y3 y4
   unfold impl_MeetingsOf.j0
   repeat' first | (with_reducible first | exact ih0 _ _ _ _ _ | exact ih1 _ _ _ _ _ | exact impl_way.mono _ _ _ _ | exact LeO.refl _ | exact LeO.none _ | refine LeO.ite ?_ ?_ | refine LeO.bind ?_ (fun _ => ?_))
  ·intro y0 y1 y2 y3 y4
   unfold impl_MeetingsOf.l0
   repeat' first | (with_reducible first | exact ih0 _ _ _ _ _ | exact ih1 _ _ _ _ _ | exact impl_way.mono _ _ _ _ | exact LeO.refl _ | exact LeO.none _ | refine LeO.ite ?_ ?_ | refine LeO.bind ?_ (fun _ => ?_))
theorem impl_MeetingsOf.mono : ∀ a0 a1 a2 a3 k, LeO (impl_MeetingsOf.f k a0 a1 a2 a3) (impl_MeetingsOf.f (k + 1) a0 a1 a2 a3) := by
 intro a0 a1 a2 a3 k
 obtain ⟨ih0, ih1⟩ := impl_MeetingsOf.mono_l k
 unfold impl_MeetingsOf.f
 repeat' first | (with_reducible first | exact ih0 _ _ _ _ _ | exact ih1 _ _ _ _ _ | exact impl_way.mono _ _ _ _ | exact LeO.refl _ | exact LeO.none _ | refine LeO.ite ?_ ?_ | refine LeO.bind ?_ (fun _ => ?_))
def impl_MeetingsOf.T3 : Bool × List (List Nat × List Nat) := (true, [([], []), ([], []), ([0, 1], [0, 1]), ([], []), ([], []), ([3, 4, 2], [3, 4]), ([2, 5, 0, 1, 2], [2]), ([5, 6, 0, 1, 2, 3, 4, 5, 6], [5]), ([7, 0, 1, 2, 3, 4, 5, 6, 7], [])])
def impl_MeetingsOf.B3 : List Nat := [0, 0, 3, 0, 0, 31, 63, 127, 255]
theorem impl_MeetingsOf.tab3 : rtab .any (opsOf Try.f37 3) = impl_MeetingsOf.T3 := by kernel_rfl
theorem impl_MeetingsOf.bits3 : waitsOk impl_MeetingsOf.T3.2 impl_MeetingsOf.B3 = true := by kernel_rfl
def impl_MeetingsOf.T7 : Bool × List (List Nat × List Nat) := (true, [([], []), ([], []), ([0, 1], [0, 1]), ([2], [2]), ([], []), ([], []), ([5], [5]), ([4, 6], [4, 6]), ([7], [7]), ([3, 8], [3, 8]), ([9], [9]), ([10], [10]), ([10], [10]), ([11, 12, 10], [10, 11, 12]), ([13, 10], [10, 13]), ([10], [10]), ([10], [10]), ([16, 10], [10, 16]), ([15, 17, 10], [10, 15, 17]), ([18, 10], [10, 18]), ([14, 19, 10], [10, 14, 19]), ([10, 20], [10, 20])])
def impl_MeetingsOf.B7 : List Nat := [0, 0, 3, 7, 0, 0, 32, 112, 240, 511, 1023, 2047, 2047, 8191, 16383, 2047, 2047, 67583, 231423, 493567, 1048575, 2097151]
theorem impl_MeetingsOf.tab7 : rtab .any (opsOf Try.f37 7) = impl_MeetingsOf.T7 := by kernel_rfl
theorem impl_MeetingsOf.bits7 : waitsOk impl_MeetingsOf.T7.2 impl_MeetingsOf.B7 = true := by kernel_rfl
set_option maxHeartbeats 8000000 in
set_option maxRecDepth 100000 in
theorem impl_MeetingsOf.calls (k : Nat) (a0_0 : Int) (A0_1 : Option Addr) (c0_1 : Nat) (l0_1 : List Int) (a1 : Int) (a2 : Int) (r1 : Int) (r2 : Bool) (w : World) (hr0_1 : Kd.C (Kd.int .i64) w A0_1 l0_1.length l0_1) (hc0_1 : l0_1.length ≤ c0_1) (h : impl_MeetingsOf.f k a0_0 l0_1 a1 a2 = some (r1, r2)) :
  Calls Try.prog 37 #[.agg #[.int .i64 a0_0, .slice A0_1 l0_1.length c0_1], .int .i64 a1, .int .i64 a2] w fun e w' => e = .returned (.tuple #[.int .i64 r1, .bool r2]) ∧ Below w.heap.size w w' := by
 have hu40 := Try.underlying40
 have HR0_1 := Aside0.mk hr0_1
 have HC0_1 := Aside0.mk hc0_1
 clear hr0_1 hc0_1
 have HB := Aside0.mk (Below.refl w.heap.size w)
 have H : ((impl_hasWire.f a0_0 l0_1 a1).bind fun t353 => (if t353 = true then ((impl_hasWire.f a0_0 l0_1 a2).bind fun t354 => (if t354 = true then (impl_MeetingsOf.j0 k a1 a2 (a1 == a2) a0_0 l0_1) else (impl_MeetingsOf.j0 k a1 a2 true a0_0 l0_1))) else (impl_MeetingsOf.j0 k a1 a2 true a0_0 l0_1))) = some (r1, r2) := h
 clear h
 have HC4 := Aside0.mk H
 clear H
 go_enter Try.func37, Try.ntmps37
 go_upto_region 1 with (first | ((with_reducible refine gate_dst (N := 3) rfl ?_); refine box_event ?hg (N := 3) ?hd (cs := #[.int .i64 a0_0, .slice A0_1 l0_1.length c0_1]) (t := 40) ?hr ?_; (case hd => rfl); (case hg => rfl); (case hr => exact zq16); intro gb352 hg w5 hbox hb; have BK352 := Aside0.mk (hbox); have GW352 := Aside0.mk ((by rw [hg]; exact (below_size (pBq5 HB)) : w.heap.size ≤ gb352)); have GE352 := Aside0.mk ((by rw [hg]; exact (below_size (pBq5 HB)) : w.heap.size ≤ gb352)); replace HB := Aside0.mk (below_step (pBq5 HB) hb); clear hb hbox hg))
 (try simp only [Act.put, setIfInBounds_toArray, set_cons_zero, set_cons_succ])
 go_cut [26] (fun v26 wc => ∃ (kq : Nat) (x26_3 : Bool), v26 = .bool x26_3 ∧ Aside0 (impl_MeetingsOf.j0 kq a1 a2 x26_3 a0_0 l0_1 = some (r1, r2)) ∧ Aside0 (kq ≤ k) ∧ Aside0 (wc.heap[gb352]? = some (.cells #[.int .i64 a0_0, (.slice A0_1 l0_1.length c0_1)] 40 (0, 0))) ∧ Aside0 (Below w.heap.size w wc))
 case first =>
  have H := HC4.out
  clear HC4
  replace H := Option.bind_eq_some_iff.mp H
  obtain ⟨t353, A60, H⟩ := H
  replace H : (if t353 = true then ((impl_hasWire.f a0_0 l0_1 a2).bind fun t354 => (if t354 = true then (impl_MeetingsOf.j0 k a1 a2 (a1 == a2) a0_0 l0_1) else (impl_MeetingsOf.j0 k a1 a2 true a0_0 l0_1))) else (impl_MeetingsOf.j0 k a1 a2 true a0_0 l0_1)) = some (r1, r2) := H
  have A6 := Aside0.mk A60
  clear A60
  by_cases c7 : t353 = true
  ·subst c7
   have H1 : ((impl_hasWire.f a0_0 l0_1 a2).bind fun t354 => (if t354 = true then (impl_MeetingsOf.j0 k a1 a2 (a1 == a2) a0_0 l0_1) else (impl_MeetingsOf.j0 k a1 a2 true a0_0 l0_1))) = some (r1, r2) := by rw [if_pos rfl] at H; exact H
   clear H
   have H := H1
   clear H1
   replace H := Option.bind_eq_some_iff.mp H
   obtain ⟨t354, A80, H⟩ := H
   replace H : (if t354 = true then (impl_MeetingsOf.j0 k a1 a2 (a1 == a2) a0_0 l0_1) else (impl_MeetingsOf.j0 k a1 a2 true a0_0 l0_1)) = some (r1, r2) := H
   have A8 := Aside0.mk A80
   clear A80
   by_cases c9 : t354 = true
   ·subst c9
    have H1 : (impl_MeetingsOf.j0 k a1 a2 (a1 == a2) a0_0 l0_1) = some (r1, r2) := by rw [if_pos rfl] at H; exact H
    clear H
    have H := H1
    clear H1
    have H' := Aside0.mk H
    clear H
    have hcz10_0 : w5.cell? ⟨gb352, 0, none⟩ = some (.int .i64 a0_0) := (blk_cell BK352.out 0).trans rfl
    have hcz10_1 : w5.cell? ⟨gb352, 1, none⟩ = some (.slice A0_1 l0_1.length c0_1) := (blk_cell BK352.out 1).trans rfl
    have hfz10_0 := blk_frozen BK352.out 0
    have hfz10_1 := blk_frozen BK352.out 1
    go_wp2_with (first | ((with_reducible refine gate_callee (f := 89) rfl ?_); refine goesL_ (some 14) rfl rfl Try.func89 zq17 rfl #[.agg #[.int .i64 a0_0, .slice A0_1 l0_1.length c0_1], .int .i64 a1] rfl zq0 ?_; (with_reducible refine (impl_hasWire.calls a0_0 _ _ l0_1 a1 true _ ?side1 ?side2 A6.out).mono ?_); (case side1 => exact zq7); (case side2 => exact zq83); rintro e w11 ⟨rfl, hb⟩; refine ⟨_, rfl, ?_⟩; replace BK352 := Aside0.mk (blk_below (pKq5 BK352) hb); replace HB := Aside0.mk (below_step (pBq5 HB) hb); (try clear hb); have hcz12_0 : w11.cell? ⟨gb352, 0, none⟩ = some (.int .i64 a0_0) := (blk_cell BK352.out 0).trans rfl; have hcz12_1 : w11.cell? ⟨gb352, 1, none⟩ = some (.slice A0_1 l0_1.length c0_1) := (blk_cell BK352.out 1).trans rfl; have hfz12_0 := blk_frozen BK352.out 0; have hfz12_1 := blk_frozen BK352.out 1) | (go_at_call 89; (with_reducible refine (impl_hasWire.calls a0_0 _ _ l0_1 a2 true _ ?side1 ?side2 A8.out).mono ?_); (case side1 => exact zq7); (case side2 => exact zq83); rintro e w13 ⟨rfl, hb⟩; replace BK352 := Aside0.mk (blk_below (pKq5 BK352) hb); replace HB := Aside0.mk (below_step (pBq5 HB) hb); (try clear hb)))
    go_meet
    case rel => exact ⟨_, ((a1 == a2)), zq8, H', ⟨by first | omega | exact Nat.le_refl _⟩, ⟨zq37⟩, ⟨zq23⟩⟩
   ·replace c9 := Bool.eq_false_iff.mpr c9
    subst c9
    have H1 : (impl_MeetingsOf.j0 k a1 a2 true a0_0 l0_1) = some (r1, r2) := by rw [if_neg (show ¬ (false = true) by decide)] at H; exact H
    clear H
    have H := H1
    clear H1
    have H' := Aside0.mk H
    clear H
    have hcz14_0 : w5.cell? ⟨gb352, 0, none⟩ = some (.int .i64 a0_0) := (blk_cell BK352.out 0).trans rfl
    have hcz14_1 : w5.cell? ⟨gb352, 1, none⟩ = some (.slice A0_1 l0_1.length c0_1) := (blk_cell BK352.out 1).trans rfl
    have hfz14_0 := blk_frozen BK352.out 0
    have hfz14_1 := blk_frozen BK352.out 1
    go_wp2_with (first | ((with_reducible refine gate_callee (f := 89) rfl ?_); refine goesL_ (some 14) rfl rfl Try.func89 zq17 rfl #[.agg #[.int .i64 a0_0, .slice A0_1 l0_1.length c0_1], .int .i64 a1] rfl zq0 ?_; (with_reducible refine (impl_hasWire.calls a0_0 _ _ l0_1 a1 true _ ?side1 ?side2 A6.out).mono ?_); (case side1 => exact zq7); (case side2 => exact zq83); rintro e w15 ⟨rfl, hb⟩; refine ⟨_, rfl, ?_⟩; replace BK352 := Aside0.mk (blk_below (pKq5 BK352) hb); replace HB := Aside0.mk (below_step (pBq5 HB) hb); (try clear hb); have hcz16_0 : w15.cell? ⟨gb352, 0, none⟩ = some (.int .i64 a0_0) := (blk_cell BK352.out 0).trans rfl; have hcz16_1 : w15.cell? ⟨gb352, 1, none⟩ = some (.slice A0_1 l0_1.length c0_1) := (blk_cell BK352.out 1).trans rfl; have hfz16_0 := blk_frozen BK352.out 0; have hfz16_1 := blk_frozen BK352.out 1) | (go_at_call 89; (with_reducible refine (impl_hasWire.calls a0_0 _ _ l0_1 a2 false _ ?side1 ?side2 A8.out).mono ?_); (case side1 => exact zq7); (case side2 => exact zq83); rintro e w17 ⟨rfl, hb⟩; replace BK352 := Aside0.mk (blk_below (pKq5 BK352) hb); replace HB := Aside0.mk (below_step (pBq5 HB) hb); (try clear hb)))
    go_meet
    case rel => exact ⟨_, (true), zq8, H', ⟨by first | omega | exact Nat.le_refl _⟩, ⟨zq37⟩, ⟨zq23⟩⟩
  ·replace c7 := Bool.eq_false_iff.mpr c7
   subst c7
   have H1 : (impl_MeetingsOf.j0 k a1 a2 true a0_0 l0_1) = some (r1, r2) := by rw [if_neg (show ¬ (false = true) by decide)] at H; exact H
   clear H
   have H := H1
   clear H1
   have H' := Aside0.mk H
   clear H
   have hcz18_0 : w5.cell? ⟨gb352, 0, none⟩ = some (.int .i64 a0_0) := (blk_cell BK352.out 0).trans rfl
   have hcz18_1 : w5.cell? ⟨gb352, 1, none⟩ = some (.slice A0_1 l0_1.length c0_1) := (blk_cell BK352.out 1).trans rfl
   have hfz18_0 := blk_frozen BK352.out 0
   have hfz18_1 := blk_frozen BK352.out 1
   go_wp2_with (first | ((with_reducible refine gate_callee (f := 89) rfl ?_); refine goesL_ (some 14) rfl rfl Try.func89 zq17 rfl #[.agg #[.int .i64 a0_0, .slice A0_1 l0_1.length c0_1], .int .i64 a1] rfl zq0 ?_; (with_reducible refine (impl_hasWire.calls a0_0 _ _ l0_1 a1 false _ ?side1 ?side2 A6.out).mono ?_); (case side1 => exact zq7); (case side2 => exact zq83); rintro e w19 ⟨rfl, hb⟩; refine ⟨_, rfl, ?_⟩; replace BK352 := Aside0.mk (blk_below (pKq5 BK352) hb); replace HB := Aside0.mk (below_step (pBq5 HB) hb); (try clear hb)))
   go_meet
   case rel => exact ⟨_, (true), zq8, H', ⟨by first | omega | exact Nat.le_refl _⟩, ⟨zq37⟩, ⟨zq23⟩⟩
 case rest =>
  clear HC4
  try clear p2
  try clear c3
  try clear c7
  try clear c8
  try clear c9
  try clear hcz10_0
  try clear hcz10_1
  try clear hcz12_0
  try clear hcz12_1
  try clear hcz14_0
  try clear hcz14_1
  try clear hcz16_0
  try clear hcz16_1
  try clear hcz18_0
  try clear hcz18_1
  try clear hfz10_0
  try clear hfz10_1
  try clear hfz12_0
  try clear hfz12_1
  try clear hfz14_0
  try clear hfz14_1
  try clear hfz16_0
  try clear hfz16_1
  try clear hfz18_0
  try clear hfz18_1
  obtain ⟨kq, x26_3, rfl, HA, HJ3, BK352, HB⟩ := hcut
  cases kq with
  | zero => exact absurd HA.out (by simp [impl_MeetingsOf.j0])
  | succ kj3 =>
   have H := HA.out
   clear HA
   simp only [impl_MeetingsOf.j0] at H
   by_cases c20 : x26_3 = true
   ·subst c20
    have H1 : (some (0, false)) = some (r1, r2) := by rw [if_pos rfl] at H; exact H
    clear H
    have H := H1
    clear H1
    simp only [Option.some.injEq, Prod.mk.injEq] at H
    obtain ⟨rfl, rfl⟩ := H
    go_wp2
    go_ret2
    exact ⟨zq3, zq23⟩
   ·replace c20 := Bool.eq_false_iff.mpr c20
    subst c20
    have H1 : ((impl_way.f kj3 a0_0 l0_1 a1).bind fun t355 => ((impl_way.f kj3 a0_0 l0_1 a2).bind fun t358 => (impl_MeetingsOf.l0 kj3 t355 t358 0 (l0_1.length : Int) 0))) = some (r1, r2) := by rw [if_neg (show ¬ (false = true) by decide)] at H; exact H
    clear H
    have H := H1
    clear H1
    replace H := Option.bind_eq_some_iff.mp H
    obtain ⟨t355, A210, H⟩ := H
    replace H : ((impl_way.f kj3 a0_0 l0_1 a2).bind fun t358 => (impl_MeetingsOf.l0 kj3 t355 t358 0 (l0_1.length : Int) 0)) = some (r1, r2) := H
    have A21 := Aside0.mk A210
    clear A210
    replace H := Option.bind_eq_some_iff.mp H
    obtain ⟨t358, A220, H⟩ := H
    replace H : (impl_MeetingsOf.l0 kj3 t355 t358 0 (l0_1.length : Int) 0) = some (r1, r2) := H
    have A22 := Aside0.mk A220
    clear A220
    have H' := Aside0.mk H
    clear H
    try go_wp2
    replace BK352 := Aside0.mk (blk_drew BK352.out)
    replace HB := Aside0.mk (below_drew1 HB.out)
    refine start_ (n := 9) (S := fun w' => w'.cell? ⟨gb352, 0, none⟩ = some (.int .i64 a0_0) ∧ w'.cell? ⟨gb352, 1, none⟩ = some (.slice A0_1 l0_1.length c0_1)) (ds := []) #[false, false, false, false, false, false, false, false, false] zq17 rfl rfl ⟨(blk_cell BK352.out 0).trans rfl, (blk_cell BK352.out 1).trans rfl⟩ (fun hHeld => ?_); refine with_tabW impl_MeetingsOf.tab3 impl_MeetingsOf.bits3 (fun HT_ HW_ => ?_)
    generalize wc.drew = w23 at BK352 HB hHeld ⊢
    refine zU 1 28 HT_ ?_
    refine zU 4 31 HT_ ?_
    refine zT 0 27 HT_ HW_ hHeld ?_
    refine zT 3 30 HT_ HW_ hHeld ?_
    refine zO 2 29 HT_ fun K hK => ?_
    refine goes_ Try.func90 zq17 rfl #[.agg #[.int .i64 a0_0, .slice A0_1 l0_1.length c0_1], .int .i64 a1] (by rfl) rfl rfl zq0 ?_
    with_reducible refine (impl_way.calls kj3 a0_0 _ _ l0_1 a1 t355 _ ?side1 ?side2 A21.out).mono ?_
    (case side1 => exact zq7)
    (case side2 => exact zq83)
    rintro e w24 ⟨v356, rfl, ho0, hb⟩
    refine ⟨_, rfl, ?_⟩
    have HO357 := Aside0.mk (Kd.R_lower ho0 (below_size (pBq5 HB)))
    replace BK352 := Aside0.mk (blk_below (pKq5 BK352) hb)
    replace HB := Aside0.mk (below_step (pBq5 HB) hb)
    (try clear hb)
    (try clear hb2)
    (try clear hk)
    (try clear hi)
    (try clear ho0)
    refine hK.out _ _ ⟨(blk_cell BK352.out 0).trans rfl, (blk_cell BK352.out 1).trans rfl⟩ (fun hHeld => ?_)
    clear hK K
    refine zN 29 ?_
    refine zO 5 32 HT_ fun K hK => ?_
    refine goes_ Try.func90 zq17 rfl #[.agg #[.int .i64 a0_0, .slice A0_1 l0_1.length c0_1], .int .i64 a2] (by rfl) rfl rfl zq0 ?_
    with_reducible refine (impl_way.calls kj3 a0_0 _ _ l0_1 a2 t358 _ ?side1 ?side2 A22.out).mono ?_
    (case side1 => exact zq7)
    (case side2 => exact zq83)
    rintro e w25 ⟨v359, rfl, ho0, hb⟩
    refine ⟨_, rfl, ?_⟩
    have HO360 := Aside0.mk (Kd.R_lower (Kd.R_new' ho0 (Kd.R_lt (pRq5 HO357))) (below_size (pBq5 HB)))
    replace HO357 := Aside0.mk (Kd.R_elder' (pRq5 HO357) (Kd.R_base ho0) hb)
    replace BK352 := Aside0.mk (blk_below (pKq5 BK352) hb)
    replace HB := Aside0.mk (below_step (pBq5 HB) hb)
    (try clear hb)
    (try clear hb2)
    (try clear hk)
    (try clear hi)
    (try clear ho0)
    refine hK.out _ _ ⟨(blk_cell BK352.out 0).trans rfl, (blk_cell BK352.out 1).trans rfl⟩ (fun hHeld => ?_)
    clear hK K
    refine zN 32 ?_
    refine zU 6 8 HT_ ?_
    refine zU 7 9 HT_ ?_
    refine zU 8 10 HT_ ?_
    refine done_ (done_of HT_.out zq17) ?_
    have hcz26_0 : w25.cell? ⟨gb352, 0, none⟩ = some (.int .i64 a0_0) := (blk_cell BK352.out 0).trans rfl
    have hcz26_1 : w25.cell? ⟨gb352, 1, none⟩ = some (.slice A0_1 l0_1.length c0_1) := (blk_cell BK352.out 1).trans rfl
    have hfz26_0 := blk_frozen BK352.out 0
    have hfz26_1 := blk_frozen BK352.out 1
    try go_wp2
    go_loopg [10, 36] kj3 (fun kq v10 v36 w' => ∃ (x10_2 : Int) (x36_2 : Int), v10 = .int .i64 x10_2 ∧ v36 = .int .i64 x36_2 ∧ Aside0 (impl_MeetingsOf.l0 kq t355 t358 x10_2 (l0_1.length : Int) x36_2 = some (r1, r2)) ∧ Aside0 (kq ≤ kj3) ∧ Aside0 (Kd.R (Kd.int .i64) 3 w' w.heap.size (fun k_ => some k_ ≠ (v359 : Value).ownBlock) v356 t355) ∧ Aside0 (Kd.R (Kd.int .i64) 3 w' w.heap.size (fun k_ => some k_ ≠ (v356 : Value).ownBlock) v359 t358) ∧ Aside0 (w'.heap[gb352]? = some (.cells #[.int .i64 a0_0, (.slice A0_1 l0_1.length c0_1)] 40 (0, 0))) ∧ Aside0 (Below w.heap.size w w'))
    case atStart => exact ⟨(0), (0), zq8, zq8, H', ⟨Nat.le_refl _⟩, ⟨by (with_reducible repeat (first | apply Kd.R_alloc | apply Kd.R_drewN | apply Kd.R_drew)); exact Kd.R_mono HO357.out (fun _ hk => hk.2)⟩, ⟨by (with_reducible repeat (first | apply Kd.R_alloc | apply Kd.R_drewN | apply Kd.R_drew)); exact Kd.R_mono HO360.out (fun _ hk => hk.2)⟩, ⟨zq37⟩, ⟨zq23⟩⟩
    case round =>
     clear H'
     try clear c2
     try clear p2
     try clear c3
     try clear c7
     try clear c8
     try clear c9
     try clear c20
     try clear hcz10_0
     try clear hcz10_1
     try clear hcz12_0
     try clear hcz12_1
     try clear hcz14_0
     try clear hcz14_1
     try clear hcz16_0
     try clear hcz16_1
     try clear hcz18_0
     try clear hcz18_1
     try clear hcz26_0
     try clear hcz26_1
     try clear hfz10_0
     try clear hfz10_1
     try clear hfz12_0
     try clear hfz12_1
     try clear hfz14_0
     try clear hfz14_1
     try clear hfz16_0
     try clear hfz16_1
     try clear hfz18_0
     try clear hfz18_1
     try clear hfz26_0
     try clear hfz26_1
     try clear p2
     obtain ⟨x10_2, x36_2, rfl, rfl, HA, HK2, HO_8, HO_9, BK352, HB⟩ := hrel
     cases gk with
     | zero => exact absurd HA.out (by simp [impl_MeetingsOf.l0])
     | succ k2 =>
      have H := HA.out
      clear HA
      simp only [impl_MeetingsOf.l0] at H
      by_cases c27 : x36_2 < (l0_1.length : Int)
      ·rw [if_pos c27] at H
       have c27b0 : decide (x36_2 < (l0_1.length : Int)) = true := decide_eq_true c27
       clear c27
       by_cases c28 : 0 ≤ x36_2
       ·rw [if_pos c28] at H
        have c28b0 : decide (0 ≤ x36_2) = true := decide_eq_true c28
        clear c28
        by_cases c29 : x36_2 < (t355.length : Int)
        ·rw [if_pos c29] at H
         have c29b0 : decide (x36_2 < (t355.length : Int)) = true := decide_eq_true c29
         clear c29
         obtain ⟨ji30, hji30⟩ : ∃ j_ : Int, (wrap64 (x36_2 + 1)) = j_ := ⟨_, rfl⟩
         replace H : (if 0 ≤ (ji30) then (if (ji30) < (t358.length : Int) then (if (rd t355 x36_2) = (rd t358 (ji30)) then (if x36_2 < (t358.length : Int) then (if (ji30) < (t355.length : Int) then (if (rd t358 x36_2) = (rd t355 (ji30)) then (impl_MeetingsOf.l0 k2 t355 t358 (wrap64 (x10_2 + 1)) (l0_1.length : Int) ji30) else (impl_MeetingsOf.l0 k2 t355 t358 x10_2 (l0_1.length : Int) ji30)) else (none)) else (none)) else (impl_MeetingsOf.l0 k2 t355 t358 x10_2 (l0_1.length : Int) ji30)) else (none)) else (none)) = some (r1, r2) := by first | (rw [hji30] at H; exact H) | (simp only [hji30] at H ⊢; exact H)
         have hji30w : (IntKind.i64.wrap (x36_2 + 1)) = ji30 := (i64_w _).trans hji30
         by_cases c31 : 0 ≤ (ji30)
         ·rw [if_pos c31] at H
          have c31b0 : decide (0 ≤ (ji30)) = true := decide_eq_true c31
          clear c31
          by_cases c32 : (ji30) < (t358.length : Int)
          ·rw [if_pos c32] at H
           have c32b0 : decide ((ji30) < (t358.length : Int)) = true := decide_eq_true c32
           clear c32
           by_cases c33 : (rd t355 x36_2) = (rd t358 (ji30))
           ·rw [if_pos c33] at H
            have c33b0 : ((rd t355 x36_2) == (rd t358 (ji30))) = true := beq_iff_eq.mpr c33
            have c33b1 : ((rd t355 x36_2) != (rd t358 (ji30))) = false := bne_eq_false_iff_eq.mpr c33
            clear c33
            by_cases c34 : x36_2 < (t358.length : Int)
            ·rw [if_pos c34] at H
             have c34b0 : decide (x36_2 < (t358.length : Int)) = true := decide_eq_true c34
             clear c34
             by_cases c35 : (ji30) < (t355.length : Int)
             ·rw [if_pos c35] at H
              have c35b0 : decide ((ji30) < (t355.length : Int)) = true := decide_eq_true c35
              clear c35
              by_cases c36 : (rd t358 x36_2) = (rd t355 (ji30))
              ·rw [if_pos c36] at H
               have c36b0 : ((rd t358 x36_2) == (rd t355 (ji30))) = true := beq_iff_eq.mpr c36
               have c36b1 : ((rd t358 x36_2) != (rd t355 (ji30))) = false := bne_eq_false_iff_eq.mpr c36
               clear c36
               have H' := Aside0.mk H
               clear H
               try go_wp2
               replace HO_8 := Aside0.mk (Kd.R_drew HO_8.out)
               replace HO_9 := Aside0.mk (Kd.R_drew HO_9.out)
               replace BK352 := Aside0.mk (blk_drew BK352.out)
               replace HB := Aside0.mk (below_drew1 HB.out)
               obtain ⟨Ao38, co38, eo38⟩ := Kd.R_slice HO_8.out
               (first | subst eo38 | (injection eo38 with f1_ f2_ f3_; have f4_ := f1_.symm; have f5_ := f3_.symm; clear f1_ f2_ f3_; subst f4_; subst f5_))
               have p361 : 0 ≤ (x36_2 : Int) := of_decide_eq_true zq2
               have q361 : x36_2 < (t355.length : Int) := of_decide_eq_true zq2
               obtain ⟨ad361, e361, hx361_0⟩ := Kd.at_int (Kd.R_reads' HO_8.out).2.2 x36_2 p361 q361
               cases e361
               replace p361 := eq_true p361
               replace q361 := eq_true q361
               obtain ⟨Ao39, co39, eo39⟩ := Kd.R_slice HO_9.out
               (first | subst eo39 | (injection eo39 with f1_ f2_ f3_; have f4_ := f1_.symm; have f5_ := f3_.symm; clear f1_ f2_ f3_; subst f4_; subst f5_))
               have p362 : 0 ≤ ((ji30) : Int) := of_decide_eq_true zq2
               have q362 : (ji30) < (t358.length : Int) := of_decide_eq_true zq2
               obtain ⟨ad362, e362, hx362_0⟩ := Kd.at_int (Kd.R_reads' HO_9.out).2.2 (ji30) p362 q362
               cases e362
               replace p362 := eq_true p362
               replace q362 := eq_true q362
               have p363 : 0 ≤ (x36_2 : Int) := of_decide_eq_true zq2
               have q363 : x36_2 < (t358.length : Int) := of_decide_eq_true zq2
               obtain ⟨ad363, e363, hx363_0⟩ := Kd.at_int (Kd.R_reads' HO_9.out).2.2 x36_2 p363 q363
               obtain rfl : ad362 = ad363 := (by injection e363)
               replace p363 := eq_true p363
               replace q363 := eq_true q363
               have p364 : 0 ≤ ((ji30) : Int) := of_decide_eq_true zq2
               have q364 : (ji30) < (t355.length : Int) := of_decide_eq_true zq2
               obtain ⟨ad364, e364, hx364_0⟩ := Kd.at_int (Kd.R_reads' HO_8.out).2.2 (ji30) p364 q364
               obtain rfl : ad361 = ad364 := (by injection e364)
               replace p364 := eq_true p364
               replace q364 := eq_true q364
               refine start_ (n := 22) (S := fun w' => w'.cell? (ad361.add (x36_2).toNat) = some (.int .i64 (rd t355 x36_2)) ∧ w'.cell? (ad362.add ((ji30)).toNat) = some (.int .i64 (rd t358 (ji30))) ∧ w'.cell? (ad362.add (x36_2).toNat) = some (.int .i64 (rd t358 x36_2)) ∧ w'.cell? (ad361.add ((ji30)).toNat) = some (.int .i64 (rd t355 (ji30)))) (ds := []) #[false, false, false, false, false, false, false, false, false, false, false, false, false, false, false, false, false, false, false, false, false, false] zq17 rfl rfl ⟨hx361_0, hx362_0, hx363_0, hx364_0⟩ (fun hHeld => ?_); refine with_tabW impl_MeetingsOf.tab7 impl_MeetingsOf.bits7 (fun HT_ HW_ => ?_)
               generalize wr.drew = w37 at HO_8 HO_9 BK352 HB hx361_0 hx362_0 hx363_0 hx364_0 hHeld ⊢
               refine zU 0 39 HT_ ?_
               refine zU 1 40 HT_ ?_
               refine zU 2 41 HT_ ?_
               refine zU 4 43 HT_ ?_
               refine zU 5 44 HT_ ?_
               refine zU 6 45 HT_ ?_
               refine zU 7 46 HT_ ?_
               refine zT 3 42 HT_ HW_ hHeld ?_
               refine zT 8 47 HT_ HW_ hHeld ?_
               refine zU 9 48 HT_ ?_
               refine zU 10 49 HT_ ?_
               refine zU 11 50 HT_ ?_
               refine zU 12 51 HT_ ?_
               refine zU 13 52 HT_ ?_
               refine zU 15 54 HT_ ?_
               refine zU 16 55 HT_ ?_
               refine zU 17 56 HT_ ?_
               refine zU 18 57 HT_ ?_
               refine zT 14 53 HT_ HW_ hHeld ?_
               refine zT 19 58 HT_ HW_ hHeld ?_
               refine zU 20 59 HT_ ?_
               refine zU 21 60 HT_ ?_
               refine done_ (done_of HT_.out zq17) ?_
               try go_wp2
               go_roundg k2
               case measure => have := HJ3.out; have := HK2.out; omega
               case rel => exact ⟨(wrap64 (x10_2 + 1)), (ji30), zq8, zq81, H', ⟨by have := HJ3.out; have := HK2.out; omega⟩, ⟨zq74⟩, ⟨zq73⟩, ⟨zq37⟩, ⟨zq23⟩⟩
              ·rw [if_neg c36] at H
               have c36b0 : ((rd t358 x36_2) == (rd t355 (ji30))) = false := beq_eq_false_iff_ne.mpr c36
               have c36b1 : ((rd t358 x36_2) != (rd t355 (ji30))) = true := bne_iff_ne.mpr c36
               have H' := Aside0.mk H
               clear H
               try go_wp2
               replace HO_8 := Aside0.mk (Kd.R_drew HO_8.out)
               replace HO_9 := Aside0.mk (Kd.R_drew HO_9.out)
               replace BK352 := Aside0.mk (blk_drew BK352.out)
               replace HB := Aside0.mk (below_drew1 HB.out)
               obtain ⟨Ao41, co41, eo41⟩ := Kd.R_slice HO_8.out
               (first | subst eo41 | (injection eo41 with f1_ f2_ f3_; have f4_ := f1_.symm; have f5_ := f3_.symm; clear f1_ f2_ f3_; subst f4_; subst f5_))
               have p361 : 0 ≤ (x36_2 : Int) := of_decide_eq_true zq2
               have q361 : x36_2 < (t355.length : Int) := of_decide_eq_true zq2
               obtain ⟨ad361, e361, hx361_0⟩ := Kd.at_int (Kd.R_reads' HO_8.out).2.2 x36_2 p361 q361
               cases e361
               replace p361 := eq_true p361
               replace q361 := eq_true q361
               obtain ⟨Ao42, co42, eo42⟩ := Kd.R_slice HO_9.out
               (first | subst eo42 | (injection eo42 with f1_ f2_ f3_; have f4_ := f1_.symm; have f5_ := f3_.symm; clear f1_ f2_ f3_; subst f4_; subst f5_))
               have p362 : 0 ≤ ((ji30) : Int) := of_decide_eq_true zq2
               have q362 : (ji30) < (t358.length : Int) := of_decide_eq_true zq2
               obtain ⟨ad362, e362, hx362_0⟩ := Kd.at_int (Kd.R_reads' HO_9.out).2.2 (ji30) p362 q362
               cases e362
               replace p362 := eq_true p362
               replace q362 := eq_true q362
               have p363 : 0 ≤ (x36_2 : Int) := of_decide_eq_true zq2
               have q363 : x36_2 < (t358.length : Int) := of_decide_eq_true zq2
               obtain ⟨ad363, e363, hx363_0⟩ := Kd.at_int (Kd.R_reads' HO_9.out).2.2 x36_2 p363 q363
               obtain rfl : ad362 = ad363 := (by injection e363)
               replace p363 := eq_true p363
               replace q363 := eq_true q363
               have p364 : 0 ≤ ((ji30) : Int) := of_decide_eq_true zq2
               have q364 : (ji30) < (t355.length : Int) := of_decide_eq_true zq2
               obtain ⟨ad364, e364, hx364_0⟩ := Kd.at_int (Kd.R_reads' HO_8.out).2.2 (ji30) p364 q364
               obtain rfl : ad361 = ad364 := (by injection e364)
               replace p364 := eq_true p364
               replace q364 := eq_true q364
               refine start_ (n := 22) (S := fun w' => w'.cell? (ad361.add (x36_2).toNat) = some (.int .i64 (rd t355 x36_2)) ∧ w'.cell? (ad362.add ((ji30)).toNat) = some (.int .i64 (rd t358 (ji30))) ∧ w'.cell? (ad362.add (x36_2).toNat) = some (.int .i64 (rd t358 x36_2)) ∧ w'.cell? (ad361.add ((ji30)).toNat) = some (.int .i64 (rd t355 (ji30)))) (ds := []) #[false, false, false, false, false, false, false, false, false, false, false, false, false, false, false, false, false, false, false, false, false, false] zq17 rfl rfl ⟨hx361_0, hx362_0, hx363_0, hx364_0⟩ (fun hHeld => ?_); refine with_tabW impl_MeetingsOf.tab7 impl_MeetingsOf.bits7 (fun HT_ HW_ => ?_)
               generalize wr.drew = w40 at HO_8 HO_9 BK352 HB hx361_0 hx362_0 hx363_0 hx364_0 hHeld ⊢
               refine zU 0 39 HT_ ?_
               refine zU 1 40 HT_ ?_
               refine zU 2 41 HT_ ?_
               refine zU 4 43 HT_ ?_
               refine zU 5 44 HT_ ?_
               refine zU 6 45 HT_ ?_
               refine zU 7 46 HT_ ?_
               refine zT 3 42 HT_ HW_ hHeld ?_
               refine zT 8 47 HT_ HW_ hHeld ?_
               refine zU 9 48 HT_ ?_
               refine zU 10 49 HT_ ?_
               refine zU 11 50 HT_ ?_
               refine zU 12 51 HT_ ?_
               refine zU 13 52 HT_ ?_
               refine zU 15 54 HT_ ?_
               refine zU 16 55 HT_ ?_
               refine zU 17 56 HT_ ?_
               refine zU 18 57 HT_ ?_
               refine zT 14 53 HT_ HW_ hHeld ?_
               refine zT 19 58 HT_ HW_ hHeld ?_
               refine zU 20 59 HT_ ?_
               refine zU 21 60 HT_ ?_
               refine done_ (done_of HT_.out zq17) ?_
               try go_wp2
               go_roundg k2
               case measure => have := HJ3.out; have := HK2.out; omega
               case rel => exact ⟨(x10_2), (ji30), zq8, zq81, H', ⟨by have := HJ3.out; have := HK2.out; omega⟩, ⟨zq74⟩, ⟨zq73⟩, ⟨zq37⟩, ⟨zq23⟩⟩
             ·rw [if_neg c35] at H
              exact absurd H zq41
            ·rw [if_neg c34] at H
             exact absurd H zq41
           ·rw [if_neg c33] at H
            have c33b0 : ((rd t355 x36_2) == (rd t358 (ji30))) = false := beq_eq_false_iff_ne.mpr c33
            have c33b1 : ((rd t355 x36_2) != (rd t358 (ji30))) = true := bne_iff_ne.mpr c33
            have H' := Aside0.mk H
            clear H
            try go_wp2
            replace HO_8 := Aside0.mk (Kd.R_drew HO_8.out)
            replace HO_9 := Aside0.mk (Kd.R_drew HO_9.out)
            replace BK352 := Aside0.mk (blk_drew BK352.out)
            replace HB := Aside0.mk (below_drew1 HB.out)
            obtain ⟨Ao44, co44, eo44⟩ := Kd.R_slice HO_8.out
            (first | subst eo44 | (injection eo44 with f1_ f2_ f3_; have f4_ := f1_.symm; have f5_ := f3_.symm; clear f1_ f2_ f3_; subst f4_; subst f5_))
            have p361 : 0 ≤ (x36_2 : Int) := of_decide_eq_true zq2
            have q361 : x36_2 < (t355.length : Int) := of_decide_eq_true zq2
            obtain ⟨ad361, e361, hx361_0⟩ := Kd.at_int (Kd.R_reads' HO_8.out).2.2 x36_2 p361 q361
            cases e361
            replace p361 := eq_true p361
            replace q361 := eq_true q361
            obtain ⟨Ao45, co45, eo45⟩ := Kd.R_slice HO_9.out
            (first | subst eo45 | (injection eo45 with f1_ f2_ f3_; have f4_ := f1_.symm; have f5_ := f3_.symm; clear f1_ f2_ f3_; subst f4_; subst f5_))
            have p362 : 0 ≤ ((ji30) : Int) := of_decide_eq_true zq2
            have q362 : (ji30) < (t358.length : Int) := of_decide_eq_true zq2
            obtain ⟨ad362, e362, hx362_0⟩ := Kd.at_int (Kd.R_reads' HO_9.out).2.2 (ji30) p362 q362
            cases e362
            replace p362 := eq_true p362
            replace q362 := eq_true q362
            refine start_ (n := 22) (S := fun w' => w'.cell? (ad361.add (x36_2).toNat) = some (.int .i64 (rd t355 x36_2)) ∧ w'.cell? (ad362.add ((ji30)).toNat) = some (.int .i64 (rd t358 (ji30)))) (ds := []) #[false, false, false, false, false, false, false, false, false, false, false, false, false, false, false, false, false, false, false, false, false, false] zq17 rfl rfl ⟨hx361_0, hx362_0⟩ (fun hHeld => ?_); refine with_tabW impl_MeetingsOf.tab7 impl_MeetingsOf.bits7 (fun HT_ HW_ => ?_)
            generalize wr.drew = w43 at HO_8 HO_9 BK352 HB hx361_0 hx362_0 hHeld ⊢
            refine zU 0 39 HT_ ?_
            refine zU 1 40 HT_ ?_
            refine zU 2 41 HT_ ?_
            refine zU 4 43 HT_ ?_
            refine zU 5 44 HT_ ?_
            refine zU 6 45 HT_ ?_
            refine zU 7 46 HT_ ?_
            refine zT 3 42 HT_ HW_ hHeld ?_
            refine zT 8 47 HT_ HW_ hHeld ?_
            refine zU 9 48 HT_ ?_
            refine zU 10 49 HT_ ?_
            refine pure_ (i := 11) (N := some 50) (v := undef) (a' := ?_) #[true, true, true, true, true, true, true, true, true, true, true, true, false, false, false, false, false, false, false, false, false, false] rfl rfl (any_of HT_.out zq17) (fun _ _ _ h => h) (Or.inr ⟨by rfl, rfl⟩) ?_ ?_
            rotate_left
            ·simp only [Act.put, setIfInBounds_toArray, set_cons_zero, set_cons_succ, i64_w, i32_w]
             rfl
            refine pure_ (i := 12) (N := some 51) (v := undef) (a' := ?_) #[true, true, true, true, true, true, true, true, true, true, true, true, true, false, false, false, false, false, false, false, false, false] rfl rfl (any_of HT_.out zq17) (fun _ _ _ h => h) (Or.inr ⟨by rfl, rfl⟩) ?_ ?_
            rotate_left
            ·simp only [Act.put, setIfInBounds_toArray, set_cons_zero, set_cons_succ, i64_w, i32_w]
             rfl
            refine pure_ (i := 13) (N := some 52) (v := undef) (a' := ?_) #[true, true, true, true, true, true, true, true, true, true, true, true, true, true, false, false, false, false, false, false, false, false] rfl rfl (any_of HT_.out zq17) (fun _ _ _ h => h) (Or.inr ⟨by rfl, rfl⟩) ?_ ?_
            rotate_left
            ·simp only [Act.put, setIfInBounds_toArray, set_cons_zero, set_cons_succ, i64_w, i32_w]
             rfl
            refine pure_ (i := 14) (N := some 53) (v := undef) (a' := ?_) #[true, true, true, true, true, true, true, true, true, true, true, true, true, true, true, false, false, false, false, false, false, false] rfl rfl (any_of HT_.out zq17) (fun _ _ _ h => h) (Or.inr ⟨by rfl, rfl⟩) ?_ ?_
            rotate_left
            ·simp only [Act.put, setIfInBounds_toArray, set_cons_zero, set_cons_succ, i64_w, i32_w]
             rfl
            refine pure_ (i := 15) (N := some 54) (v := undef) (a' := ?_) #[true, true, true, true, true, true, true, true, true, true, true, true, true, true, true, true, false, false, false, false, false, false] rfl rfl (any_of HT_.out zq17) (fun _ _ _ h => h) (Or.inr ⟨by rfl, rfl⟩) ?_ ?_
            rotate_left
            ·simp only [Act.put, setIfInBounds_toArray, set_cons_zero, set_cons_succ, i64_w, i32_w]
             rfl
            refine pure_ (i := 16) (N := some 55) (v := undef) (a' := ?_) #[true, true, true, true, true, true, true, true, true, true, true, true, true, true, true, true, true, false, false, false, false, false] rfl rfl (any_of HT_.out zq17) (fun _ _ _ h => h) (Or.inr ⟨by rfl, rfl⟩) ?_ ?_
            rotate_left
            ·simp only [Act.put, setIfInBounds_toArray, set_cons_zero, set_cons_succ, i64_w, i32_w]
             rfl
            refine pure_ (i := 17) (N := some 56) (v := undef) (a' := ?_) #[true, true, true, true, true, true, true, true, true, true, true, true, true, true, true, true, true, true, false, false, false, false] rfl rfl (any_of HT_.out zq17) (fun _ _ _ h => h) (Or.inr ⟨by rfl, rfl⟩) ?_ ?_
            rotate_left
            ·simp only [Act.put, setIfInBounds_toArray, set_cons_zero, set_cons_succ, i64_w, i32_w]
             rfl
            refine pure_ (i := 18) (N := some 57) (v := undef) (a' := ?_) #[true, true, true, true, true, true, true, true, true, true, true, true, true, true, true, true, true, true, true, false, false, false] rfl rfl (any_of HT_.out zq17) (fun _ _ _ h => h) (Or.inr ⟨by rfl, rfl⟩) ?_ ?_
            rotate_left
            ·simp only [Act.put, setIfInBounds_toArray, set_cons_zero, set_cons_succ, i64_w, i32_w]
             rfl
            refine pure_ (i := 19) (N := some 58) (v := undef) (a' := ?_) #[true, true, true, true, true, true, true, true, true, true, true, true, true, true, true, true, true, true, true, true, false, false] rfl rfl (any_of HT_.out zq17) (fun _ _ _ h => h) (Or.inr ⟨by rfl, rfl⟩) ?_ ?_
            rotate_left
            ·simp only [Act.put, setIfInBounds_toArray, set_cons_zero, set_cons_succ, i64_w, i32_w]
             rfl
            refine pure_ (i := 20) (N := some 59) (v := undef) (a' := ?_) #[true, true, true, true, true, true, true, true, true, true, true, true, true, true, true, true, true, true, true, true, true, false] rfl rfl (any_of HT_.out zq17) (fun _ _ _ h => h) (Or.inr ⟨by rfl, rfl⟩) ?_ ?_
            rotate_left
            ·simp only [Act.put, setIfInBounds_toArray, set_cons_zero, set_cons_succ, i64_w, i32_w]
             rfl
            refine zU 21 60 HT_ ?_
            refine done_ (done_of HT_.out zq17) ?_
            try go_wp2
            go_roundg k2
            case measure => have := HJ3.out; have := HK2.out; omega
            case rel => exact ⟨(x10_2), (ji30), zq8, zq81, H', ⟨by have := HJ3.out; have := HK2.out; omega⟩, ⟨zq74⟩, ⟨zq73⟩, ⟨zq37⟩, ⟨zq23⟩⟩
          ·rw [if_neg c32] at H
           exact absurd H zq41
         ·rw [if_neg c31] at H
          exact absurd H zq41
        ·rw [if_neg c29] at H
         exact absurd H zq41
       ·rw [if_neg c28] at H
        exact absurd H zq41
      ·rw [if_neg c27] at H
       have c27b0 : decide (x36_2 < (l0_1.length : Int)) = false := decide_eq_false c27
       clear c27
       simp only [Option.some.injEq, Prod.mk.injEq] at H
       obtain ⟨rfl, rfl⟩ := H
       go_wp2
       go_ret2
       exact ⟨zq3, zq23⟩
/-! ### spec_l1Cur_one: function 79 -/
def spec_l1Cur_one.f (s0_0 : List Int) (s0_1 : Int) (s0_2 : Int) (a1 : Int) : Option (Bool × Int × Int) := (spec_l1Cur_pick.f s0_0 s0_1 s0_2 a1).bind fun bt365 => (some ((bt365.1 == 0), bt365.2.1, bt365.2.2))
set_option maxHeartbeats 8000000 in
set_option maxRecDepth 100000 in
theorem spec_l1Cur_one.calls (g : Nat) (s0_0 : List Int) (s0_1 : Int) (s0_2 : Int) (a1 : Int) (r1 : Bool) (r2 : Int) (r3 : Int) (w0 w : World) (hI : IsS75 w0 w g s0_0 s0_1 s0_2) (hB : Below w0.heap.size w0 w) (h : spec_l1Cur_one.f s0_0 s0_1 s0_2 a1 = some (r1, r2, r3)) :
  Calls Try.prog 79 #[.pointer (some ⟨g, 0, none⟩), .int .i64 a1] w fun e w' => e = .returned (.bool r1) ∧ IsS75 w0 w' g s0_0 r2 r3 ∧ Below w0.heap.size w0 w' ∧ KeepBut w w' g none := by
 have HI0 := Aside0.mk hI
 have HK := Aside0.mk (KeepBut.refl w g none)
 have HL := Aside0.mk hB.size
 clear hI
 have HW0 := Aside0.mk hB.size
 have HB := Aside0.mk hB
 clear hB
 have H : ((spec_l1Cur_pick.f s0_0 s0_1 s0_2 a1).bind fun bt365 => (some ((bt365.1 == 0), bt365.2.1, bt365.2.2))) = some (r1, r2, r3) := h
 clear h
 replace H := Option.bind_eq_some_iff.mp H
 obtain ⟨⟨t365, t366, t367⟩, A30, H⟩ := H
 replace H : (some ((t365 == 0), t366, t367)) = some (r1, r2, r3) := H
 have A3 := Aside0.mk A30
 clear A30
 simp only [Option.some.injEq, Prod.mk.injEq] at H
 obtain ⟨rfl, rfl, rfl⟩ := H
 go_enter Try.func79, Try.ntmps79
 go_wp2_with (first | ((with_reducible refine gate_callee (f := 91) rfl ?_); refine goesL_ (some 7) rfl rfl Try.func91 zq17 rfl #[.pointer (some ⟨g, 0, none⟩), .int .i64 a1] rfl zq0 ?_; (with_reducible refine (spec_l1Cur_pick.calls g s0_0 s0_1 s0_2 a1 t365 t366 t367 w0 _ ?side1 ?side2 A3.out).mono ?_); (case side1 => exact zq6); (case side2 => exact zq4); rintro e w4 ⟨rfl, hi, hb, hk⟩; refine ⟨_, rfl, ?_⟩; replace HK := Aside0.mk (KeepBut.trans zq1 hk (.inl rfl)); replace HB := Aside0.mk (hb); replace HI0 := Aside0.mk (hi); (try clear hb); (try clear hk); (try clear hi)))
 go_ret
 exact ⟨zq3, zq6, zq4, zq1⟩
/-! ### spec_l1Cur_sureLadder: function 118 -/
def spec_l1Cur_sureLadder.l0 : Nat → Int → List Int → Int → Int → Int → List Int → Option (Int × List Int × Int × Int)
 | 0, _, _, _, _, _, _ => none
 | k + 1, x8, x1000, x1001, x1002, x373000, x373001 => if x8 > 0 then ((spec_l1Cur_pick.f x1000 x1001 x1002 (wrap64 (x373000 - 1))).bind fun bt376 => (if x373001.length < 17592186044416 then (spec_l1Cur_sureLadder.l0 k (wrap64 (x8 - 1)) x1000 bt376.2.1 bt376.2.2 x373000 (x373001 ++ [bt376.1])) else (none))) else (some (x373000, x373001, x1001, x1002))
def spec_l1Cur_sureLadder.f (k : Nat) (s0_0 : List Int) (s0_1 : Int) (s0_2 : Int) (a1 : Int) (a2 : Int) : Option (Int × List Int × Int × Int) := (spec_l1Cur_pick.f s0_0 s0_1 s0_2 (wrap64 (a1 - 1))).bind fun bt369 => ((spec_l1Cur_pick.f s0_0 bt369.2.1 bt369.2.2 (wrap64 (a2 + 1))).bind fun bt373 => (spec_l1Cur_sureLadder.l0 k bt373.1 s0_0 bt373.2.1 bt373.2.2 (wrap64 (2 + bt369.1)) ([] : List Int)))
theorem spec_l1Cur_sureLadder.mono_l : ∀ k, (∀ y0 y1 y2 y3 y4 y5, LeO (spec_l1Cur_sureLadder.l0 k y0 y1 y2 y3 y4 y5) (spec_l1Cur_sureLadder.l0 (k + 1) y0 y1 y2 y3 y4 y5))
 | 0 => fun _ _ _ _ _ _ r h => by simp [spec_l1Cur_sureLadder.l0] at h
 | k + 1 => by
  have ih0 := spec_l1Cur_sureLadder.mono_l k
  ·intro y0 y1 y2 y3 y4 y5
   unfold spec_l1Cur_sureLadder.l0
   repeat' first | (with_reducible first | exact ih0 _ _ _ _ _ _ | exact LeO.refl _ | exact LeO.none _ | refine LeO.ite ?_ ?_ | refine LeO.bind ?_ (fun _ => ?_))
theorem spec_l1Cur_sureLadder.mono : ∀ a0 a1 a2 a3 a4 k, LeO (spec_l1Cur_sureLadder.f k a0 a1 a2 a3 a4) (spec_l1Cur_sureLadder.f (k + 1) a0 a1 a2 a3 a4) := by
 intro a0 a1 a2 a3 a4 k
 have ih0 := spec_l1Cur_sureLadder.mono_l k
 unfold spec_l1Cur_sureLadder.f
 repeat' first | (with_reducible first | exact ih0 _ _ _ _ _ _ | exact LeO.refl _ | exact LeO.none _ | refine LeO.ite ?_ ?_ | refine LeO.bind ?_ (fun _ => ?_))
def spec_l1Cur_sureLadder.T5 : Bool × List (List Nat × List Nat) := (true, [([], []), ([0], [0]), ([], []), ([], []), ([3], [3]), ([4], [4]), ([2, 5], [2, 5]), ([6], [6]), ([1, 7, 6], [1, 7]), ([0, 1, 2, 3, 4, 5, 6, 7, 8], []), ([9, 8, 8, 0, 1, 2, 3, 4, 5, 6, 7, 8], [8, 9])])
def spec_l1Cur_sureLadder.B5 : List Nat := [0, 1, 0, 0, 8, 24, 60, 124, 255, 511, 1023]
theorem spec_l1Cur_sureLadder.tab5 : rtab .any (opsOf Try.f118 5) = spec_l1Cur_sureLadder.T5 := by kernel_rfl
theorem spec_l1Cur_sureLadder.bits5 : waitsOk spec_l1Cur_sureLadder.T5.2 spec_l1Cur_sureLadder.B5 = true := by kernel_rfl
set_option maxHeartbeats 8000000 in
set_option maxRecDepth 100000 in
theorem spec_l1Cur_sureLadder.calls (k : Nat) (g : Nat) (s0_0 : List Int) (s0_1 : Int) (s0_2 : Int) (a1 : Int) (a2 : Int) (r1 : Int) (r2 : List Int) (r3 : Int) (r4 : Int) (w0 w : World) (hI : IsS75 w0 w g s0_0 s0_1 s0_2) (hB : Below w0.heap.size w0 w) (h : spec_l1Cur_sureLadder.f k s0_0 s0_1 s0_2 a1 a2 = some (r1, r2, r3, r4)) :
  Calls Try.prog 118 #[.pointer (some ⟨g, 0, none⟩), .int .i64 a1, .int .i64 a2] w fun e w' => ∃ v1_ : Value, e = .returned (.agg #[.int .i64 r1, v1_]) ∧ Kd.R (Kd.int .i64) 3 w' w.heap.size (fun _ => True) v1_ r2 ∧ IsS75 w0 w' g s0_0 r3 r4 ∧ Below w0.heap.size w0 w' ∧ KeepBut w w' g none := by
 have hu40 := Try.underlying40
 have HI0 := Aside0.mk hI
 have HK := Aside0.mk (KeepBut.refl w g none)
 have HL := Aside0.mk hB.size
 clear hI
 have HW0 := Aside0.mk hB.size
 have HB := Aside0.mk hB
 clear hB
 have H : ((spec_l1Cur_pick.f s0_0 s0_1 s0_2 (wrap64 (a1 - 1))).bind fun bt369 => ((spec_l1Cur_pick.f s0_0 bt369.2.1 bt369.2.2 (wrap64 (a2 + 1))).bind fun bt373 => (spec_l1Cur_sureLadder.l0 k bt373.1 s0_0 bt373.2.1 bt373.2.2 (wrap64 (2 + bt369.1)) ([] : List Int)))) = some (r1, r2, r3, r4) := h
 clear h
 replace H := Option.bind_eq_some_iff.mp H
 obtain ⟨⟨t369, t370, t371⟩, A40, H⟩ := H
 replace H : ((spec_l1Cur_pick.f s0_0 t370 t371 (wrap64 (a2 + 1))).bind fun bt373 => (spec_l1Cur_sureLadder.l0 k bt373.1 s0_0 bt373.2.1 bt373.2.2 (wrap64 (2 + t369)) ([] : List Int))) = some (r1, r2, r3, r4) := H
 have A4 := Aside0.mk A40
 clear A40
 replace H := Option.bind_eq_some_iff.mp H
 obtain ⟨⟨t373, t374, t375⟩, A50, H⟩ := H
 replace H : (spec_l1Cur_sureLadder.l0 k t373 s0_0 t374 t375 (wrap64 (2 + t369)) ([] : List Int)) = some (r1, r2, r3, r4) := H
 have A5 := Aside0.mk A50
 clear A50
 have H' := Aside0.mk H
 clear H
 go_enter Try.func118, Try.ntmps118
 go_wp2_with (first | ((with_reducible refine gate_dst (N := 6) rfl ?_); refine box_event ?hg (N := 6) ?hd (cs := #[.int .i64 0, .slice none 0 0]) (t := 40) ?hr ?_; (case hd => rfl); (case hg => rfl); (case hr => exact zq16); intro gb368 hg w6 hbox hb; have BK368 := Aside0.mk (hbox); have GW368 := Aside0.mk ((by rw [hg]; exact (keep_size (w := w) (g := g) (row := none) zq1) : w.heap.size ≤ gb368)); have GE368 := Aside0.mk ((Nat.le_trans HW0.out (by rw [hg]; exact (keep_size (w := w) (g := g) (row := none) zq1) : w.heap.size ≤ gb368) : w0.heap.size ≤ gb368)); have NB0_368 := Aside0.mk ((by rw [hg]; exact Nat.ne_of_lt (IsS75.lt (show IsS75 w0 _ g s0_0 s0_1 s0_2 from by repeat (first | (with_reducible first | exact HI0.out | apply IsS75.alloc | apply IsS75.drewN | apply IsS75.drew | apply IsS75.set_1 | apply IsS75.set_2) | exact HI0.out))) : g ≠ gb368)); have NB368_0 := Aside0.mk ((by rw [hg]; exact Nat.ne_of_gt (IsS75.lt (show IsS75 w0 _ g s0_0 s0_1 s0_2 from by repeat (first | (with_reducible first | exact HI0.out | apply IsS75.alloc | apply IsS75.drewN | apply IsS75.drew | apply IsS75.set_1 | apply IsS75.set_2) | exact HI0.out))) : gb368 ≠ g)); replace HK := Aside0.mk (KeepBut.trans zq1 (KeepBut.of_below hb g none) (.inl rfl)); replace HB := Aside0.mk (below_step zq4 hb); replace HI0 := Aside0.mk (IsS75.below zq6 hb); clear hb hbox hg) | ((with_reducible refine gate_callee (f := 91) rfl ?_); refine goesL_ (some 12) rfl rfl Try.func91 zq17 rfl #[.pointer (some ⟨g, 0, none⟩), .int .i64 (wrap64 (a1 - 1))] rfl zq0 ?_; (with_reducible refine (spec_l1Cur_pick.calls g s0_0 s0_1 s0_2 (wrap64 (a1 - 1)) t369 t370 t371 w0 _ ?side1 ?side2 A4.out).mono ?_); (case side1 => exact zq75); (case side2 => exact zq76); rintro e w7 ⟨rfl, hi, hb, hk⟩; refine ⟨_, rfl, ?_⟩; replace BK368 := Aside0.mk (KeepBut.blk hk (g' := gb368) (o := .cells #[.int .i64 0, .slice none 0 0] 40 (0, 0)) (pKq5 BK368) NB368_0.out zq41); replace HK := Aside0.mk (KeepBut.trans zq42 hk (.inl rfl)); replace HB := Aside0.mk (hb); replace HI0 := Aside0.mk (hi); (try clear hb); (try clear hk); (try clear hi)) | ((with_reducible refine gate_dst (N := 7) rfl ?_); refine box_event ?hg (N := 7) ?hd (cs := #[.int .i64 0, .slice none 0 0]) (t := 40) ?hr ?_; (case hd => rfl); (case hg => rfl); (case hr => exact zq16); intro gb372 hg w8 hbox hb; have BK372 := Aside0.mk (hbox); have GW372 := Aside0.mk ((by rw [hg]; exact (keep_size (w := w) (g := g) (row := none) zq42) : w.heap.size ≤ gb372)); have GE372 := Aside0.mk ((Nat.le_trans HW0.out (by rw [hg]; exact (keep_size (w := w) (g := g) (row := none) zq42) : w.heap.size ≤ gb372) : w0.heap.size ≤ gb372)); have NB368_372 := Aside0.mk ((by rw [hg]; exact Nat.ne_of_lt (blk_lt (pKq5 BK368)) : gb368 ≠ gb372)); have NB372_368 := Aside0.mk ((by rw [hg]; exact Nat.ne_of_gt (blk_lt (pKq5 BK368)) : gb372 ≠ gb368)); have NB0_372 := Aside0.mk ((by rw [hg]; exact Nat.ne_of_lt (IsS75.lt (show IsS75 w0 _ g s0_0 t370 t371 from by repeat (first | (with_reducible first | exact HI0.out | apply IsS75.alloc | apply IsS75.drewN | apply IsS75.drew | apply IsS75.set_1 | apply IsS75.set_2 | refine IsS75.far ?_ NB0_368.out _) | exact HI0.out))) : g ≠ gb372)); have NB372_0 := Aside0.mk ((by rw [hg]; exact Nat.ne_of_gt (IsS75.lt (show IsS75 w0 _ g s0_0 t370 t371 from by repeat (first | (with_reducible first | exact HI0.out | apply IsS75.alloc | apply IsS75.drewN | apply IsS75.drew | apply IsS75.set_1 | apply IsS75.set_2 | refine IsS75.far ?_ NB0_368.out _) | exact HI0.out))) : gb372 ≠ g)); replace BK368 := Aside0.mk (blk_below (pKq5 BK368) hb); replace HK := Aside0.mk (KeepBut.trans zq42 (KeepBut.of_below hb g none) (.inl rfl)); replace HB := Aside0.mk (below_step zq76 hb); replace HI0 := Aside0.mk (IsS75.below zq75 hb); clear hb hbox hg; have hnb9 := NB372_368.out; have hnc9 := NB368_372.out; have hnb10 := NB372_0.out; have hnc10 := NB0_372.out; have hcz11_0 : w8.cell? ⟨gb372, 0, none⟩ = some (.int .i64 0) := (blk_cell BK372.out 0).trans rfl; have hcz11_1 : w8.cell? ⟨gb372, 1, none⟩ = some (.slice none 0 0) := (blk_cell BK372.out 1).trans rfl; have hfz11_0 := blk_frozen BK372.out 0; have hfz11_1 := blk_frozen BK372.out 1) | ((with_reducible refine gate_callee (f := 91) rfl ?_); refine goesL_ (some 18) rfl rfl Try.func91 zq17 rfl #[.pointer (some ⟨g, 0, none⟩), .int .i64 (wrap64 (a2 + 1))] rfl zq0 ?_; (with_reducible refine (spec_l1Cur_pick.calls g s0_0 t370 t371 (wrap64 (a2 + 1)) t373 t374 t375 w0 _ ?side1 ?side2 A5.out).mono ?_); (case side1 => exact zq26); (case side2 => exact zq28); rintro e w12 ⟨rfl, hi, hb, hk⟩; refine ⟨_, rfl, ?_⟩; replace BK368 := Aside0.mk (KeepBut.blk hk (g' := gb368) (o := .cells #[.int .i64 0, .slice none 0 0] 40 (0, 0)) (by (with_reducible repeat (first | refine blk_drewN ?_ _ | refine blk_drew ?_ | refine blk_alloc ?_ _)); refine blk_far ?_ NB368_372.out _; (with_reducible repeat (first | refine blk_drewN ?_ _ | refine blk_drew ?_ | refine blk_alloc ?_ _)); refine blk_far ?_ NB368_372.out _; (with_reducible repeat (first | refine blk_drewN ?_ _ | refine blk_drew ?_ | refine blk_alloc ?_ _)); exact BK368.out) NB368_0.out zq41); replace BK372 := Aside0.mk (KeepBut.blk hk (g' := gb372) (o := .cells #[.int .i64 (wrap64 (2 + t369)), .slice none 0 0] 40 (0, 0)) (by (with_reducible repeat (first | refine blk_drewN ?_ _ | refine blk_drew ?_ | refine blk_alloc ?_ _)); refine blk_put (cs := #[.int .i64 (wrap64 (2 + t369)), .slice none 0 0]) ?_ 1 _ rfl; (with_reducible repeat (first | refine blk_drewN ?_ _ | refine blk_drew ?_ | refine blk_alloc ?_ _)); refine blk_put (cs := #[.int .i64 0, .slice none 0 0]) ?_ 0 _ rfl; (with_reducible repeat (first | refine blk_drewN ?_ _ | refine blk_drew ?_ | refine blk_alloc ?_ _)); exact BK372.out) NB372_0.out zq41); replace HK := Aside0.mk (KeepBut.trans zq25 hk (.inl rfl)); replace HB := Aside0.mk (hb); replace HI0 := Aside0.mk (hi); (try clear hb); (try clear hk); (try clear hi)))
 go_loopg [8] k (fun kq v8 w' => ∃ (x8_1 : Int) (x1001_1 : Int) (x1002_1 : Int) (x373001_1 : List Int) (u373001 : Value), v8 = .int .i64 x8_1 ∧ Aside0 (spec_l1Cur_sureLadder.l0 kq x8_1 s0_0 x1001_1 x1002_1 (wrap64 (2 + t369)) x373001_1 = some (r1, r2, r3, r4)) ∧ Aside0 (kq ≤ k) ∧ Aside0 (Kd.R (Kd.int .i64) 3 w' w.heap.size (fun _ => True) u373001 x373001_1) ∧ Aside0 (w'.heap[gb368]? = some (.cells #[.int .i64 0, (.slice none 0 0)] 40 (0, 0))) ∧ Aside0 (w'.heap[gb372]? = some (.cells #[.int .i64 (wrap64 (2 + t369)), u373001] 40 (0, 0))) ∧ Aside0 (IsS75 w0 w' g s0_0 x1001_1 x1002_1) ∧ Aside0 (KeepBut w w' g none) ∧ Aside0 (Below w0.heap.size w0 w'))
 case atStart => exact ⟨(t373), (t374), (t375), (([] : List Int)), (.slice none 0 0), zq8, H', ⟨Nat.le_refl _⟩, ⟨zq15⟩, ⟨by (with_reducible repeat (first | refine blk_drewN ?_ _ | refine blk_drew ?_ | refine blk_alloc ?_ _)); exact BK368.out⟩, ⟨by (with_reducible repeat (first | refine blk_drewN ?_ _ | refine blk_drew ?_ | refine blk_alloc ?_ _)); exact BK372.out⟩, ⟨zq26⟩, ⟨zq25⟩, ⟨zq28⟩⟩
 case round =>
  clear H'
  try clear c1
  try clear p2
  try clear p6
  try clear c9
  try clear c10
  try clear c11
  try clear hcz11_0
  try clear hcz11_1
  try clear hfz11_0
  try clear hfz11_1
  obtain ⟨x8_1, x1001_1, x1002_1, x373001_1, u373001, rfl, HA, HK1, HO_373001, BK368, BK372, HI0, HK, HB⟩ := hrel
  cases gk with
  | zero => exact absurd HA.out (by simp [spec_l1Cur_sureLadder.l0])
  | succ k1 =>
   have H := HA.out
   clear HA
   simp only [spec_l1Cur_sureLadder.l0] at H
   by_cases c13 : x8_1 > 0
   ·rw [if_pos c13] at H
    have c13b0 : decide (0 < x8_1) = true := decide_eq_true c13
    clear c13
    replace H := Option.bind_eq_some_iff.mp H
    obtain ⟨⟨t376, t377, t378⟩, A140, H⟩ := H
    replace H : (if x373001_1.length < 17592186044416 then (spec_l1Cur_sureLadder.l0 k1 (wrap64 (x8_1 - 1)) s0_0 t377 t378 (wrap64 (2 + t369)) (x373001_1 ++ [t376])) else (none)) = some (r1, r2, r3, r4) := H
    have A14 := Aside0.mk A140
    clear A140
    by_cases c15 : x373001_1.length < 17592186044416
    ·rw [if_pos c15] at H
     have LMc15 := Aside0.mk c15
     clear c15
     obtain ⟨y379, hy379⟩ : ∃ y_ : List Int, y_ = (x373001_1 ++ [t376]) := ⟨_, rfl⟩
     replace H : (spec_l1Cur_sureLadder.l0 k1 (wrap64 (x8_1 - 1)) s0_0 t377 t378 (wrap64 (2 + t369)) y379) = some (r1, r2, r3, r4) := by first | (rw [hy379]; with_reducible exact H) | (have H2_ := (Option.bind_some _ _).symm.trans H; rw [hy379]; with_reducible exact H2_) | (have H2_ := (Option.bind_some _ _).symm.trans H; with_reducible exact H2_) | with_reducible exact H | (rw [hy379]; exact H) | exact H
     have Ny379 := Aside0.mk hy379
     clear hy379
     have H' := Aside0.mk H
     clear H
     try go_wp2
     replace HO_373001 := Aside0.mk (Kd.R_drew HO_373001.out)
     replace BK368 := Aside0.mk (blk_drew BK368.out)
     replace BK372 := Aside0.mk (blk_drew BK372.out)
     replace HI0 := Aside0.mk (IsS75.drew HI0.out)
     replace HK := Aside0.mk (keep_drew HK.out)
     replace HB := Aside0.mk (below_drew1 HB.out)
     refine start_ (n := 11) (S := fun w' => w'.cell? ⟨gb372, 0, none⟩ = some (.int .i64 (wrap64 (2 + t369))) ∧ w'.cell? ⟨gb372, 1, none⟩ = some (u373001)) (ds := [10]) #[false, false, false, false, false, false, false, false, false, false, false] zq17 rfl rfl ⟨(blk_cell BK372.out 0).trans rfl, (blk_cell BK372.out 1).trans rfl⟩ (fun hHeld => ?_); refine with_tabW spec_l1Cur_sureLadder.tab5 spec_l1Cur_sureLadder.bits5 (fun HT_ HW_ => ?_)
     generalize wr.drew = w16 at HO_373001 BK368 BK372 HI0 HK HB hHeld ⊢
     refine zU 0 23 HT_ ?_
     refine zU 2 25 HT_ ?_
     refine zU 3 26 HT_ ?_
     refine zT 1 24 HT_ HW_ hHeld ?_
     refine zT 4 27 HT_ HW_ hHeld ?_
     refine zU 5 28 HT_ ?_
     refine zO 6 29 HT_ fun K hK => ?_
     refine goes_ Try.func91 zq17 rfl #[.pointer (some ⟨g, 0, none⟩), .int .i64 (wrap64 ((wrap64 (2 + t369)) - 1))] (by rfl) rfl rfl zq0 ?_
     with_reducible refine (spec_l1Cur_pick.calls g s0_0 x1001_1 x1002_1 (wrap64 ((wrap64 (2 + t369)) - 1)) t376 t377 t378 w0 _ ?side1 ?side2 A14.out).mono ?_
     (case side1 => exact zq26)
     (case side2 => exact zq28)
     rintro e w17 ⟨rfl, hi, hb, hk⟩
     refine ⟨_, rfl, ?_⟩
     replace HO_373001 := Aside0.mk (Kd.R_mono (Kd.R_keep (IsS75.apart (show IsS75 w0 _ g s0_0 x1001_1 x1002_1 from by repeat (first | (with_reducible first | exact HI0.out | apply IsS75.alloc | apply IsS75.drewN | apply IsS75.drew | apply IsS75.set_1 | apply IsS75.set_2 | refine IsS75.far ?_ NB0_368.out _ | refine IsS75.far ?_ NB0_372.out _) | exact HI0.out)) (pRq5 HO_373001) zq35) hk (fun _ h => h.2)) (fun _ h => h.1))
     replace BK368 := Aside0.mk (KeepBut.blk hk (g' := gb368) (o := .cells #[.int .i64 0, .slice none 0 0] 40 (0, 0)) (pKq5 BK368) NB368_0.out zq41)
     replace BK372 := Aside0.mk (KeepBut.blk hk (g' := gb372) (o := .cells #[.int .i64 (wrap64 (2 + t369)), u373001] 40 (0, 0)) (pKq5 BK372) NB372_0.out zq41)
     replace HK := Aside0.mk (KeepBut.trans zq25 hk (.inl rfl))
     replace HB := Aside0.mk (hb)
     replace HI0 := Aside0.mk (hi)
     (try clear hb)
     (try clear hb2)
     (try clear hk)
     (try clear hi)
     refine hK.out _ _ ⟨(blk_cell BK372.out 0).trans rfl, (blk_cell BK372.out 1).trans rfl⟩ (fun hHeld => ?_)
     clear hK K
     refine zN 29 ?_
     refine zO 7 30 HT_ fun K hK => ?_
     refine value_ (w1 := ?_) (v := ?_) (by rfl) rfl ?_ ?_
     rotate_left 2
     ·go_simp
      constructor
      ·rfl
      ·rfl
     refine hK.out _ _ ⟨(blk_cell (blk_alloc BK372.out _) 0).trans rfl, (blk_cell (blk_alloc BK372.out _) 1).trans rfl⟩ (fun hHeld => ?_)
     clear hK K
     refine zN 30 ?_
     refine zO 8 31 HT_ fun K hK => ?_
     refine Kd.R_append_step (Kd.int .i64) w.heap.size (by rfl) (.tmp 24) (.tmp 30) 24 3 (.int .i64 0) 8 rfl Try.underlying24 info3 rfl zq35 zq60 u373001 x373001_1 t376 [.int .i64 t376] (fun _ => True) (fun _ => False) rfl rfl ?aP (fun _ hk => hk.elim) ?aF ?aO (Below.refl _ _) ?aS ?aL ?_
     (case aP => exact rfl)
     (case aF => exact zq70)
     (case aO => exact (pRq5 HO_373001))
     (case aS => exact (keep_size (w := w) (g := g) (row := none) zq25))
     (case aL => have := LMc15.out; omega)
     intro v380 w18 ho hb hg hat
     rw [← Ny379.out] at ho
     have HO381 := Aside0.mk (ho)
     replace BK368 := Aside0.mk (blk_grown (g := gb368) (o := .cells #[.int .i64 0, .slice none 0 0] 40 (0, 0)) (pKq5 BK368) hg (Kd.R_ne HO_373001.out BK368.out zq35))
     replace BK372 := Aside0.mk (blk_grown (g := gb372) (o := .cells #[.int .i64 (wrap64 (2 + t369)), u373001] 40 (0, 0)) (pKq5 BK372) hg (Kd.R_ne HO_373001.out BK372.out zq35))
     replace HB := Aside0.mk (below_weaken zq28 HL.out hb)
     replace HI0 := Aside0.mk (IsS75.grown zq26 hg (IsS75.own_ne HI0.out HO_373001.out zq35))
     replace HK := Aside0.mk (KeepBut.trans zq25 (KeepBut.of_grown hg g) (Kd.R_base2 HO_373001.out))
     clear HO_373001
     clear ho hb hg hat
     obtain ⟨Ao19, co19, eo19⟩ := Kd.R_slice HO381.out
     (first | subst eo19 | (injection eo19 with f1_ f2_ f3_; have f4_ := f1_.symm; have f5_ := f3_.symm; clear f1_ f2_ f3_; subst f4_; subst f5_))
     refine hK.out _ _ ⟨(blk_cell BK372.out 0).trans rfl, (blk_cell BK372.out 1).trans rfl⟩ (fun hHeld => ?_)
     clear hK K
     refine zN 31 ?_
     refine zU 9 32 HT_ ?_
     refine last_ (i := 10) (N := none) #[true, true, true, true, true, true, true, true, true, true, true] rfl rfl (one_of HT_.out zq17) zq35 (fun K hK => ?_)
     have hs20 : w18.cell? ⟨gb372, 1, none⟩ = some (u373001) := (blk_cell BK372.out 1).trans rfl
     have hfs20 := blk_frozen BK372.out 1
     have hns20_0 := NB368_372.out
     have hms20_0 := NB372_368.out
     refine skip_ (w1 := ?_) (by rfl) rfl ?_ ?_
     rotate_left
     ·go_simp
      rfl
     refine hK.out _ _ ?_
     clear hK K
     refine done_ (done_of HT_.out zq17) ?_
     try go_wp2
     go_roundg k1
     case measure => have := HK1.out; omega
     case rel => exact ⟨(wrap64 (x8_1 - 1)), (t377), (t378), (y379), (.slice Ao19 y379.length co19), zq8, H', ⟨zq44⟩, ⟨by (with_reducible repeat (first | apply Kd.R_alloc | apply Kd.R_drewN | apply Kd.R_drew)); exact Kd.R_mono (Kd.R_far (p := ⟨gb372, 1, none⟩) (Kd.R_types HO381.out BK372.out zq35) (fun _ hk => hk.2) (.slice Ao19 y379.length co19)) (fun _ hk => trivial)⟩, ⟨by (with_reducible repeat (first | refine blk_drewN ?_ _ | refine blk_drew ?_ | refine blk_alloc ?_ _)); refine blk_far ?_ NB368_372.out _; (with_reducible repeat (first | refine blk_drewN ?_ _ | refine blk_drew ?_ | refine blk_alloc ?_ _)); exact BK368.out⟩, ⟨by (with_reducible repeat (first | refine blk_drewN ?_ _ | refine blk_drew ?_ | refine blk_alloc ?_ _)); refine blk_put (cs := #[.int .i64 (wrap64 (2 + t369)), u373001]) ?_ 1 _ rfl; (with_reducible repeat (first | refine blk_drewN ?_ _ | refine blk_drew ?_ | refine blk_alloc ?_ _)); exact BK372.out⟩, ⟨zq26⟩, ⟨zq25⟩, ⟨zq28⟩⟩
    ·rw [if_neg c15] at H
     exact absurd H zq41
   ·rw [if_neg c13] at H
    have c13b0 : decide (0 < x8_1) = false := decide_eq_false c13
    clear c13
    simp only [Option.some.injEq, Prod.mk.injEq] at H
    obtain ⟨rfl, rfl, rfl, rfl⟩ := H
    have hnb21 := NB372_368.out
    have hnc21 := NB368_372.out
    have hnb22 := NB372_0.out
    have hnc22 := NB0_372.out
    have hcz23_0 : wr.cell? ⟨gb372, 0, none⟩ = some (.int .i64 (wrap64 (2 + t369))) := (blk_cell BK372.out 0).trans rfl
    have hcz23_1 : wr.cell? ⟨gb372, 1, none⟩ = some (u373001) := (blk_cell BK372.out 1).trans rfl
    have hfz23_0 := blk_frozen BK372.out 0
    have hfz23_1 := blk_frozen BK372.out 1
    have hnb24 := NB368_0.out
    have hnc24 := NB0_368.out
    have hcz25_0 : wr.cell? ⟨gb368, 0, none⟩ = some (.int .i64 0) := (blk_cell BK368.out 0).trans rfl
    have hcz25_1 : wr.cell? ⟨gb368, 1, none⟩ = some (.slice none 0 0) := (blk_cell BK368.out 1).trans rfl
    have hfz25_0 := blk_frozen BK368.out 0
    have hfz25_1 := blk_frozen BK368.out 1
    obtain ⟨Ao26, co26, eo26⟩ := Kd.R_slice HO_373001.out
    subst eo26
    go_wp2
    refine bodyPost_ret (results_cell_row rfl _ _ gb368 40 #[.int .i64 (wrap64 (2 + t369)), .slice Ao26 x373001_1.length co26] (0, 0) _ rfl (by (with_reducible repeat (first | refine blk_drewN ?_ _ | refine blk_drew ?_ | refine blk_alloc ?_ _)); refine blk_put (cs := #[.int .i64 (wrap64 (2 + t369)), .slice none 0 0]) ?_ 1 _ rfl; (with_reducible repeat (first | refine blk_drewN ?_ _ | refine blk_drew ?_ | refine blk_alloc ?_ _)); refine blk_put (cs := #[.int .i64 0, .slice none 0 0]) ?_ 0 _ rfl; (with_reducible repeat (first | refine blk_drewN ?_ _ | refine blk_drew ?_ | refine blk_alloc ?_ _)); exact BK368.out) Try.underlying40 rfl zq17) rfl ?_
    exact ⟨_, zq3, by (with_reducible repeat (first | apply Kd.R_alloc | apply Kd.R_drewN | apply Kd.R_drew)); exact Kd.R_mono (Kd.R_far (p := ⟨gb368, 1, none⟩) (Kd.R_far (p := ⟨gb368, 0, none⟩) (Kd.R_types HO_373001.out BK368.out zq35) (fun _ hk => hk.2) (.int .i64 (wrap64 (2 + t369)))) (fun _ hk => hk.2) (.slice Ao26 x373001_1.length co26)) (fun _ hk => trivial), zq26, zq28, zq25⟩
end
end Go.Proofs.Ytaheijeojbimeaa.PLl
