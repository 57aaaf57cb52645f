-- Written for this claim by a program of this session (myprint.py) over the kit's printer.
import Derived.Test.YtciboaihodoglaaPBlx0
import Derived.Test.YtciboaihodoglaaPBlx1
import Derived.Test.YtciboaihodoglaaPBlx2
import Derived.Test.YtciboaihodoglaaPBlx3
import Derived.Test.YtciboaihodoglaaPBlx4
import Derived.Test.YtciboaihodoglaaPBlx5
namespace Go.Proofs.Ytciboaihodoglaa.PBl
noncomputable section
open Go.RowKit Go.Proofs.YtciboaihodoglaaW.PrintWords Go.Proofs.YtciboaihodoglaaW.PrintLast Go.Proofs.YtciboaihodoglaaW.PrintMore
attribute [local go_sem] max2_int min2_int max_two min_two max_three min_three max_four min_four   -- for this text's walks alone
set_option linter.unusedVariables false
set_option linter.unusedSimpArgs false

theorem pR {α : Type} {d : Kd α} {e base : Nat} {ok : Nat → Prop} {v : Value} {xs : List α} {w W : World} (h0 : Aside0 (Kd.R d e w base ok v xs)) (hp : Kd.R d e W base ok v xs := by (with_reducible repeat (first | apply Kd.R_alloc | apply Kd.R_drewN | apply Kd.R_drew)); exact Aside0.out (by with_reducible assumption)) : Kd.R d e W base ok v xs := hp
theorem pK {g : Nat} {o : Obj} {w W : World} (h0 : Aside0 (w.heap[g]? = some o)) (hp : W.heap[g]? = some o := by (with_reducible repeat (first | refine blk_drewN ?_ _ | refine blk_drew ?_ | refine blk_alloc ?_ _)); exact Aside0.out (by with_reducible assumption)) : W.heap[g]? = some o := hp
theorem pB {b : Nat} {w0 w W : World} (h0 : Aside0 (Below b w0 w)) (hp : Below b w0 W := by repeat (first | (with_reducible first | exact Aside0.out (by assumption) | apply below_alloc | apply pw_below_drewN | apply below_drew1 | refine below_set ?_ (Aside0.out (by assumption))))) : Below b w0 W := hp
/-! ### laws_FnExactBelowLadder: function 5 -/
mutual
def laws_FnExactBelowLadder.j0 : Nat → Bool → Bool → Bool → Int → List Int → Int → List Int → Int → List Int → Int → List Int → Int → List Int → Int → List Int → Option (Bool)
  | 0, _, _, _, _, _, _, _, _, _, _, _, _, _, _, _ => none
  | k + 1, x7, x11, x53, x176000, x176001, x177000, x177001, x193000, x193001, x198000, x198001, x203000, x203001, x209000, x209001 => if x53 = true then (some false) else ((laws_toLadder.f k x176000 x176001).bind fun bt210 => ((laws_eqLadder.f k x198000 x198001 bt210.1 bt210.2).bind fun t214 => (if t214 = true then ((laws_toLadder.f k x177000 x177001).bind fun bt215 => ((laws_eqLadder.f k x203000 x203001 bt215.1 bt215.2).bind fun t219 => (if t219 = true then ((laws_markLadder.f k x198000 x198001 1).bind fun bt220 => ((laws_markLadder.f k x203000 x203001 bt220.1).bind fun bt222 => (if bt222.1 < 0 then (laws_FnExactBelowLadder.j1 k x7 true x176000 x176001 x177000 x177001 x193000 x193001 x209000 x209001) else ((laws_eqLadder.f k x209000 x209001 x193000 x193001).bind fun t224 => (if t224 = true then (laws_FnExactBelowLadder.j1 k x7 (x11 != x7) x176000 x176001 x177000 x177001 x193000 x193001 x209000 x209001) else (laws_FnExactBelowLadder.j1 k x7 true x176000 x176001 x177000 x177001 x193000 x193001 x209000 x209001)))))) else (some false)))) else (some false))))
def laws_FnExactBelowLadder.j1 : Nat → Bool → Bool → Int → List Int → Int → List Int → Int → List Int → Int → List Int → Option (Bool)
  | 0, _, _, _, _, _, _, _, _, _, _ => none
  | k + 1, x7, x82, x176000, x176001, x177000, x177001, x193000, x193001, x209000, x209001 => if x82 = true then (some false) else ((laws_markLadder.f k x209000 x209001 1).bind fun bt225 => ((laws_heldLadder.f k x209000 bt225.2 1).bind fun t227 => (if t227 < 0 then (some false) else (if t227 = bt225.1 then ((laws_toLadder.f k x176000 x176001).bind fun bt228 => ((laws_toLadder.f k x177000 x177001).bind fun bt232 => ((impl_BelowLadder.f k bt228.1 bt228.2 bt232.1 bt232.2).bind fun bt236 => ((laws_eqLadder.f k bt236.1 bt236.2.1 x193000 x193001).bind fun t242 => (if t242 = true then (laws_FnExactBelowLadder.j2 k bt225.1 (bt236.2.2 != x7) x209000 bt225.2) else (laws_FnExactBelowLadder.j2 k bt225.1 true x209000 bt225.2)))))) else (some false)))))
def laws_FnExactBelowLadder.j2 : Nat → Int → Bool → Int → List Int → Option (Bool)
  | 0, _, _, _, _ => none
  | k + 1, x13, x110, x209000, x209001 => if x110 = true then (some false) else ((laws_heldLadder.f k x209000 x209001 1).bind fun t243 => (if t243 < 0 then (some false) else (if t243 = x13 then (some true) else (some false))))
end
def laws_FnExactBelowLadder.f (k : Nat) (a0_0 : Int) (l0_1 : List Int) (a1_0 : Int) (l1_1 : List Int) : Option (Bool) := (laws_szLadder.f a0_0 l0_1 1048576).bind fun t177 => (if t177 < 0 then (some true) else ((laws_szLadder.f a1_0 l1_1 t177).bind fun t178 => (if t178 < 0 then (some true) else ((laws_toLadder.f k a0_0 l0_1).bind fun bt179 => ((laws_toLadder.f k a1_0 l1_1).bind fun bt183 => ((spec_BelowLadder.f k bt179.1 bt179.2 bt183.1 bt183.2).bind fun bt187 => ((laws_toLadder.f k a0_0 l0_1).bind fun bt193 => ((laws_toLadder.f k a1_0 l1_1).bind fun bt198 => ((impl_BelowLadder.f k bt193.1 bt193.2 bt198.1 bt198.2).bind fun bt203 => ((laws_eqLadder.f k bt203.1 bt203.2.1 bt187.1 bt187.2.1).bind fun t209 => (if t209 = true then (laws_FnExactBelowLadder.j0 k bt187.2.2 bt203.2.2 (bt203.2.2 != bt187.2.2) a0_0 l0_1 a1_0 l1_1 bt187.1 bt187.2.1 bt193.1 bt193.2 bt198.1 bt198.2 bt203.1 bt203.2.1) else (laws_FnExactBelowLadder.j0 k bt187.2.2 bt203.2.2 true a0_0 l0_1 a1_0 l1_1 bt187.1 bt187.2.1 bt193.1 bt193.2 bt198.1 bt198.2 bt203.1 bt203.2.1))))))))))))
theorem laws_FnExactBelowLadder.mono_l : ∀ k, (∀ y0 y1 y2 y3 y4 y5 y6 y7 y8 y9 y10 y11 y12 y13 y14, LeO (laws_FnExactBelowLadder.j0 k y0 y1 y2 y3 y4 y5 y6 y7 y8 y9 y10 y11 y12 y13 y14) (laws_FnExactBelowLadder.j0 (k + 1) y0 y1 y2 y3 y4 y5 y6 y7 y8 y9 y10 y11 y12 y13 y14)) ∧ (∀ y0 y1 y2 y3 y4 y5 y6 y7 y8 y9, LeO (laws_FnExactBelowLadder.j1 k y0 y1 y2 y3 y4 y5 y6 y7 y8 y9) (laws_FnExactBelowLadder.j1 (k + 1) y0 y1 y2 y3 y4 y5 y6 y7 y8 y9)) ∧ (∀ y0 y1 y2 y3, LeO (laws_FnExactBelowLadder.j2 k y0 y1 y2 y3) (laws_FnExactBelowLadder.j2 (k + 1) y0 y1 y2 y3))
  | 0 => ⟨fun _ _ _ _ _ _ _ _ _ _ _ _ _ _ _ r h => by simp [laws_FnExactBelowLadder.j0] at h, fun _ _ _ _ _ _ _ _ _ _ r h => by simp [laws_FnExactBelowLadder.j1] at h, fun _ _ _ _ r h => by simp [laws_FnExactBelowLadder.j2] at h⟩
  | k + 1 => by
    obtain ⟨ih0, ih1, ih2⟩ := laws_FnExactBelowLadder.mono_l k
    refine ⟨?_, ?_, ?_⟩
    · intro y0 y1 y2 y3 y4 y5 y6 y7 y8 y9 y10 y11 y12 y13 y14
      unfold laws_FnExactBelowLadder.j0
      repeat' first
      | (with_reducible exact ih0 _ _ _ _ _ _ _ _ _ _ _ _ _ _ _)
      | (with_reducible exact ih1 _ _ _ _ _ _ _ _ _ _)
      | (with_reducible exact ih2 _ _ _ _)
      | (with_reducible exact impl_BelowLadder.mono _ _ _ _ _)
      | (with_reducible exact laws_eqLadder.mono _ _ _ _ _)
      | (with_reducible exact laws_heldLadder.mono _ _ _ _)
      | (with_reducible exact laws_markLadder.mono _ _ _ _)
      | (with_reducible exact laws_toLadder.mono _ _ _)
      | (with_reducible exact spec_BelowLadder.mono _ _ _ _ _)
      | (with_reducible exact LeO.refl _)
      | (with_reducible exact LeO.none _)
      | (with_reducible refine LeO.ite ?_ ?_)
      | (with_reducible refine LeO.bind ?_ (fun _ => ?_))
      | exact ih0 _ _ _ _ _ _ _ _ _ _ _ _ _ _ _
      | exact ih1 _ _ _ _ _ _ _ _ _ _
      | exact ih2 _ _ _ _
      | exact impl_BelowLadder.mono _ _ _ _ _
      | exact laws_eqLadder.mono _ _ _ _ _
      | exact laws_heldLadder.mono _ _ _ _
      | exact laws_markLadder.mono _ _ _ _
      | exact laws_toLadder.mono _ _ _
      | exact spec_BelowLadder.mono _ _ _ _ _
      | exact LeO.none _
      | refine LeO.ite ?_ ?_
      | refine LeO.bind ?_ (fun _ => ?_)
    · intro y0 y1 y2 y3 y4 y5 y6 y7 y8 y9
      unfold laws_FnExactBelowLadder.j1
      repeat' first
      | (with_reducible exact ih0 _ _ _ _ _ _ _ _ _ _ _ _ _ _ _)
      | (with_reducible exact ih1 _ _ _ _ _ _ _ _ _ _)
      | (with_reducible exact ih2 _ _ _ _)
      | (with_reducible exact impl_BelowLadder.mono _ _ _ _ _)
      | (with_reducible exact laws_eqLadder.mono _ _ _ _ _)
      | (with_reducible exact laws_heldLadder.mono _ _ _ _)
      | (with_reducible exact laws_markLadder.mono _ _ _ _)
      | (with_reducible exact laws_toLadder.mono _ _ _)
      | (with_reducible exact spec_BelowLadder.mono _ _ _ _ _)
      | (with_reducible exact LeO.refl _)
      | (with_reducible exact LeO.none _)
      | (with_reducible refine LeO.ite ?_ ?_)
      | (with_reducible refine LeO.bind ?_ (fun _ => ?_))
      | exact ih0 _ _ _ _ _ _ _ _ _ _ _ _ _ _ _
      | exact ih1 _ _ _ _ _ _ _ _ _ _
      | exact ih2 _ _ _ _
      | exact impl_BelowLadder.mono _ _ _ _ _
      | exact laws_eqLadder.mono _ _ _ _ _
      | exact laws_heldLadder.mono _ _ _ _
      | exact laws_markLadder.mono _ _ _ _
      | exact laws_toLadder.mono _ _ _
      | exact spec_BelowLadder.mono _ _ _ _ _
      | exact LeO.none _
      | refine LeO.ite ?_ ?_
      | refine LeO.bind ?_ (fun _ => ?_)
    · intro y0 y1 y2 y3
      unfold laws_FnExactBelowLadder.j2
      repeat' first
      | (with_reducible exact ih0 _ _ _ _ _ _ _ _ _ _ _ _ _ _ _)
      | (with_reducible exact ih1 _ _ _ _ _ _ _ _ _ _)
      | (with_reducible exact ih2 _ _ _ _)
      | (with_reducible exact impl_BelowLadder.mono _ _ _ _ _)
      | (with_reducible exact laws_eqLadder.mono _ _ _ _ _)
      | (with_reducible exact laws_heldLadder.mono _ _ _ _)
      | (with_reducible exact laws_markLadder.mono _ _ _ _)
      | (with_reducible exact laws_toLadder.mono _ _ _)
      | (with_reducible exact spec_BelowLadder.mono _ _ _ _ _)
      | (with_reducible exact LeO.refl _)
      | (with_reducible exact LeO.none _)
      | (with_reducible refine LeO.ite ?_ ?_)
      | (with_reducible refine LeO.bind ?_ (fun _ => ?_))
      | exact ih0 _ _ _ _ _ _ _ _ _ _ _ _ _ _ _
      | exact ih1 _ _ _ _ _ _ _ _ _ _
      | exact ih2 _ _ _ _
      | exact impl_BelowLadder.mono _ _ _ _ _
      | exact laws_eqLadder.mono _ _ _ _ _
      | exact laws_heldLadder.mono _ _ _ _
      | exact laws_markLadder.mono _ _ _ _
      | exact laws_toLadder.mono _ _ _
      | exact spec_BelowLadder.mono _ _ _ _ _
      | exact LeO.none _
      | refine LeO.ite ?_ ?_
      | refine LeO.bind ?_ (fun _ => ?_)
theorem laws_FnExactBelowLadder.mono : ∀ a0 a1 a2 a3 k, LeO (laws_FnExactBelowLadder.f k a0 a1 a2 a3) (laws_FnExactBelowLadder.f (k + 1) a0 a1 a2 a3) := by
  intro a0 a1 a2 a3 k
  obtain ⟨ih0, ih1, ih2⟩ := laws_FnExactBelowLadder.mono_l k
  unfold laws_FnExactBelowLadder.f
  repeat' first
      | (with_reducible exact ih0 _ _ _ _ _ _ _ _ _ _ _ _ _ _ _)
      | (with_reducible exact ih1 _ _ _ _ _ _ _ _ _ _)
      | (with_reducible exact ih2 _ _ _ _)
      | (with_reducible exact impl_BelowLadder.mono _ _ _ _ _)
      | (with_reducible exact laws_eqLadder.mono _ _ _ _ _)
      | (with_reducible exact laws_heldLadder.mono _ _ _ _)
      | (with_reducible exact laws_markLadder.mono _ _ _ _)
      | (with_reducible exact laws_toLadder.mono _ _ _)
      | (with_reducible exact spec_BelowLadder.mono _ _ _ _ _)
      | (with_reducible exact LeO.refl _)
      | (with_reducible exact LeO.none _)
      | (with_reducible refine LeO.ite ?_ ?_)
      | (with_reducible refine LeO.bind ?_ (fun _ => ?_))
      | exact ih0 _ _ _ _ _ _ _ _ _ _ _ _ _ _ _
      | exact ih1 _ _ _ _ _ _ _ _ _ _
      | exact ih2 _ _ _ _
      | exact impl_BelowLadder.mono _ _ _ _ _
      | exact laws_eqLadder.mono _ _ _ _ _
      | exact laws_heldLadder.mono _ _ _ _
      | exact laws_markLadder.mono _ _ _ _
      | exact laws_toLadder.mono _ _ _
      | exact spec_BelowLadder.mono _ _ _ _ _
      | exact LeO.none _
      | refine LeO.ite ?_ ?_
      | refine LeO.bind ?_ (fun _ => ?_)
def laws_FnExactBelowLadder.T8 : Bool × List (List Nat × List Nat) := (true, [([], []), ([0], [0]), ([], []), ([2, 1], [2]), ([1, 3, 3], [1, 3]), ([4], [4]), ([5], [5]), ([5], [5]), ([], []), ([8, 6, 4, 0, 1, 2, 3, 4, 5, 6, 8], [6, 8]), ([7, 9, 0, 1, 2, 3, 4, 5, 6, 7, 8, 9], [7])])
def laws_FnExactBelowLadder.B8 : List Nat := [0, 1, 0, 7, 15, 31, 63, 63, 0, 383, 1023]
theorem laws_FnExactBelowLadder.tab8 : rtab .any (opsOf Try.f5 8) = laws_FnExactBelowLadder.T8 := by kernel_rfl
theorem laws_FnExactBelowLadder.bits8 : waitsOk laws_FnExactBelowLadder.T8.2 laws_FnExactBelowLadder.B8 = true := by kernel_rfl
def laws_FnExactBelowLadder.T31 : Bool × List (List Nat × List Nat) := (true, [([], []), ([0], [0]), ([], []), ([2, 1], [2]), ([1, 3, 3], [1, 3]), ([4], [4]), ([5], [5]), ([5], [5]), ([], []), ([8, 6, 4, 0, 1, 2, 3, 4, 5, 6, 8], [6, 8]), ([7, 9, 0, 1, 2, 3, 4, 5, 6, 7, 8, 9], [7])])
def laws_FnExactBelowLadder.B31 : List Nat := [0, 1, 0, 7, 15, 31, 63, 63, 0, 383, 1023]
theorem laws_FnExactBelowLadder.tab31 : rtab .any (opsOf Try.f5 31) = laws_FnExactBelowLadder.T31 := by kernel_rfl
theorem laws_FnExactBelowLadder.bits31 : waitsOk laws_FnExactBelowLadder.T31.2 laws_FnExactBelowLadder.B31 = true := by kernel_rfl
set_option maxHeartbeats 8000000 in
set_option maxRecDepth 100000 in
theorem laws_FnExactBelowLadder.calls (k : Nat) (a0_0 : Int) (A0_1 : Option Addr) (c0_1 : Nat) (l0_1 : List Int) (a1_0 : Int) (A1_1 : Option Addr) (c1_1 : Nat) (l1_1 : List Int) (w : World) (hr0_1 : Kd.C (Kd.int .i64) w A0_1 l0_1.length l0_1) (hc0_1 : l0_1.length ≤ c0_1) (hr1_1 : Kd.C (Kd.int .i64) w A1_1 l1_1.length l1_1) (hc1_1 : l1_1.length ≤ c1_1) (h : laws_FnExactBelowLadder.f k a0_0 l0_1 a1_0 l1_1 = some true) :
  Calls Try.prog 5 #[.agg #[.int .i64 a0_0, .slice A0_1 l0_1.length c0_1], .agg #[.int .i64 a1_0, .slice A1_1 l1_1.length c1_1]] w fun e w' => e = .returned (.bool true) ∧ Below w.heap.size w w' := by
 have hu33 := Try.underlying33
 have hu35 := Try.underlying35
 have HR0_1 := Aside0.mk hr0_1
 have HC0_1 := Aside0.mk hc0_1
 clear hr0_1 hc0_1
 have HR1_1 := Aside0.mk hr1_1
 have HC1_1 := Aside0.mk hc1_1
 clear hr1_1 hc1_1
 have HB := Aside0.mk (Below.refl w.heap.size w)
 have H : ((laws_szLadder.f a0_0 l0_1 1048576).bind fun t177 => (if t177 < 0 then (some true) else ((laws_szLadder.f a1_0 l1_1 t177).bind fun t178 => (if t178 < 0 then (some true) else ((laws_toLadder.f k a0_0 l0_1).bind fun bt179 => ((laws_toLadder.f k a1_0 l1_1).bind fun bt183 => ((spec_BelowLadder.f k bt179.1 bt179.2 bt183.1 bt183.2).bind fun bt187 => ((laws_toLadder.f k a0_0 l0_1).bind fun bt193 => ((laws_toLadder.f k a1_0 l1_1).bind fun bt198 => ((impl_BelowLadder.f k bt193.1 bt193.2 bt198.1 bt198.2).bind fun bt203 => ((laws_eqLadder.f k bt203.1 bt203.2.1 bt187.1 bt187.2.1).bind fun t209 => (if t209 = true then (laws_FnExactBelowLadder.j0 k bt187.2.2 bt203.2.2 (bt203.2.2 != bt187.2.2) a0_0 l0_1 a1_0 l1_1 bt187.1 bt187.2.1 bt193.1 bt193.2 bt198.1 bt198.2 bt203.1 bt203.2.1) else (laws_FnExactBelowLadder.j0 k bt187.2.2 bt203.2.2 true a0_0 l0_1 a1_0 l1_1 bt187.1 bt187.2.1 bt193.1 bt193.2 bt198.1 bt198.2 bt203.1 bt203.2.1))))))))))))) = some true := h
 clear h
 replace H := Option.bind_eq_some_iff.mp H
 obtain ⟨t177, A30, H⟩ := H
 replace H : (if t177 < 0 then (some true) else ((laws_szLadder.f a1_0 l1_1 t177).bind fun t178 => (if t178 < 0 then (some true) else ((laws_toLadder.f k a0_0 l0_1).bind fun bt179 => ((laws_toLadder.f k a1_0 l1_1).bind fun bt183 => ((spec_BelowLadder.f k bt179.1 bt179.2 bt183.1 bt183.2).bind fun bt187 => ((laws_toLadder.f k a0_0 l0_1).bind fun bt193 => ((laws_toLadder.f k a1_0 l1_1).bind fun bt198 => ((impl_BelowLadder.f k bt193.1 bt193.2 bt198.1 bt198.2).bind fun bt203 => ((laws_eqLadder.f k bt203.1 bt203.2.1 bt187.1 bt187.2.1).bind fun t209 => (if t209 = true then (laws_FnExactBelowLadder.j0 k bt187.2.2 bt203.2.2 (bt203.2.2 != bt187.2.2) a0_0 l0_1 a1_0 l1_1 bt187.1 bt187.2.1 bt193.1 bt193.2 bt198.1 bt198.2 bt203.1 bt203.2.1) else (laws_FnExactBelowLadder.j0 k bt187.2.2 bt203.2.2 true a0_0 l0_1 a1_0 l1_1 bt187.1 bt187.2.1 bt193.1 bt193.2 bt198.1 bt198.2 bt203.1 bt203.2.1)))))))))))) = some true := H
 have A3 := Aside0.mk A30
 clear A30
 by_cases c4 : t177 < 0
 ·rw [if_pos c4] at H
  have c4b0 : decide (t177 < 0) = true := decide_eq_true c4
  clear c4
  clear H
  go_enter Try.func5, Try.ntmps5
  go_wp2_with (first | ((with_reducible refine gate_dst (N := 2) rfl ?_); refine box_event ?hg (N := 2) ?hd (cs := #[.int .i64 a0_0, .slice A0_1 l0_1.length c0_1]) (t := 33) ?hr ?_; (case hd => rfl); (case hg => rfl); (case hr => first | (go_simp; done) | (go_simp; rfl)); intro gb175 hg w5 hbox hb; have BK175 := Aside0.mk (hbox); have GW175 := Aside0.mk ((by rw [hg]; exact (below_size (pB HB)) : w.heap.size ≤ gb175)); have GE175 := Aside0.mk ((by rw [hg]; exact (below_size (pB HB)) : w.heap.size ≤ gb175)); replace HB := Aside0.mk (below_step (pB HB) hb); clear hb hbox hg) | ((with_reducible refine gate_dst (N := 3) rfl ?_); refine box_event ?hg (N := 3) ?hd (cs := #[.int .i64 a1_0, .slice A1_1 l1_1.length c1_1]) (t := 33) ?hr ?_; (case hd => rfl); (case hg => rfl); (case hr => first | (go_simp; done) | (go_simp; rfl)); intro gb176 hg w6 hbox hb; have BK176 := Aside0.mk (hbox); have GW176 := Aside0.mk ((by rw [hg]; exact (below_size (pB HB)) : w.heap.size ≤ gb176)); have GE176 := Aside0.mk ((by rw [hg]; exact (below_size (pB HB)) : w.heap.size ≤ gb176)); have NB175_176 := Aside0.mk ((by rw [hg]; exact Nat.ne_of_lt (blk_lt (pK BK175)) : gb175 ≠ gb176)); have NB176_175 := Aside0.mk ((by rw [hg]; exact Nat.ne_of_gt (blk_lt (pK BK175)) : gb176 ≠ gb175)); replace BK175 := Aside0.mk (blk_below (pK BK175) hb); replace HB := Aside0.mk (below_step (pB HB) hb); clear hb hbox hg; have hnb7 := NB175_176.out; have hnc7 := NB176_175.out; have hcz8_0 : w6.cell? ⟨gb175, 0, none⟩ = some (.int .i64 a0_0) := (blk_cell BK175.out 0).trans rfl; have hcz8_1 : w6.cell? ⟨gb175, 1, none⟩ = some (.slice A0_1 l0_1.length c0_1) := (blk_cell BK175.out 1).trans rfl; have hfz8_0 := blk_frozen BK175.out 0; have hfz8_1 := blk_frozen BK175.out 1) | ((with_reducible refine gate_callee (f := 19) rfl ?_); refine goesL_ (some 19) rfl rfl Try.func19 (by kernel_rfl) rfl #[.agg #[.int .i64 a0_0, .slice A0_1 l0_1.length c0_1], .int .i64 1048576] rfl (by (try simp only [List.map_toArray, List.map_cons, List.map_nil]); first | done | rfl | (simp only [List.length_drop, List.length_take]; rfl)) ?_; (with_reducible refine (laws_szLadder.calls a0_0 _ _ l0_1 1048576 t177 _ ?side1 ?side2 A3.out).mono ?_); (case side1 => repeat (first | exact (Kd.C_below HR0_1.out HB.out) | (with_reducible refine Kd.C_alloc ?_ _) | (with_reducible refine Kd.C_drewN ?_ _) | (with_reducible refine Kd.C_drew ?_))); (case side2 => exact HC0_1.out); rintro e w9 ⟨rfl, hb⟩; refine ⟨_, rfl, ?_⟩; replace BK175 := Aside0.mk (blk_below (pK BK175) hb); replace BK176 := Aside0.mk (blk_below (pK BK176) hb); replace HB := Aside0.mk (below_step (pB HB) hb); (try clear hb); (try clear hb2); (try clear hk); (try clear hi)))
  go_ret
  exact ⟨by first | rfl | (simp [errW_none, errW_some] <;> rfl) | (simp [*, errW_none, errW_some] <;> rfl), by repeat (first | (with_reducible first | exact HB.out | apply below_alloc | apply pw_below_drewN | apply below_drew1 | refine below_set ?_ GE175.out | refine below_set ?_ GE176.out) | exact HB.out)⟩
 ·rw [if_neg c4] at H
  have c4b0 : decide (t177 < 0) = false := decide_eq_false c4
  clear c4
  replace H := Option.bind_eq_some_iff.mp H
  obtain ⟨t178, A100, H⟩ := H
  replace H : (if t178 < 0 then (some true) else ((laws_toLadder.f k a0_0 l0_1).bind fun bt179 => ((laws_toLadder.f k a1_0 l1_1).bind fun bt183 => ((spec_BelowLadder.f k bt179.1 bt179.2 bt183.1 bt183.2).bind fun bt187 => ((laws_toLadder.f k a0_0 l0_1).bind fun bt193 => ((laws_toLadder.f k a1_0 l1_1).bind fun bt198 => ((impl_BelowLadder.f k bt193.1 bt193.2 bt198.1 bt198.2).bind fun bt203 => ((laws_eqLadder.f k bt203.1 bt203.2.1 bt187.1 bt187.2.1).bind fun t209 => (if t209 = true then (laws_FnExactBelowLadder.j0 k bt187.2.2 bt203.2.2 (bt203.2.2 != bt187.2.2) a0_0 l0_1 a1_0 l1_1 bt187.1 bt187.2.1 bt193.1 bt193.2 bt198.1 bt198.2 bt203.1 bt203.2.1) else (laws_FnExactBelowLadder.j0 k bt187.2.2 bt203.2.2 true a0_0 l0_1 a1_0 l1_1 bt187.1 bt187.2.1 bt193.1 bt193.2 bt198.1 bt198.2 bt203.1 bt203.2.1)))))))))) = some true := H
  have A10 := Aside0.mk A100
  clear A100
  by_cases c11 : t178 < 0
  ·rw [if_pos c11] at H
   have c11b0 : decide (t178 < 0) = true := decide_eq_true c11
   clear c11
   clear H
   go_enter Try.func5, Try.ntmps5
   go_wp2_with (first | ((with_reducible refine gate_dst (N := 2) rfl ?_); refine box_event ?hg (N := 2) ?hd (cs := #[.int .i64 a0_0, .slice A0_1 l0_1.length c0_1]) (t := 33) ?hr ?_; (case hd => rfl); (case hg => rfl); (case hr => first | (go_simp; done) | (go_simp; rfl)); intro gb175 hg w12 hbox hb; have BK175 := Aside0.mk (hbox); have GW175 := Aside0.mk ((by rw [hg]; exact (below_size (pB HB)) : w.heap.size ≤ gb175)); have GE175 := Aside0.mk ((by rw [hg]; exact (below_size (pB HB)) : w.heap.size ≤ gb175)); replace HB := Aside0.mk (below_step (pB HB) hb); clear hb hbox hg) | ((with_reducible refine gate_dst (N := 3) rfl ?_); refine box_event ?hg (N := 3) ?hd (cs := #[.int .i64 a1_0, .slice A1_1 l1_1.length c1_1]) (t := 33) ?hr ?_; (case hd => rfl); (case hg => rfl); (case hr => first | (go_simp; done) | (go_simp; rfl)); intro gb176 hg w13 hbox hb; have BK176 := Aside0.mk (hbox); have GW176 := Aside0.mk ((by rw [hg]; exact (below_size (pB HB)) : w.heap.size ≤ gb176)); have GE176 := Aside0.mk ((by rw [hg]; exact (below_size (pB HB)) : w.heap.size ≤ gb176)); have NB175_176 := Aside0.mk ((by rw [hg]; exact Nat.ne_of_lt (blk_lt (pK BK175)) : gb175 ≠ gb176)); have NB176_175 := Aside0.mk ((by rw [hg]; exact Nat.ne_of_gt (blk_lt (pK BK175)) : gb176 ≠ gb175)); replace BK175 := Aside0.mk (blk_below (pK BK175) hb); replace HB := Aside0.mk (below_step (pB HB) hb); clear hb hbox hg; have hnb14 := NB175_176.out; have hnc14 := NB176_175.out; have hcz15_0 : w13.cell? ⟨gb175, 0, none⟩ = some (.int .i64 a0_0) := (blk_cell BK175.out 0).trans rfl; have hcz15_1 : w13.cell? ⟨gb175, 1, none⟩ = some (.slice A0_1 l0_1.length c0_1) := (blk_cell BK175.out 1).trans rfl; have hfz15_0 := blk_frozen BK175.out 0; have hfz15_1 := blk_frozen BK175.out 1) | ((with_reducible refine gate_callee (f := 19) rfl ?_); refine goesL_ (some 19) rfl rfl Try.func19 (by kernel_rfl) rfl #[.agg #[.int .i64 a0_0, .slice A0_1 l0_1.length c0_1], .int .i64 1048576] rfl (by (try simp only [List.map_toArray, List.map_cons, List.map_nil]); first | done | rfl | (simp only [List.length_drop, List.length_take]; rfl)) ?_; (with_reducible refine (laws_szLadder.calls a0_0 _ _ l0_1 1048576 t177 _ ?side1 ?side2 A3.out).mono ?_); (case side1 => repeat (first | exact (Kd.C_below HR0_1.out HB.out) | (with_reducible refine Kd.C_alloc ?_ _) | (with_reducible refine Kd.C_drewN ?_ _) | (with_reducible refine Kd.C_drew ?_))); (case side2 => exact HC0_1.out); rintro e w16 ⟨rfl, hb⟩; refine ⟨_, rfl, ?_⟩; replace BK175 := Aside0.mk (blk_below (pK BK175) hb); replace BK176 := Aside0.mk (blk_below (pK BK176) hb); replace HB := Aside0.mk (below_step (pB HB) hb); (try clear hb); (try clear hb2); (try clear hk); (try clear hi); have hcz17_0 : w16.cell? ⟨gb176, 0, none⟩ = some (.int .i64 a1_0) := (blk_cell BK176.out 0).trans rfl; have hcz17_1 : w16.cell? ⟨gb176, 1, none⟩ = some (.slice A1_1 l1_1.length c1_1) := (blk_cell BK176.out 1).trans rfl; have hfz17_0 := blk_frozen BK176.out 0; have hfz17_1 := blk_frozen BK176.out 1) | ((with_reducible refine gate_callee (f := 19) rfl ?_); refine goesL_ (some 24) rfl rfl Try.func19 (by kernel_rfl) rfl #[.agg #[.int .i64 a1_0, .slice A1_1 l1_1.length c1_1], .int .i64 t177] rfl (by (try simp only [List.map_toArray, List.map_cons, List.map_nil]); first | done | rfl | (simp only [List.length_drop, List.length_take]; rfl)) ?_; (with_reducible refine (laws_szLadder.calls a1_0 _ _ l1_1 t177 t178 _ ?side1 ?side2 A10.out).mono ?_); (case side1 => repeat (first | exact (Kd.C_below HR1_1.out HB.out) | (with_reducible refine Kd.C_alloc ?_ _) | (with_reducible refine Kd.C_drewN ?_ _) | (with_reducible refine Kd.C_drew ?_))); (case side2 => exact HC1_1.out); rintro e w18 ⟨rfl, hb⟩; refine ⟨_, rfl, ?_⟩; replace BK175 := Aside0.mk (blk_below (pK BK175) hb); replace BK176 := Aside0.mk (blk_below (pK BK176) hb); replace HB := Aside0.mk (below_step (pB HB) hb); (try clear hb); (try clear hb2); (try clear hk); (try clear hi)))
   go_ret
   exact ⟨by first | rfl | (simp [errW_none, errW_some] <;> rfl) | (simp [*, errW_none, errW_some] <;> rfl), by repeat (first | (with_reducible first | exact HB.out | apply below_alloc | apply pw_below_drewN | apply below_drew1 | refine below_set ?_ GE175.out | refine below_set ?_ GE176.out) | exact HB.out)⟩
  ·rw [if_neg c11] at H
   have c11b0 : decide (t178 < 0) = false := decide_eq_false c11
   clear c11
   replace H := Option.bind_eq_some_iff.mp H
   obtain ⟨⟨t179, t180⟩, A190, H⟩ := H
   replace H : ((laws_toLadder.f k a1_0 l1_1).bind fun bt183 => ((spec_BelowLadder.f k t179 t180 bt183.1 bt183.2).bind fun bt187 => ((laws_toLadder.f k a0_0 l0_1).bind fun bt193 => ((laws_toLadder.f k a1_0 l1_1).bind fun bt198 => ((impl_BelowLadder.f k bt193.1 bt193.2 bt198.1 bt198.2).bind fun bt203 => ((laws_eqLadder.f k bt203.1 bt203.2.1 bt187.1 bt187.2.1).bind fun t209 => (if t209 = true then (laws_FnExactBelowLadder.j0 k bt187.2.2 bt203.2.2 (bt203.2.2 != bt187.2.2) a0_0 l0_1 a1_0 l1_1 bt187.1 bt187.2.1 bt193.1 bt193.2 bt198.1 bt198.2 bt203.1 bt203.2.1) else (laws_FnExactBelowLadder.j0 k bt187.2.2 bt203.2.2 true a0_0 l0_1 a1_0 l1_1 bt187.1 bt187.2.1 bt193.1 bt193.2 bt198.1 bt198.2 bt203.1 bt203.2.1)))))))) = some true := H
   have A19 := Aside0.mk A190
   clear A190
   replace H := Option.bind_eq_some_iff.mp H
   obtain ⟨⟨t183, t184⟩, A200, H⟩ := H
   replace H : ((spec_BelowLadder.f k t179 t180 t183 t184).bind fun bt187 => ((laws_toLadder.f k a0_0 l0_1).bind fun bt193 => ((laws_toLadder.f k a1_0 l1_1).bind fun bt198 => ((impl_BelowLadder.f k bt193.1 bt193.2 bt198.1 bt198.2).bind fun bt203 => ((laws_eqLadder.f k bt203.1 bt203.2.1 bt187.1 bt187.2.1).bind fun t209 => (if t209 = true then (laws_FnExactBelowLadder.j0 k bt187.2.2 bt203.2.2 (bt203.2.2 != bt187.2.2) a0_0 l0_1 a1_0 l1_1 bt187.1 bt187.2.1 bt193.1 bt193.2 bt198.1 bt198.2 bt203.1 bt203.2.1) else (laws_FnExactBelowLadder.j0 k bt187.2.2 bt203.2.2 true a0_0 l0_1 a1_0 l1_1 bt187.1 bt187.2.1 bt193.1 bt193.2 bt198.1 bt198.2 bt203.1 bt203.2.1))))))) = some true := H
   have A20 := Aside0.mk A200
   clear A200
   replace H := Option.bind_eq_some_iff.mp H
   obtain ⟨⟨t187, t188, t191⟩, A210, H⟩ := H
   replace H : ((laws_toLadder.f k a0_0 l0_1).bind fun bt193 => ((laws_toLadder.f k a1_0 l1_1).bind fun bt198 => ((impl_BelowLadder.f k bt193.1 bt193.2 bt198.1 bt198.2).bind fun bt203 => ((laws_eqLadder.f k bt203.1 bt203.2.1 t187 t188).bind fun t209 => (if t209 = true then (laws_FnExactBelowLadder.j0 k t191 bt203.2.2 (bt203.2.2 != t191) a0_0 l0_1 a1_0 l1_1 t187 t188 bt193.1 bt193.2 bt198.1 bt198.2 bt203.1 bt203.2.1) else (laws_FnExactBelowLadder.j0 k t191 bt203.2.2 true a0_0 l0_1 a1_0 l1_1 t187 t188 bt193.1 bt193.2 bt198.1 bt198.2 bt203.1 bt203.2.1)))))) = some true := H
   have A21 := Aside0.mk A210
   clear A210
   replace H := Option.bind_eq_some_iff.mp H
   obtain ⟨⟨t193, t194⟩, A220, H⟩ := H
   replace H : ((laws_toLadder.f k a1_0 l1_1).bind fun bt198 => ((impl_BelowLadder.f k t193 t194 bt198.1 bt198.2).bind fun bt203 => ((laws_eqLadder.f k bt203.1 bt203.2.1 t187 t188).bind fun t209 => (if t209 = true then (laws_FnExactBelowLadder.j0 k t191 bt203.2.2 (bt203.2.2 != t191) a0_0 l0_1 a1_0 l1_1 t187 t188 t193 t194 bt198.1 bt198.2 bt203.1 bt203.2.1) else (laws_FnExactBelowLadder.j0 k t191 bt203.2.2 true a0_0 l0_1 a1_0 l1_1 t187 t188 t193 t194 bt198.1 bt198.2 bt203.1 bt203.2.1))))) = some true := H
   have A22 := Aside0.mk A220
   clear A220
   replace H := Option.bind_eq_some_iff.mp H
   obtain ⟨⟨t198, t199⟩, A230, H⟩ := H
   replace H : ((impl_BelowLadder.f k t193 t194 t198 t199).bind fun bt203 => ((laws_eqLadder.f k bt203.1 bt203.2.1 t187 t188).bind fun t209 => (if t209 = true then (laws_FnExactBelowLadder.j0 k t191 bt203.2.2 (bt203.2.2 != t191) a0_0 l0_1 a1_0 l1_1 t187 t188 t193 t194 t198 t199 bt203.1 bt203.2.1) else (laws_FnExactBelowLadder.j0 k t191 bt203.2.2 true a0_0 l0_1 a1_0 l1_1 t187 t188 t193 t194 t198 t199 bt203.1 bt203.2.1)))) = some true := H
   have A23 := Aside0.mk A230
   clear A230
   replace H := Option.bind_eq_some_iff.mp H
   obtain ⟨⟨t203, t204, t207⟩, A240, H⟩ := H
   replace H : ((laws_eqLadder.f k t203 t204 t187 t188).bind fun t209 => (if t209 = true then (laws_FnExactBelowLadder.j0 k t191 t207 (t207 != t191) a0_0 l0_1 a1_0 l1_1 t187 t188 t193 t194 t198 t199 t203 t204) else (laws_FnExactBelowLadder.j0 k t191 t207 true a0_0 l0_1 a1_0 l1_1 t187 t188 t193 t194 t198 t199 t203 t204))) = some true := H
   have A24 := Aside0.mk A240
   clear A240
   have HC25 := Aside0.mk H
   clear H
   go_enter Try.func5, Try.ntmps5
   try go_wp2_with (first | ((with_reducible refine gate_dst (N := 2) rfl ?_); refine box_event ?hg (N := 2) ?hd (cs := #[.int .i64 a0_0, .slice A0_1 l0_1.length c0_1]) (t := 33) ?hr ?_; (case hd => rfl); (case hg => rfl); (case hr => first | (go_simp; done) | (go_simp; rfl)); intro gb175 hg w26 hbox hb; have BK175 := Aside0.mk (hbox); have GW175 := Aside0.mk ((by rw [hg]; exact (below_size (pB HB)) : w.heap.size ≤ gb175)); have GE175 := Aside0.mk ((by rw [hg]; exact (below_size (pB HB)) : w.heap.size ≤ gb175)); replace HB := Aside0.mk (below_step (pB HB) hb); clear hb hbox hg) | ((with_reducible refine gate_dst (N := 3) rfl ?_); refine box_event ?hg (N := 3) ?hd (cs := #[.int .i64 a1_0, .slice A1_1 l1_1.length c1_1]) (t := 33) ?hr ?_; (case hd => rfl); (case hg => rfl); (case hr => first | (go_simp; done) | (go_simp; rfl)); intro gb176 hg w27 hbox hb; have BK176 := Aside0.mk (hbox); have GW176 := Aside0.mk ((by rw [hg]; exact (below_size (pB HB)) : w.heap.size ≤ gb176)); have GE176 := Aside0.mk ((by rw [hg]; exact (below_size (pB HB)) : w.heap.size ≤ gb176)); have NB175_176 := Aside0.mk ((by rw [hg]; exact Nat.ne_of_lt (blk_lt (pK BK175)) : gb175 ≠ gb176)); have NB176_175 := Aside0.mk ((by rw [hg]; exact Nat.ne_of_gt (blk_lt (pK BK175)) : gb176 ≠ gb175)); replace BK175 := Aside0.mk (blk_below (pK BK175) hb); replace HB := Aside0.mk (below_step (pB HB) hb); clear hb hbox hg; have hnb28 := NB175_176.out; have hnc28 := NB176_175.out; have hcz29_0 : w27.cell? ⟨gb175, 0, none⟩ = some (.int .i64 a0_0) := (blk_cell BK175.out 0).trans rfl; have hcz29_1 : w27.cell? ⟨gb175, 1, none⟩ = some (.slice A0_1 l0_1.length c0_1) := (blk_cell BK175.out 1).trans rfl; have hfz29_0 := blk_frozen BK175.out 0; have hfz29_1 := blk_frozen BK175.out 1) | ((with_reducible refine gate_callee (f := 19) rfl ?_); refine goesL_ (some 19) rfl rfl Try.func19 (by kernel_rfl) rfl #[.agg #[.int .i64 a0_0, .slice A0_1 l0_1.length c0_1], .int .i64 1048576] rfl (by (try simp only [List.map_toArray, List.map_cons, List.map_nil]); first | done | rfl | (simp only [List.length_drop, List.length_take]; rfl)) ?_; (with_reducible refine (laws_szLadder.calls a0_0 _ _ l0_1 1048576 t177 _ ?side1 ?side2 A3.out).mono ?_); (case side1 => repeat (first | exact (Kd.C_below HR0_1.out HB.out) | (with_reducible refine Kd.C_alloc ?_ _) | (with_reducible refine Kd.C_drewN ?_ _) | (with_reducible refine Kd.C_drew ?_))); (case side2 => exact HC0_1.out); rintro e w30 ⟨rfl, hb⟩; refine ⟨_, rfl, ?_⟩; replace BK175 := Aside0.mk (blk_below (pK BK175) hb); replace BK176 := Aside0.mk (blk_below (pK BK176) hb); replace HB := Aside0.mk (below_step (pB HB) hb); (try clear hb); (try clear hb2); (try clear hk); (try clear hi); have hcz31_0 : w30.cell? ⟨gb176, 0, none⟩ = some (.int .i64 a1_0) := (blk_cell BK176.out 0).trans rfl; have hcz31_1 : w30.cell? ⟨gb176, 1, none⟩ = some (.slice A1_1 l1_1.length c1_1) := (blk_cell BK176.out 1).trans rfl; have hfz31_0 := blk_frozen BK176.out 0; have hfz31_1 := blk_frozen BK176.out 1) | ((with_reducible refine gate_callee (f := 19) rfl ?_); refine goesL_ (some 24) rfl rfl Try.func19 (by kernel_rfl) rfl #[.agg #[.int .i64 a1_0, .slice A1_1 l1_1.length c1_1], .int .i64 t177] rfl (by (try simp only [List.map_toArray, List.map_cons, List.map_nil]); first | done | rfl | (simp only [List.length_drop, List.length_take]; rfl)) ?_; (with_reducible refine (laws_szLadder.calls a1_0 _ _ l1_1 t177 t178 _ ?side1 ?side2 A10.out).mono ?_); (case side1 => repeat (first | exact (Kd.C_below HR1_1.out HB.out) | (with_reducible refine Kd.C_alloc ?_ _) | (with_reducible refine Kd.C_drewN ?_ _) | (with_reducible refine Kd.C_drew ?_))); (case side2 => exact HC1_1.out); rintro e w32 ⟨rfl, hb⟩; refine ⟨_, rfl, ?_⟩; replace BK175 := Aside0.mk (blk_below (pK BK175) hb); replace BK176 := Aside0.mk (blk_below (pK BK176) hb); replace HB := Aside0.mk (below_step (pB HB) hb); (try clear hb); (try clear hb2); (try clear hk); (try clear hi)))
   replace BK175 := Aside0.mk (blk_drew BK175.out)
   replace BK176 := Aside0.mk (blk_drew BK176.out)
   replace HB := Aside0.mk (below_drew1 HB.out)
   refine start_ (n := 11) (S := fun w' => w'.cell? ⟨gb175, 0, none⟩ = some (.int .i64 a0_0) ∧ w'.cell? ⟨gb175, 1, none⟩ = some (.slice A0_1 l0_1.length c0_1) ∧ w'.cell? ⟨gb176, 0, none⟩ = some (.int .i64 a1_0) ∧ w'.cell? ⟨gb176, 1, none⟩ = some (.slice A1_1 l1_1.length c1_1)) (ds := []) #[false, false, false, false, false, false, false, false, false, false, false] (by kernel_rfl) rfl rfl ⟨(blk_cell BK175.out 0).trans rfl, (blk_cell BK175.out 1).trans rfl, (blk_cell BK176.out 0).trans rfl, (blk_cell BK176.out 1).trans rfl⟩ (fun hHeld => ?_); refine with_tabW laws_FnExactBelowLadder.tab8 laws_FnExactBelowLadder.bits8 (fun HT_ HW_ => ?_)
   generalize w32.drew = w33 at BK175 BK176 HB hHeld ⊢
   refine take_ (i := 0) (N := some 28) (v := ?_) (a' := ?_) #[true, false, false, false, false, false, false, false, false, false, false] rfl rfl (take_ofW HT_.out HW_.out (by kernel_rfl)) (fun _ _ _ h => h) (Or.inl ⟨by rfl, ?_⟩) hHeld ?_ ?_
   rotate_left
   ·rintro w' ⟨s0, s1, s2, s3⟩
    go_simp
    with_reducible rfl
   rotate_left
   ·simp only [Act.put, List.setIfInBounds_toArray, List.set_cons_zero, List.set_cons_succ, i64_w, i32_w]
    rfl
   refine take_ (i := 2) (N := some 30) (v := ?_) (a' := ?_) #[true, false, true, false, false, false, false, false, false, false, false] rfl rfl (take_ofW HT_.out HW_.out (by kernel_rfl)) (fun _ _ _ h => h) (Or.inl ⟨by rfl, ?_⟩) hHeld ?_ ?_
   rotate_left
   ·rintro w' ⟨s0, s1, s2, s3⟩
    go_simp
    with_reducible rfl
   rotate_left
   ·simp only [Act.put, List.setIfInBounds_toArray, List.set_cons_zero, List.set_cons_succ, i64_w, i32_w]
    rfl
   refine join_ (σ := Value × Value × Value × Nat) 2 #[true, true, true, true, true, true, true, true, true, false, false] (fun s_ => [(29, .agg #[.int .i64 t179, s_.1]), (31, .agg #[.int .i64 t183, s_.2.1]), (32, .tuple #[.agg #[.int .i64 t187, s_.2.2.1], .bool t191]), (6, .pointer (some ⟨s_.2.2.2, 0, none⟩)), (27, .tuple #[.agg #[.int .i64 t187, s_.2.2.1], .bool t191]), (33, .agg #[.int .i64 t187, s_.2.2.1]), (34, .bool t191)]) (fun s_ w' => (w'.cell? ⟨gb175, 0, none⟩ = some (.int .i64 a0_0) ∧ w'.cell? ⟨gb175, 1, none⟩ = some (.slice A0_1 l0_1.length c0_1) ∧ w'.cell? ⟨gb176, 0, none⟩ = some (.int .i64 a1_0) ∧ w'.cell? ⟨gb176, 1, none⟩ = some (.slice A1_1 l1_1.length c1_1)) ∧ (Kd.R (Kd.int .i64) 3 w' w.heap.size (fun k_ => some k_ ≠ (s_.2.1 : Value).ownBlock ∧ some k_ ≠ (s_.2.2.1 : Value).ownBlock) s_.1 t180) ∧ (Kd.R (Kd.int .i64) 3 w' w.heap.size (fun k_ => some k_ ≠ (s_.1 : Value).ownBlock ∧ some k_ ≠ (s_.2.2.1 : Value).ownBlock) s_.2.1 t184) ∧ (Kd.R (Kd.int .i64) 3 w' w.heap.size (fun k_ => some k_ ≠ (s_.1 : Value).ownBlock ∧ some k_ ≠ (s_.2.1 : Value).ownBlock) s_.2.2.1 t188) ∧ (w'.heap[gb175]? = some (.cells #[.int .i64 a0_0, .slice A0_1 l0_1.length c0_1] 33 (0, 0))) ∧ (w'.heap[gb176]? = some (.cells #[.int .i64 a1_0, .slice A1_1 l1_1.length c1_1] 33 (0, 0))) ∧ (w'.heap[s_.2.2.2]? = some (.cells #[.int .i64 0, .slice none 0 0] 35 (0, 0))) ∧ (w.heap.size ≤ s_.2.2.2) ∧ (w.heap.size ≤ s_.2.2.2) ∧ (gb175 ≠ s_.2.2.2) ∧ (s_.2.2.2 ≠ gb175) ∧ (gb176 ≠ s_.2.2.2) ∧ (s_.2.2.2 ≠ gb176) ∧ (Below w.heap.size w w')) ?_ ?_
   rotate_left
   ·intro hCont
    refine two_ (i := 1) (j := 8) (Ni := some 29) (Nj := some 6) #[true, true, true, false, false, false, false, false, false, false, false] #[true, false, true, false, false, false, false, false, true, false, false] rfl rfl rfl rfl (two_of HT_.out (by kernel_rfl)) (by decide) (by decide) (fun K hK => ?_) (fun K hK => ?_)
    ·skip
     refine goes_ Try.func21 (by kernel_rfl) rfl #[.agg #[.int .i64 a0_0, .slice A0_1 l0_1.length c0_1]] (by rfl) rfl rfl (by (try simp only [List.map_toArray, List.map_cons, List.map_nil]); first | done | rfl | (simp only [List.length_drop, List.length_take]; rfl)) ?_
     with_reducible refine (laws_toLadder.calls k a0_0 _ _ l0_1 t179 t180 _ ?side1 ?side2 A19.out).mono ?_
     (case side1 => repeat (first | exact (Kd.C_below HR0_1.out HB.out) | (with_reducible refine Kd.C_alloc ?_ _) | (with_reducible refine Kd.C_drewN ?_ _) | (with_reducible refine Kd.C_drew ?_)))
     (case side2 => exact HC0_1.out)
     rintro e w34 ⟨v181, rfl, ho0, hb⟩
     refine ⟨_, rfl, ?_⟩
     have HO182 := Aside0.mk (Kd.R_lower ho0 (below_size (pB HB)))
     replace BK175 := Aside0.mk (blk_below (pK BK175) hb)
     replace BK176 := Aside0.mk (blk_below (pK BK176) hb)
     replace HB := Aside0.mk (below_step (pB HB) hb)
     (try clear hb)
     (try clear hb2)
     (try clear hk)
     (try clear hi)
     (try clear ho0)
     refine hK.out _ _ ⟨(blk_cell BK175.out 0).trans rfl, (blk_cell BK175.out 1).trans rfl, (blk_cell BK176.out 0).trans rfl, (blk_cell BK176.out 1).trans rfl⟩ (fun hHeld => ?_)
     clear hK K
     refine norm_ (a' := ?_) ?_ ?_
     rotate_left
     ·show Act.put _ (some 29) _ = _
      simp only [Act.put, List.setIfInBounds_toArray, List.set_cons_zero, List.set_cons_succ, i64_w, i32_w]
      rfl
     refine two_ (i := 3) (j := 8) (Ni := some 31) (Nj := some 6) #[true, true, true, true, false, false, false, false, false, false, false] #[true, true, true, false, false, false, false, false, true, false, false] rfl rfl rfl rfl (two_of HT_.out (by kernel_rfl)) (by decide) (by decide) (fun K hK => ?_) (fun K hK => ?_)
     ·skip
      refine goes_ Try.func21 (by kernel_rfl) rfl #[.agg #[.int .i64 a1_0, .slice A1_1 l1_1.length c1_1]] (by rfl) rfl rfl (by (try simp only [List.map_toArray, List.map_cons, List.map_nil]); first | done | rfl | (simp only [List.length_drop, List.length_take]; rfl)) ?_
      with_reducible refine (laws_toLadder.calls k a1_0 _ _ l1_1 t183 t184 _ ?side1 ?side2 A20.out).mono ?_
      (case side1 => repeat (first | exact (Kd.C_below HR1_1.out HB.out) | (with_reducible refine Kd.C_alloc ?_ _) | (with_reducible refine Kd.C_drewN ?_ _) | (with_reducible refine Kd.C_drew ?_)))
      (case side2 => exact HC1_1.out)
      rintro e w35 ⟨v185, rfl, ho0, hb⟩
      refine ⟨_, rfl, ?_⟩
      have HO186 := Aside0.mk (Kd.R_lower (Kd.R_new' ho0 (Kd.R_lt (pR HO182))) (below_size (pB HB)))
      replace HO182 := Aside0.mk (Kd.R_elder' (pR HO182) (Kd.R_base ho0) hb)
      replace BK175 := Aside0.mk (blk_below (pK BK175) hb)
      replace BK176 := Aside0.mk (blk_below (pK BK176) hb)
      replace HB := Aside0.mk (below_step (pB HB) hb)
      (try clear hb)
      (try clear hb2)
      (try clear hk)
      (try clear hi)
      (try clear ho0)
      obtain ⟨Ao36, co36, eo36⟩ := Kd.R_slice HO182.out
      (first | subst eo36 | (injection eo36 with f1_ f2_ f3_; have f4_ := f1_.symm; have f5_ := f3_.symm; clear f1_ f2_ f3_; subst f4_; subst f5_))
      obtain ⟨Ao37, co37, eo37⟩ := Kd.R_slice HO186.out
      (first | subst eo37 | (injection eo37 with f1_ f2_ f3_; have f4_ := f1_.symm; have f5_ := f3_.symm; clear f1_ f2_ f3_; subst f4_; subst f5_))
      refine hK.out _ _ ⟨(blk_cell BK175.out 0).trans rfl, (blk_cell BK175.out 1).trans rfl, (blk_cell BK176.out 0).trans rfl, (blk_cell BK176.out 1).trans rfl⟩ (fun hHeld => ?_)
      clear hK K
      refine norm_ (a' := ?_) ?_ ?_
      rotate_left
      ·show Act.put _ (some 31) _ = _
       simp only [Act.put, List.setIfInBounds_toArray, List.set_cons_zero, List.set_cons_succ, i64_w, i32_w]
       rfl
      refine two_ (i := 4) (j := 8) (Ni := some 32) (Nj := some 6) #[true, true, true, true, true, false, false, false, false, false, false] #[true, true, true, true, false, false, false, false, true, false, false] rfl rfl rfl rfl (two_of HT_.out (by kernel_rfl)) (by decide) (by decide) (fun K hK => ?_) (fun K hK => ?_)
      ·skip
       refine goes_ Try.func20 (by kernel_rfl) rfl #[.agg #[.int .i64 t179, .slice Ao36 t180.length co36], .agg #[.int .i64 t183, .slice Ao37 t184.length co37]] (by rfl) rfl rfl (by (try simp only [List.map_toArray, List.map_cons, List.map_nil]); first | done | rfl | (simp only [List.length_drop, List.length_take]; rfl)) ?_
       with_reducible refine (spec_BelowLadder.calls k t179 _ _ t180 t183 _ _ t184 t187 t188 t191 _ ?side1 ?side2 ?side3 ?side4 A21.out).mono ?_
       (case side1 => repeat (first | exact (Kd.R_reads' HO182.out).2.2 | (with_reducible refine Kd.C_alloc ?_ _) | (with_reducible refine Kd.C_drewN ?_ _) | (with_reducible refine Kd.C_drew ?_)))
       (case side2 => exact (Kd.R_reads' HO182.out).2.1)
       (case side3 => repeat (first | exact (Kd.R_reads' HO186.out).2.2 | (with_reducible refine Kd.C_alloc ?_ _) | (with_reducible refine Kd.C_drewN ?_ _) | (with_reducible refine Kd.C_drew ?_)))
       (case side4 => exact (Kd.R_reads' HO186.out).2.1)
       rintro e w38 ⟨v189, rfl, ho0, hb⟩
       refine ⟨_, rfl, ?_⟩
       have HO190 := Aside0.mk (Kd.R_lower (Kd.R_new' (Kd.R_new' ho0 (Kd.R_lt (pR HO182))) (Kd.R_lt (pR HO186))) (below_size (pB HB)))
       replace HO182 := Aside0.mk (Kd.R_elder' (pR HO182) (Kd.R_base ho0) hb)
       replace HO186 := Aside0.mk (Kd.R_elder' (pR HO186) (Kd.R_base ho0) hb)
       replace BK175 := Aside0.mk (blk_below (pK BK175) hb)
       replace BK176 := Aside0.mk (blk_below (pK BK176) hb)
       replace HB := Aside0.mk (below_step (pB HB) hb)
       (try clear hb)
       (try clear hb2)
       (try clear hk)
       (try clear hi)
       (try clear ho0)
       refine hK.out _ _ ⟨(blk_cell BK175.out 0).trans rfl, (blk_cell BK175.out 1).trans rfl, (blk_cell BK176.out 0).trans rfl, (blk_cell BK176.out 1).trans rfl⟩ (fun hHeld => ?_)
       clear hK K
       refine norm_ (a' := ?_) ?_ ?_
       rotate_left
       ·show Act.put _ (some 32) _ = _
        simp only [Act.put, List.setIfInBounds_toArray, List.set_cons_zero, List.set_cons_succ, i64_w, i32_w]
        rfl
       refine pure_ (i := 5) (N := some 27) (v := ?_) (a' := ?_) #[true, true, true, true, true, true, false, false, false, false, false] rfl rfl (any_of HT_.out (by kernel_rfl)) (fun _ _ _ h => h) (Or.inl ⟨by rfl, ?_⟩) ?_ ?_
       rotate_left
       ·intro w'
        go_simp
        with_reducible rfl
       rotate_left
       ·simp only [Act.put, List.setIfInBounds_toArray, List.set_cons_zero, List.set_cons_succ, i64_w, i32_w]
        rfl
       refine pure_ (i := 6) (N := some 33) (v := ?_) (a' := ?_) #[true, true, true, true, true, true, true, false, false, false, false] rfl rfl (any_of HT_.out (by kernel_rfl)) (fun _ _ _ h => h) (Or.inl ⟨by rfl, ?_⟩) ?_ ?_
       rotate_left
       ·intro w'
        go_simp
        with_reducible rfl
       rotate_left
       ·simp only [Act.put, List.setIfInBounds_toArray, List.set_cons_zero, List.set_cons_succ, i64_w, i32_w]
        rfl
       refine pure_ (i := 7) (N := some 34) (v := ?_) (a' := ?_) #[true, true, true, true, true, true, true, true, false, false, false] rfl rfl (any_of HT_.out (by kernel_rfl)) (fun _ _ _ h => h) (Or.inl ⟨by rfl, ?_⟩) ?_ ?_
       rotate_left
       ·intro w'
        go_simp
        with_reducible rfl
       rotate_left
       ·simp only [Act.put, List.setIfInBounds_toArray, List.set_cons_zero, List.set_cons_succ, i64_w, i32_w]
        rfl
       refine one_ (i := 8) (N := some 6) #[true, true, true, true, true, true, true, true, true, false, false] rfl rfl (one_of HT_.out (by kernel_rfl)) (by decide) (fun K hK => ?_)
       refine box_step ?hg (N := 6) ?hd (cs := #[.int .i64 0, .slice none 0 0]) (t := 35) ?hr ?_; (case hd => rfl); (case hg => rfl); (case hr => first | (go_simp; done) | (go_simp; rfl))
       intro gb192 hg w39 hbox hb
       have BK192 := Aside0.mk (hbox)
       have GW192 := Aside0.mk ((by rw [hg]; exact (below_size (pB HB)) : w.heap.size ≤ gb192))
       have GE192 := Aside0.mk ((by rw [hg]; exact (below_size (pB HB)) : w.heap.size ≤ gb192))
       have NB175_192 := Aside0.mk ((by rw [hg]; exact Nat.ne_of_lt (blk_lt (pK BK175)) : gb175 ≠ gb192))
       have NB192_175 := Aside0.mk ((by rw [hg]; exact Nat.ne_of_gt (blk_lt (pK BK175)) : gb192 ≠ gb175))
       have NB176_192 := Aside0.mk ((by rw [hg]; exact Nat.ne_of_lt (blk_lt (pK BK176)) : gb176 ≠ gb192))
       have NB192_176 := Aside0.mk ((by rw [hg]; exact Nat.ne_of_gt (blk_lt (pK BK176)) : gb192 ≠ gb176))
       replace HO182 := Aside0.mk (Kd.R_below (pR HO182) hb)
       replace HO186 := Aside0.mk (Kd.R_below (pR HO186) hb)
       replace HO190 := Aside0.mk (Kd.R_below (pR HO190) hb)
       replace BK175 := Aside0.mk (blk_below (pK BK175) hb)
       replace BK176 := Aside0.mk (blk_below (pK BK176) hb)
       replace HB := Aside0.mk (below_step (pB HB) hb)
       clear hb hbox hg
       refine hK.out _ _ ⟨(blk_cell BK175.out 0).trans rfl, (blk_cell BK175.out 1).trans rfl, (blk_cell BK176.out 0).trans rfl, (blk_cell BK176.out 1).trans rfl⟩ (fun hHeld => ?_)
       clear hK K
       refine norm_ (a' := ?_) ?_ ?_
       rotate_left
       ·show Act.put _ (some 6) _ = _
        simp only [Act.put, List.setIfInBounds_toArray, List.set_cons_zero, List.set_cons_succ, i64_w, i32_w]
        rfl
       exact norm_ (by simp only [putAll, Act.put, List.setIfInBounds_toArray, List.set_cons_zero, List.set_cons_succ]) (hCont (.slice Ao36 t180.length co36, .slice Ao37 t184.length co37, v189, gb192) _ ⟨hHeld, (by (with_reducible repeat (first | apply Kd.R_alloc | apply Kd.R_drewN | apply Kd.R_drew)); exact Kd.R_mono HO182.out (fun _ hk => ⟨hk.1.2, hk.2⟩)), (by (with_reducible repeat (first | apply Kd.R_alloc | apply Kd.R_drewN | apply Kd.R_drew)); exact Kd.R_mono HO186.out (fun _ hk => ⟨hk.1.2, hk.2⟩)), (by (with_reducible repeat (first | apply Kd.R_alloc | apply Kd.R_drewN | apply Kd.R_drew)); exact Kd.R_mono HO190.out (fun _ hk => ⟨hk.1.2, hk.2⟩)), (pK BK175), (pK BK176), (pK BK192), GW192.out, GE192.out, NB175_192.out, NB192_175.out, NB176_192.out, NB192_176.out, (pB HB)⟩)
      ·skip
       refine box_step ?hg (N := 6) ?hd (cs := #[.int .i64 0, .slice none 0 0]) (t := 35) ?hr ?_; (case hd => rfl); (case hg => rfl); (case hr => first | (go_simp; done) | (go_simp; rfl))
       intro gb192 hg w36 hbox hb
       have BK192 := Aside0.mk (hbox)
       have GW192 := Aside0.mk ((by rw [hg]; exact (below_size (pB HB)) : w.heap.size ≤ gb192))
       have GE192 := Aside0.mk ((by rw [hg]; exact (below_size (pB HB)) : w.heap.size ≤ gb192))
       have NB175_192 := Aside0.mk ((by rw [hg]; exact Nat.ne_of_lt (blk_lt (pK BK175)) : gb175 ≠ gb192))
       have NB192_175 := Aside0.mk ((by rw [hg]; exact Nat.ne_of_gt (blk_lt (pK BK175)) : gb192 ≠ gb175))
       have NB176_192 := Aside0.mk ((by rw [hg]; exact Nat.ne_of_lt (blk_lt (pK BK176)) : gb176 ≠ gb192))
       have NB192_176 := Aside0.mk ((by rw [hg]; exact Nat.ne_of_gt (blk_lt (pK BK176)) : gb192 ≠ gb176))
       replace HO182 := Aside0.mk (Kd.R_below (pR HO182) hb)
       replace HO186 := Aside0.mk (Kd.R_below (pR HO186) hb)
       replace BK175 := Aside0.mk (blk_below (pK BK175) hb)
       replace BK176 := Aside0.mk (blk_below (pK BK176) hb)
       replace HB := Aside0.mk (below_step (pB HB) hb)
       clear hb hbox hg
       obtain ⟨Ao37, co37, eo37⟩ := Kd.R_slice HO182.out
       (first | subst eo37 | (injection eo37 with f1_ f2_ f3_; have f4_ := f1_.symm; have f5_ := f3_.symm; clear f1_ f2_ f3_; subst f4_; subst f5_))
       obtain ⟨Ao38, co38, eo38⟩ := Kd.R_slice HO186.out
       (first | subst eo38 | (injection eo38 with f1_ f2_ f3_; have f4_ := f1_.symm; have f5_ := f3_.symm; clear f1_ f2_ f3_; subst f4_; subst f5_))
       refine hK.out _ _ ⟨(blk_cell BK175.out 0).trans rfl, (blk_cell BK175.out 1).trans rfl, (blk_cell BK176.out 0).trans rfl, (blk_cell BK176.out 1).trans rfl⟩ (fun hHeld => ?_)
       clear hK K
       refine norm_ (a' := ?_) ?_ ?_
       rotate_left
       ·show Act.put _ (some 6) _ = _
        simp only [Act.put, List.setIfInBounds_toArray, List.set_cons_zero, List.set_cons_succ, i64_w, i32_w]
        rfl
       refine one_ (i := 4) (N := some 32) #[true, true, true, true, true, false, false, false, true, false, false] rfl rfl (one_of HT_.out (by kernel_rfl)) (by decide) (fun K hK => ?_)
       refine goes_ Try.func20 (by kernel_rfl) rfl #[.agg #[.int .i64 t179, .slice Ao37 t180.length co37], .agg #[.int .i64 t183, .slice Ao38 t184.length co38]] (by rfl) rfl rfl (by (try simp only [List.map_toArray, List.map_cons, List.map_nil]); first | done | rfl | (simp only [List.length_drop, List.length_take]; rfl)) ?_
       with_reducible refine (spec_BelowLadder.calls k t179 _ _ t180 t183 _ _ t184 t187 t188 t191 _ ?side1 ?side2 ?side3 ?side4 A21.out).mono ?_
       (case side1 => repeat (first | exact (Kd.R_reads' HO182.out).2.2 | (with_reducible refine Kd.C_alloc ?_ _) | (with_reducible refine Kd.C_drewN ?_ _) | (with_reducible refine Kd.C_drew ?_)))
       (case side2 => exact (Kd.R_reads' HO182.out).2.1)
       (case side3 => repeat (first | exact (Kd.R_reads' HO186.out).2.2 | (with_reducible refine Kd.C_alloc ?_ _) | (with_reducible refine Kd.C_drewN ?_ _) | (with_reducible refine Kd.C_drew ?_)))
       (case side4 => exact (Kd.R_reads' HO186.out).2.1)
       rintro e w39 ⟨v189, rfl, ho0, hb⟩
       refine ⟨_, rfl, ?_⟩
       have HO190 := Aside0.mk (Kd.R_lower (Kd.R_new' (Kd.R_new' ho0 (Kd.R_lt (pR HO182))) (Kd.R_lt (pR HO186))) (below_size (pB HB)))
       replace HO182 := Aside0.mk (Kd.R_elder' (pR HO182) (Kd.R_base ho0) hb)
       replace HO186 := Aside0.mk (Kd.R_elder' (pR HO186) (Kd.R_base ho0) hb)
       replace BK175 := Aside0.mk (blk_below (pK BK175) hb)
       replace BK176 := Aside0.mk (blk_below (pK BK176) hb)
       replace BK192 := Aside0.mk (blk_below (pK BK192) hb)
       replace HB := Aside0.mk (below_step (pB HB) hb)
       (try clear hb)
       (try clear hb2)
       (try clear hk)
       (try clear hi)
       (try clear ho0)
       refine hK.out _ _ ⟨(blk_cell BK175.out 0).trans rfl, (blk_cell BK175.out 1).trans rfl, (blk_cell BK176.out 0).trans rfl, (blk_cell BK176.out 1).trans rfl⟩ (fun hHeld => ?_)
       clear hK K
       refine norm_ (a' := ?_) ?_ ?_
       rotate_left
       ·show Act.put _ (some 32) _ = _
        simp only [Act.put, List.setIfInBounds_toArray, List.set_cons_zero, List.set_cons_succ, i64_w, i32_w]
        rfl
       refine pure_ (i := 5) (N := some 27) (v := ?_) (a' := ?_) #[true, true, true, true, true, true, false, false, true, false, false] rfl rfl (any_of HT_.out (by kernel_rfl)) (fun _ _ _ h => h) (Or.inl ⟨by rfl, ?_⟩) ?_ ?_
       rotate_left
       ·intro w'
        go_simp
        with_reducible rfl
       rotate_left
       ·simp only [Act.put, List.setIfInBounds_toArray, List.set_cons_zero, List.set_cons_succ, i64_w, i32_w]
        rfl
       refine pure_ (i := 6) (N := some 33) (v := ?_) (a' := ?_) #[true, true, true, true, true, true, true, false, true, false, false] rfl rfl (any_of HT_.out (by kernel_rfl)) (fun _ _ _ h => h) (Or.inl ⟨by rfl, ?_⟩) ?_ ?_
       rotate_left
       ·intro w'
        go_simp
        with_reducible rfl
       rotate_left
       ·simp only [Act.put, List.setIfInBounds_toArray, List.set_cons_zero, List.set_cons_succ, i64_w, i32_w]
        rfl
       refine pure_ (i := 7) (N := some 34) (v := ?_) (a' := ?_) #[true, true, true, true, true, true, true, true, true, false, false] rfl rfl (any_of HT_.out (by kernel_rfl)) (fun _ _ _ h => h) (Or.inl ⟨by rfl, ?_⟩) ?_ ?_
       rotate_left
       ·intro w'
        go_simp
        with_reducible rfl
       rotate_left
       ·simp only [Act.put, List.setIfInBounds_toArray, List.set_cons_zero, List.set_cons_succ, i64_w, i32_w]
        rfl
       exact norm_ (by simp only [putAll, Act.put, List.setIfInBounds_toArray, List.set_cons_zero, List.set_cons_succ]) (hCont (.slice Ao37 t180.length co37, .slice Ao38 t184.length co38, v189, gb192) _ ⟨hHeld, (by (with_reducible repeat (first | apply Kd.R_alloc | apply Kd.R_drewN | apply Kd.R_drew)); exact Kd.R_mono HO182.out (fun _ hk => ⟨hk.1.2, hk.2⟩)), (by (with_reducible repeat (first | apply Kd.R_alloc | apply Kd.R_drewN | apply Kd.R_drew)); exact Kd.R_mono HO186.out (fun _ hk => ⟨hk.1.2, hk.2⟩)), (by (with_reducible repeat (first | apply Kd.R_alloc | apply Kd.R_drewN | apply Kd.R_drew)); exact Kd.R_mono HO190.out (fun _ hk => ⟨hk.1.2, hk.2⟩)), (pK BK175), (pK BK176), (pK BK192), GW192.out, GE192.out, NB175_192.out, NB192_175.out, NB176_192.out, NB192_176.out, (pB HB)⟩)
     ·skip
      refine box_step ?hg (N := 6) ?hd (cs := #[.int .i64 0, .slice none 0 0]) (t := 35) ?hr ?_; (case hd => rfl); (case hg => rfl); (case hr => first | (go_simp; done) | (go_simp; rfl))
      intro gb192 hg w35 hbox hb
      have BK192 := Aside0.mk (hbox)
      have GW192 := Aside0.mk ((by rw [hg]; exact (below_size (pB HB)) : w.heap.size ≤ gb192))
      have GE192 := Aside0.mk ((by rw [hg]; exact (below_size (pB HB)) : w.heap.size ≤ gb192))
      have NB175_192 := Aside0.mk ((by rw [hg]; exact Nat.ne_of_lt (blk_lt (pK BK175)) : gb175 ≠ gb192))
      have NB192_175 := Aside0.mk ((by rw [hg]; exact Nat.ne_of_gt (blk_lt (pK BK175)) : gb192 ≠ gb175))
      have NB176_192 := Aside0.mk ((by rw [hg]; exact Nat.ne_of_lt (blk_lt (pK BK176)) : gb176 ≠ gb192))
      have NB192_176 := Aside0.mk ((by rw [hg]; exact Nat.ne_of_gt (blk_lt (pK BK176)) : gb192 ≠ gb176))
      replace HO182 := Aside0.mk (Kd.R_below (pR HO182) hb)
      replace BK175 := Aside0.mk (blk_below (pK BK175) hb)
      replace BK176 := Aside0.mk (blk_below (pK BK176) hb)
      replace HB := Aside0.mk (below_step (pB HB) hb)
      clear hb hbox hg
      refine hK.out _ _ ⟨(blk_cell BK175.out 0).trans rfl, (blk_cell BK175.out 1).trans rfl, (blk_cell BK176.out 0).trans rfl, (blk_cell BK176.out 1).trans rfl⟩ (fun hHeld => ?_)
      clear hK K
      refine norm_ (a' := ?_) ?_ ?_
      rotate_left
      ·show Act.put _ (some 6) _ = _
       simp only [Act.put, List.setIfInBounds_toArray, List.set_cons_zero, List.set_cons_succ, i64_w, i32_w]
       rfl
      refine one_ (i := 3) (N := some 31) #[true, true, true, true, false, false, false, false, true, false, false] rfl rfl (one_of HT_.out (by kernel_rfl)) (by decide) (fun K hK => ?_)
      refine goes_ Try.func21 (by kernel_rfl) rfl #[.agg #[.int .i64 a1_0, .slice A1_1 l1_1.length c1_1]] (by rfl) rfl rfl (by (try simp only [List.map_toArray, List.map_cons, List.map_nil]); first | done | rfl | (simp only [List.length_drop, List.length_take]; rfl)) ?_
      with_reducible refine (laws_toLadder.calls k a1_0 _ _ l1_1 t183 t184 _ ?side1 ?side2 A20.out).mono ?_
      (case side1 => repeat (first | exact (Kd.C_below HR1_1.out HB.out) | (with_reducible refine Kd.C_alloc ?_ _) | (with_reducible refine Kd.C_drewN ?_ _) | (with_reducible refine Kd.C_drew ?_)))
      (case side2 => exact HC1_1.out)
      rintro e w36 ⟨v185, rfl, ho0, hb⟩
      refine ⟨_, rfl, ?_⟩
      have HO186 := Aside0.mk (Kd.R_lower (Kd.R_new' ho0 (Kd.R_lt (pR HO182))) (below_size (pB HB)))
      replace HO182 := Aside0.mk (Kd.R_elder' (pR HO182) (Kd.R_base ho0) hb)
      replace BK175 := Aside0.mk (blk_below (pK BK175) hb)
      replace BK176 := Aside0.mk (blk_below (pK BK176) hb)
      replace BK192 := Aside0.mk (blk_below (pK BK192) hb)
      replace HB := Aside0.mk (below_step (pB HB) hb)
      (try clear hb)
      (try clear hb2)
      (try clear hk)
      (try clear hi)
      (try clear ho0)
      obtain ⟨Ao37, co37, eo37⟩ := Kd.R_slice HO182.out
      (first | subst eo37 | (injection eo37 with f1_ f2_ f3_; have f4_ := f1_.symm; have f5_ := f3_.symm; clear f1_ f2_ f3_; subst f4_; subst f5_))
      obtain ⟨Ao38, co38, eo38⟩ := Kd.R_slice HO186.out
      (first | subst eo38 | (injection eo38 with f1_ f2_ f3_; have f4_ := f1_.symm; have f5_ := f3_.symm; clear f1_ f2_ f3_; subst f4_; subst f5_))
      refine hK.out _ _ ⟨(blk_cell BK175.out 0).trans rfl, (blk_cell BK175.out 1).trans rfl, (blk_cell BK176.out 0).trans rfl, (blk_cell BK176.out 1).trans rfl⟩ (fun hHeld => ?_)
      clear hK K
      refine norm_ (a' := ?_) ?_ ?_
      rotate_left
      ·show Act.put _ (some 31) _ = _
       simp only [Act.put, List.setIfInBounds_toArray, List.set_cons_zero, List.set_cons_succ, i64_w, i32_w]
       rfl
      refine one_ (i := 4) (N := some 32) #[true, true, true, true, true, false, false, false, true, false, false] rfl rfl (one_of HT_.out (by kernel_rfl)) (by decide) (fun K hK => ?_)
      refine goes_ Try.func20 (by kernel_rfl) rfl #[.agg #[.int .i64 t179, .slice Ao37 t180.length co37], .agg #[.int .i64 t183, .slice Ao38 t184.length co38]] (by rfl) rfl rfl (by (try simp only [List.map_toArray, List.map_cons, List.map_nil]); first | done | rfl | (simp only [List.length_drop, List.length_take]; rfl)) ?_
      with_reducible refine (spec_BelowLadder.calls k t179 _ _ t180 t183 _ _ t184 t187 t188 t191 _ ?side1 ?side2 ?side3 ?side4 A21.out).mono ?_
      (case side1 => repeat (first | exact (Kd.R_reads' HO182.out).2.2 | (with_reducible refine Kd.C_alloc ?_ _) | (with_reducible refine Kd.C_drewN ?_ _) | (with_reducible refine Kd.C_drew ?_)))
      (case side2 => exact (Kd.R_reads' HO182.out).2.1)
      (case side3 => repeat (first | exact (Kd.R_reads' HO186.out).2.2 | (with_reducible refine Kd.C_alloc ?_ _) | (with_reducible refine Kd.C_drewN ?_ _) | (with_reducible refine Kd.C_drew ?_)))
      (case side4 => exact (Kd.R_reads' HO186.out).2.1)
      rintro e w39 ⟨v189, rfl, ho0, hb⟩
      refine ⟨_, rfl, ?_⟩
      have HO190 := Aside0.mk (Kd.R_lower (Kd.R_new' (Kd.R_new' ho0 (Kd.R_lt (pR HO182))) (Kd.R_lt (pR HO186))) (below_size (pB HB)))
      replace HO182 := Aside0.mk (Kd.R_elder' (pR HO182) (Kd.R_base ho0) hb)
      replace HO186 := Aside0.mk (Kd.R_elder' (pR HO186) (Kd.R_base ho0) hb)
      replace BK175 := Aside0.mk (blk_below (pK BK175) hb)
      replace BK176 := Aside0.mk (blk_below (pK BK176) hb)
      replace BK192 := Aside0.mk (blk_below (pK BK192) hb)
      replace HB := Aside0.mk (below_step (pB HB) hb)
      (try clear hb)
      (try clear hb2)
      (try clear hk)
      (try clear hi)
      (try clear ho0)
      refine hK.out _ _ ⟨(blk_cell BK175.out 0).trans rfl, (blk_cell BK175.out 1).trans rfl, (blk_cell BK176.out 0).trans rfl, (blk_cell BK176.out 1).trans rfl⟩ (fun hHeld => ?_)
      clear hK K
      refine norm_ (a' := ?_) ?_ ?_
      rotate_left
      ·show Act.put _ (some 32) _ = _
       simp only [Act.put, List.setIfInBounds_toArray, List.set_cons_zero, List.set_cons_succ, i64_w, i32_w]
       rfl
      refine pure_ (i := 5) (N := some 27) (v := ?_) (a' := ?_) #[true, true, true, true, true, true, false, false, true, false, false] rfl rfl (any_of HT_.out (by kernel_rfl)) (fun _ _ _ h => h) (Or.inl ⟨by rfl, ?_⟩) ?_ ?_
      rotate_left
      ·intro w'
       go_simp
       with_reducible rfl
      rotate_left
      ·simp only [Act.put, List.setIfInBounds_toArray, List.set_cons_zero, List.set_cons_succ, i64_w, i32_w]
       rfl
      refine pure_ (i := 6) (N := some 33) (v := ?_) (a' := ?_) #[true, true, true, true, true, true, true, false, true, false, false] rfl rfl (any_of HT_.out (by kernel_rfl)) (fun _ _ _ h => h) (Or.inl ⟨by rfl, ?_⟩) ?_ ?_
      rotate_left
      ·intro w'
       go_simp
       with_reducible rfl
      rotate_left
      ·simp only [Act.put, List.setIfInBounds_toArray, List.set_cons_zero, List.set_cons_succ, i64_w, i32_w]
       rfl
      refine pure_ (i := 7) (N := some 34) (v := ?_) (a' := ?_) #[true, true, true, true, true, true, true, true, true, false, false] rfl rfl (any_of HT_.out (by kernel_rfl)) (fun _ _ _ h => h) (Or.inl ⟨by rfl, ?_⟩) ?_ ?_
      rotate_left
      ·intro w'
       go_simp
       with_reducible rfl
      rotate_left
      ·simp only [Act.put, List.setIfInBounds_toArray, List.set_cons_zero, List.set_cons_succ, i64_w, i32_w]
       rfl
      exact norm_ (by simp only [putAll, Act.put, List.setIfInBounds_toArray, List.set_cons_zero, List.set_cons_succ]) (hCont (.slice Ao37 t180.length co37, .slice Ao38 t184.length co38, v189, gb192) _ ⟨hHeld, (by (with_reducible repeat (first | apply Kd.R_alloc | apply Kd.R_drewN | apply Kd.R_drew)); exact Kd.R_mono HO182.out (fun _ hk => ⟨hk.1.2, hk.2⟩)), (by (with_reducible repeat (first | apply Kd.R_alloc | apply Kd.R_drewN | apply Kd.R_drew)); exact Kd.R_mono HO186.out (fun _ hk => ⟨hk.1.2, hk.2⟩)), (by (with_reducible repeat (first | apply Kd.R_alloc | apply Kd.R_drewN | apply Kd.R_drew)); exact Kd.R_mono HO190.out (fun _ hk => ⟨hk.1.2, hk.2⟩)), (pK BK175), (pK BK176), (pK BK192), GW192.out, GE192.out, NB175_192.out, NB192_175.out, NB176_192.out, NB192_176.out, (pB HB)⟩)
    ·skip
     refine box_step ?hg (N := 6) ?hd (cs := #[.int .i64 0, .slice none 0 0]) (t := 35) ?hr ?_; (case hd => rfl); (case hg => rfl); (case hr => first | (go_simp; done) | (go_simp; rfl))
     intro gb192 hg w34 hbox hb
     have BK192 := Aside0.mk (hbox)
     have GW192 := Aside0.mk ((by rw [hg]; exact (below_size (pB HB)) : w.heap.size ≤ gb192))
     have GE192 := Aside0.mk ((by rw [hg]; exact (below_size (pB HB)) : w.heap.size ≤ gb192))
     have NB175_192 := Aside0.mk ((by rw [hg]; exact Nat.ne_of_lt (blk_lt (pK BK175)) : gb175 ≠ gb192))
     have NB192_175 := Aside0.mk ((by rw [hg]; exact Nat.ne_of_gt (blk_lt (pK BK175)) : gb192 ≠ gb175))
     have NB176_192 := Aside0.mk ((by rw [hg]; exact Nat.ne_of_lt (blk_lt (pK BK176)) : gb176 ≠ gb192))
     have NB192_176 := Aside0.mk ((by rw [hg]; exact Nat.ne_of_gt (blk_lt (pK BK176)) : gb192 ≠ gb176))
     replace BK175 := Aside0.mk (blk_below (pK BK175) hb)
     replace BK176 := Aside0.mk (blk_below (pK BK176) hb)
     replace HB := Aside0.mk (below_step (pB HB) hb)
     clear hb hbox hg
     refine hK.out _ _ ⟨(blk_cell BK175.out 0).trans rfl, (blk_cell BK175.out 1).trans rfl, (blk_cell BK176.out 0).trans rfl, (blk_cell BK176.out 1).trans rfl⟩ (fun hHeld => ?_)
     clear hK K
     refine norm_ (a' := ?_) ?_ ?_
     rotate_left
     ·show Act.put _ (some 6) _ = _
      simp only [Act.put, List.setIfInBounds_toArray, List.set_cons_zero, List.set_cons_succ, i64_w, i32_w]
      rfl
     refine one_ (i := 1) (N := some 29) #[true, true, true, false, false, false, false, false, true, false, false] rfl rfl (one_of HT_.out (by kernel_rfl)) (by decide) (fun K hK => ?_)
     refine goes_ Try.func21 (by kernel_rfl) rfl #[.agg #[.int .i64 a0_0, .slice A0_1 l0_1.length c0_1]] (by rfl) rfl rfl (by (try simp only [List.map_toArray, List.map_cons, List.map_nil]); first | done | rfl | (simp only [List.length_drop, List.length_take]; rfl)) ?_
     with_reducible refine (laws_toLadder.calls k a0_0 _ _ l0_1 t179 t180 _ ?side1 ?side2 A19.out).mono ?_
     (case side1 => repeat (first | exact (Kd.C_below HR0_1.out HB.out) | (with_reducible refine Kd.C_alloc ?_ _) | (with_reducible refine Kd.C_drewN ?_ _) | (with_reducible refine Kd.C_drew ?_)))
     (case side2 => exact HC0_1.out)
     rintro e w35 ⟨v181, rfl, ho0, hb⟩
     refine ⟨_, rfl, ?_⟩
     have HO182 := Aside0.mk (Kd.R_lower ho0 (below_size (pB HB)))
     replace BK175 := Aside0.mk (blk_below (pK BK175) hb)
     replace BK176 := Aside0.mk (blk_below (pK BK176) hb)
     replace BK192 := Aside0.mk (blk_below (pK BK192) hb)
     replace HB := Aside0.mk (below_step (pB HB) hb)
     (try clear hb)
     (try clear hb2)
     (try clear hk)
     (try clear hi)
     (try clear ho0)
     refine hK.out _ _ ⟨(blk_cell BK175.out 0).trans rfl, (blk_cell BK175.out 1).trans rfl, (blk_cell BK176.out 0).trans rfl, (blk_cell BK176.out 1).trans rfl⟩ (fun hHeld => ?_)
     clear hK K
     refine norm_ (a' := ?_) ?_ ?_
     rotate_left
     ·show Act.put _ (some 29) _ = _
      simp only [Act.put, List.setIfInBounds_toArray, List.set_cons_zero, List.set_cons_succ, i64_w, i32_w]
      rfl
     refine one_ (i := 3) (N := some 31) #[true, true, true, true, false, false, false, false, true, false, false] rfl rfl (one_of HT_.out (by kernel_rfl)) (by decide) (fun K hK => ?_)
     refine goes_ Try.func21 (by kernel_rfl) rfl #[.agg #[.int .i64 a1_0, .slice A1_1 l1_1.length c1_1]] (by rfl) rfl rfl (by (try simp only [List.map_toArray, List.map_cons, List.map_nil]); first | done | rfl | (simp only [List.length_drop, List.length_take]; rfl)) ?_
     with_reducible refine (laws_toLadder.calls k a1_0 _ _ l1_1 t183 t184 _ ?side1 ?side2 A20.out).mono ?_
     (case side1 => repeat (first | exact (Kd.C_below HR1_1.out HB.out) | (with_reducible refine Kd.C_alloc ?_ _) | (with_reducible refine Kd.C_drewN ?_ _) | (with_reducible refine Kd.C_drew ?_)))
     (case side2 => exact HC1_1.out)
     rintro e w36 ⟨v185, rfl, ho0, hb⟩
     refine ⟨_, rfl, ?_⟩
     have HO186 := Aside0.mk (Kd.R_lower (Kd.R_new' ho0 (Kd.R_lt (pR HO182))) (below_size (pB HB)))
     replace HO182 := Aside0.mk (Kd.R_elder' (pR HO182) (Kd.R_base ho0) hb)
     replace BK175 := Aside0.mk (blk_below (pK BK175) hb)
     replace BK176 := Aside0.mk (blk_below (pK BK176) hb)
     replace BK192 := Aside0.mk (blk_below (pK BK192) hb)
     replace HB := Aside0.mk (below_step (pB HB) hb)
     (try clear hb)
     (try clear hb2)
     (try clear hk)
     (try clear hi)
     (try clear ho0)
     obtain ⟨Ao37, co37, eo37⟩ := Kd.R_slice HO182.out
     (first | subst eo37 | (injection eo37 with f1_ f2_ f3_; have f4_ := f1_.symm; have f5_ := f3_.symm; clear f1_ f2_ f3_; subst f4_; subst f5_))
     obtain ⟨Ao38, co38, eo38⟩ := Kd.R_slice HO186.out
     (first | subst eo38 | (injection eo38 with f1_ f2_ f3_; have f4_ := f1_.symm; have f5_ := f3_.symm; clear f1_ f2_ f3_; subst f4_; subst f5_))
     refine hK.out _ _ ⟨(blk_cell BK175.out 0).trans rfl, (blk_cell BK175.out 1).trans rfl, (blk_cell BK176.out 0).trans rfl, (blk_cell BK176.out 1).trans rfl⟩ (fun hHeld => ?_)
     clear hK K
     refine norm_ (a' := ?_) ?_ ?_
     rotate_left
     ·show Act.put _ (some 31) _ = _
      simp only [Act.put, List.setIfInBounds_toArray, List.set_cons_zero, List.set_cons_succ, i64_w, i32_w]
      rfl
     refine one_ (i := 4) (N := some 32) #[true, true, true, true, true, false, false, false, true, false, false] rfl rfl (one_of HT_.out (by kernel_rfl)) (by decide) (fun K hK => ?_)
     refine goes_ Try.func20 (by kernel_rfl) rfl #[.agg #[.int .i64 t179, .slice Ao37 t180.length co37], .agg #[.int .i64 t183, .slice Ao38 t184.length co38]] (by rfl) rfl rfl (by (try simp only [List.map_toArray, List.map_cons, List.map_nil]); first | done | rfl | (simp only [List.length_drop, List.length_take]; rfl)) ?_
     with_reducible refine (spec_BelowLadder.calls k t179 _ _ t180 t183 _ _ t184 t187 t188 t191 _ ?side1 ?side2 ?side3 ?side4 A21.out).mono ?_
     (case side1 => repeat (first | exact (Kd.R_reads' HO182.out).2.2 | (with_reducible refine Kd.C_alloc ?_ _) | (with_reducible refine Kd.C_drewN ?_ _) | (with_reducible refine Kd.C_drew ?_)))
     (case side2 => exact (Kd.R_reads' HO182.out).2.1)
     (case side3 => repeat (first | exact (Kd.R_reads' HO186.out).2.2 | (with_reducible refine Kd.C_alloc ?_ _) | (with_reducible refine Kd.C_drewN ?_ _) | (with_reducible refine Kd.C_drew ?_)))
     (case side4 => exact (Kd.R_reads' HO186.out).2.1)
     rintro e w39 ⟨v189, rfl, ho0, hb⟩
     refine ⟨_, rfl, ?_⟩
     have HO190 := Aside0.mk (Kd.R_lower (Kd.R_new' (Kd.R_new' ho0 (Kd.R_lt (pR HO182))) (Kd.R_lt (pR HO186))) (below_size (pB HB)))
     replace HO182 := Aside0.mk (Kd.R_elder' (pR HO182) (Kd.R_base ho0) hb)
     replace HO186 := Aside0.mk (Kd.R_elder' (pR HO186) (Kd.R_base ho0) hb)
     replace BK175 := Aside0.mk (blk_below (pK BK175) hb)
     replace BK176 := Aside0.mk (blk_below (pK BK176) hb)
     replace BK192 := Aside0.mk (blk_below (pK BK192) hb)
     replace HB := Aside0.mk (below_step (pB HB) hb)
     (try clear hb)
     (try clear hb2)
     (try clear hk)
     (try clear hi)
     (try clear ho0)
     refine hK.out _ _ ⟨(blk_cell BK175.out 0).trans rfl, (blk_cell BK175.out 1).trans rfl, (blk_cell BK176.out 0).trans rfl, (blk_cell BK176.out 1).trans rfl⟩ (fun hHeld => ?_)
     clear hK K
     refine norm_ (a' := ?_) ?_ ?_
     rotate_left
     ·show Act.put _ (some 32) _ = _
      simp only [Act.put, List.setIfInBounds_toArray, List.set_cons_zero, List.set_cons_succ, i64_w, i32_w]
      rfl
     refine pure_ (i := 5) (N := some 27) (v := ?_) (a' := ?_) #[true, true, true, true, true, true, false, false, true, false, false] rfl rfl (any_of HT_.out (by kernel_rfl)) (fun _ _ _ h => h) (Or.inl ⟨by rfl, ?_⟩) ?_ ?_
     rotate_left
     ·intro w'
      go_simp
      with_reducible rfl
     rotate_left
     ·simp only [Act.put, List.setIfInBounds_toArray, List.set_cons_zero, List.set_cons_succ, i64_w, i32_w]
      rfl
     refine pure_ (i := 6) (N := some 33) (v := ?_) (a' := ?_) #[true, true, true, true, true, true, true, false, true, false, false] rfl rfl (any_of HT_.out (by kernel_rfl)) (fun _ _ _ h => h) (Or.inl ⟨by rfl, ?_⟩) ?_ ?_
     rotate_left
     ·intro w'
      go_simp
      with_reducible rfl
     rotate_left
     ·simp only [Act.put, List.setIfInBounds_toArray, List.set_cons_zero, List.set_cons_succ, i64_w, i32_w]
      rfl
     refine pure_ (i := 7) (N := some 34) (v := ?_) (a' := ?_) #[true, true, true, true, true, true, true, true, true, false, false] rfl rfl (any_of HT_.out (by kernel_rfl)) (fun _ _ _ h => h) (Or.inl ⟨by rfl, ?_⟩) ?_ ?_
     rotate_left
     ·intro w'
      go_simp
      with_reducible rfl
     rotate_left
     ·simp only [Act.put, List.setIfInBounds_toArray, List.set_cons_zero, List.set_cons_succ, i64_w, i32_w]
      rfl
     exact norm_ (by simp only [putAll, Act.put, List.setIfInBounds_toArray, List.set_cons_zero, List.set_cons_succ]) (hCont (.slice Ao37 t180.length co37, .slice Ao38 t184.length co38, v189, gb192) _ ⟨hHeld, (by (with_reducible repeat (first | apply Kd.R_alloc | apply Kd.R_drewN | apply Kd.R_drew)); exact Kd.R_mono HO182.out (fun _ hk => ⟨hk.1.2, hk.2⟩)), (by (with_reducible repeat (first | apply Kd.R_alloc | apply Kd.R_drewN | apply Kd.R_drew)); exact Kd.R_mono HO186.out (fun _ hk => ⟨hk.1.2, hk.2⟩)), (by (with_reducible repeat (first | apply Kd.R_alloc | apply Kd.R_drewN | apply Kd.R_drew)); exact Kd.R_mono HO190.out (fun _ hk => ⟨hk.1.2, hk.2⟩)), (pK BK175), (pK BK176), (pK BK192), GW192.out, GE192.out, NB175_192.out, NB192_175.out, NB176_192.out, NB192_176.out, (pB HB)⟩)
   rintro ⟨v181, v185, v189, gb192⟩ w40 ⟨hS_, h0_, h1_, h2_, h3_, h4_, h5_, h6_, h7_, h8_, h9_, h10_, h11_, h12_⟩
   have n0_ : Aside0 (Kd.R (Kd.int .i64) 3 w40 w.heap.size (fun k_ => some k_ ≠ (v185 : Value).ownBlock ∧ some k_ ≠ (v189 : Value).ownBlock) v181 t180) := ⟨h0_⟩
   have n1_ : Aside0 (Kd.R (Kd.int .i64) 3 w40 w.heap.size (fun k_ => some k_ ≠ (v181 : Value).ownBlock ∧ some k_ ≠ (v189 : Value).ownBlock) v185 t184) := ⟨h1_⟩
   have n2_ : Aside0 (Kd.R (Kd.int .i64) 3 w40 w.heap.size (fun k_ => some k_ ≠ (v181 : Value).ownBlock ∧ some k_ ≠ (v185 : Value).ownBlock) v189 t188) := ⟨h2_⟩
   have n3_ : Aside0 (w40.heap[gb175]? = some (.cells #[.int .i64 a0_0, .slice A0_1 l0_1.length c0_1] 33 (0, 0))) := ⟨h3_⟩
   have n4_ : Aside0 (w40.heap[gb176]? = some (.cells #[.int .i64 a1_0, .slice A1_1 l1_1.length c1_1] 33 (0, 0))) := ⟨h4_⟩
   have n5_ : Aside0 (w40.heap[gb192]? = some (.cells #[.int .i64 0, .slice none 0 0] 35 (0, 0))) := ⟨h5_⟩
   have n6_ : Aside0 (w.heap.size ≤ gb192) := ⟨h6_⟩
   have n7_ : Aside0 (w.heap.size ≤ gb192) := ⟨h7_⟩
   have n8_ : Aside0 (gb175 ≠ gb192) := ⟨h8_⟩
   have n9_ : Aside0 (gb192 ≠ gb175) := ⟨h9_⟩
   have n10_ : Aside0 (gb176 ≠ gb192) := ⟨h10_⟩
   have n11_ : Aside0 (gb192 ≠ gb176) := ⟨h11_⟩
   have n12_ : Aside0 (Below w.heap.size w w40) := ⟨h12_⟩
   clear BK175
   clear BK176
   clear HB
   clear h0_ h1_ h2_ h3_ h4_ h5_ h6_ h7_ h8_ h9_ h10_ h11_ h12_
   have HO182 := n0_
   have HO186 := n1_
   have HO190 := n2_
   have BK175 := n3_
   have BK176 := n4_
   have BK192 := n5_
   have GW192 := n6_
   have GE192 := n7_
   have NB175_192 := n8_
   have NB192_175 := n9_
   have NB176_192 := n10_
   have NB192_176 := n11_
   have HB := n12_
   clear n0_ n1_ n2_ n3_ n4_ n5_ n6_ n7_ n8_ n9_ n10_ n11_ n12_
   have hHeld : w40.cell? ⟨gb175, 0, none⟩ = some (.int .i64 a0_0) ∧ w40.cell? ⟨gb175, 1, none⟩ = some (.slice A0_1 l0_1.length c0_1) ∧ w40.cell? ⟨gb176, 0, none⟩ = some (.int .i64 a1_0) ∧ w40.cell? ⟨gb176, 1, none⟩ = some (.slice A1_1 l1_1.length c1_1) := hS_
   obtain ⟨Ao42, co42, eo42⟩ := Kd.R_slice HO190.out
   (first | subst eo42 | (injection eo42 with f1_ f2_ f3_; have f4_ := f1_.symm; have f5_ := f3_.symm; clear f1_ f2_ f3_; subst f4_; subst f5_))
   refine norm_ (a' := ?_) ?_ ?_
   rotate_left
   ·simp only [putAll, Act.put, List.setIfInBounds_toArray, List.set_cons_zero, List.set_cons_succ]
    rfl
   refine one_ (i := 9) (N := none) #[true, true, true, true, true, true, true, true, true, true, false] rfl rfl (one_of HT_.out (by kernel_rfl)) (by decide) (fun K hK => ?_)
   have hs41 : w40.cell? ⟨gb192, 0, none⟩ = some (.int .i64 0) := (blk_cell BK192.out 0).trans rfl
   have hfs41 := blk_frozen BK192.out 0
   have hns41_0 := NB175_192.out
   have hns41_1 := NB176_192.out
   have hms41_0 := NB192_175.out
   have hms41_1 := NB192_176.out
   have hs43 : w40.cell? ⟨gb192, 1, none⟩ = some (.slice none 0 0) := (blk_cell BK192.out 1).trans rfl
   have hfs43 := blk_frozen BK192.out 1
   have hns43_0 := NB175_192.out
   have hns43_1 := NB176_192.out
   have hms43_0 := NB192_175.out
   have hms43_1 := NB192_176.out
   refine skip_ (w1 := ?_) (by rfl) rfl ?_ ?_
   rotate_left
   ·go_simp
    rfl
   refine hK.out _ _ ⟨((cell_far (p := ⟨gb192, _, none⟩) NB175_192.out _).trans (((cell_far (p := ⟨gb192, _, none⟩) NB175_192.out _).trans (hHeld.1)))), ((cell_far (p := ⟨gb192, _, none⟩) NB175_192.out _).trans (((cell_far (p := ⟨gb192, _, none⟩) NB175_192.out _).trans (hHeld.2.1)))), ((cell_far (p := ⟨gb192, _, none⟩) NB176_192.out _).trans (((cell_far (p := ⟨gb192, _, none⟩) NB176_192.out _).trans (hHeld.2.2.1)))), ((cell_far (p := ⟨gb192, _, none⟩) NB176_192.out _).trans (((cell_far (p := ⟨gb192, _, none⟩) NB176_192.out _).trans (hHeld.2.2.2))))⟩ (fun hHeld => ?_)
   clear hK K
   refine pure_ (i := 10) (N := some 7) (v := ?_) (a' := ?_) #[true, true, true, true, true, true, true, true, true, true, true] rfl rfl (any_of HT_.out (by kernel_rfl)) (fun _ _ _ h => h) (Or.inl ⟨by rfl, ?_⟩) ?_ ?_
   rotate_left
   ·intro w'
    go_simp
    with_reducible rfl
   rotate_left
   ·simp only [Act.put, List.setIfInBounds_toArray, List.set_cons_zero, List.set_cons_succ, i64_w, i32_w]
    rfl
   refine done_ (done_of HT_.out (by kernel_rfl)) ?_
   have hnb44 := NB175_192.out
   have hnc44 := NB192_175.out
   have hcz45_0 : w40.cell? ⟨gb175, 0, none⟩ = some (.int .i64 a0_0) := (blk_cell BK175.out 0).trans rfl
   have hcz45_1 : w40.cell? ⟨gb175, 1, none⟩ = some (.slice A0_1 l0_1.length c0_1) := (blk_cell BK175.out 1).trans rfl
   have hfz45_0 := blk_frozen BK175.out 0
   have hfz45_1 := blk_frozen BK175.out 1
   go_upto_region 12 with (first | ((with_reducible refine gate_callee (f := 21) rfl ?_); refine goesL_ (some 36) rfl rfl Try.func21 (by kernel_rfl) rfl #[.agg #[.int .i64 a0_0, .slice A0_1 l0_1.length c0_1]] rfl (by (try simp only [List.map_toArray, List.map_cons, List.map_nil]); first | done | rfl | (simp only [List.length_drop, List.length_take]; rfl)) ?_; (with_reducible refine (laws_toLadder.calls k a0_0 _ _ l0_1 t193 t194 _ ?side1 ?side2 A22.out).mono ?_); (case side1 => exact Kd.C_below HR0_1.out (pB HB)); (case side2 => exact HC0_1.out); rintro e w46 ⟨v195, rfl, ho0, hb⟩; refine ⟨_, rfl, ?_⟩; have HO196 := Aside0.mk (Kd.R_lower (Kd.R_new' (Kd.R_new' (Kd.R_new' ho0 (Kd.R_lt (by (with_reducible repeat (first | apply Kd.R_alloc | apply Kd.R_drewN | apply Kd.R_drew)); exact (Kd.R_mono (Kd.R_far (p := ⟨gb192, 1, none⟩) (Kd.R_far (p := ⟨gb192, 0, none⟩) (Kd.R_types HO182.out BK192.out (by decide)) (fun _ hk => hk.2) (.int .i64 t187)) (fun _ hk => hk.2) (.slice Ao42 t188.length co42)) (fun _ h_ => h_.1))))) (Kd.R_lt (by (with_reducible repeat (first | apply Kd.R_alloc | apply Kd.R_drewN | apply Kd.R_drew)); exact (Kd.R_mono (Kd.R_far (p := ⟨gb192, 1, none⟩) (Kd.R_far (p := ⟨gb192, 0, none⟩) (Kd.R_types HO186.out BK192.out (by decide)) (fun _ hk => hk.2) (.int .i64 t187)) (fun _ hk => hk.2) (.slice Ao42 t188.length co42)) (fun _ h_ => h_.1))))) (Kd.R_lt (by (with_reducible repeat (first | apply Kd.R_alloc | apply Kd.R_drewN | apply Kd.R_drew)); exact (Kd.R_mono (Kd.R_far (p := ⟨gb192, 1, none⟩) (Kd.R_far (p := ⟨gb192, 0, none⟩) (Kd.R_types HO190.out BK192.out (by decide)) (fun _ hk => hk.2) (.int .i64 t187)) (fun _ hk => hk.2) (.slice Ao42 t188.length co42)) (fun _ h_ => h_.1))))) (below_size (pB HB))); replace HO182 := Aside0.mk (Kd.R_elder' (by (with_reducible repeat (first | apply Kd.R_alloc | apply Kd.R_drewN | apply Kd.R_drew)); exact (Kd.R_mono (Kd.R_far (p := ⟨gb192, 1, none⟩) (Kd.R_far (p := ⟨gb192, 0, none⟩) (Kd.R_types HO182.out BK192.out (by decide)) (fun _ hk => hk.2) (.int .i64 t187)) (fun _ hk => hk.2) (.slice Ao42 t188.length co42)) (fun _ h_ => h_.1))) (Kd.R_base ho0) hb); replace HO186 := Aside0.mk (Kd.R_elder' (by (with_reducible repeat (first | apply Kd.R_alloc | apply Kd.R_drewN | apply Kd.R_drew)); exact (Kd.R_mono (Kd.R_far (p := ⟨gb192, 1, none⟩) (Kd.R_far (p := ⟨gb192, 0, none⟩) (Kd.R_types HO186.out BK192.out (by decide)) (fun _ hk => hk.2) (.int .i64 t187)) (fun _ hk => hk.2) (.slice Ao42 t188.length co42)) (fun _ h_ => h_.1))) (Kd.R_base ho0) hb); replace HO190 := Aside0.mk (Kd.R_elder' (by (with_reducible repeat (first | apply Kd.R_alloc | apply Kd.R_drewN | apply Kd.R_drew)); exact (Kd.R_mono (Kd.R_far (p := ⟨gb192, 1, none⟩) (Kd.R_far (p := ⟨gb192, 0, none⟩) (Kd.R_types HO190.out BK192.out (by decide)) (fun _ hk => hk.2) (.int .i64 t187)) (fun _ hk => hk.2) (.slice Ao42 t188.length co42)) (fun _ h_ => h_.1))) (Kd.R_base ho0) hb); replace BK175 := Aside0.mk (blk_below (g := gb175) (o := .cells #[.int .i64 a0_0, .slice A0_1 l0_1.length c0_1] 33 (0, 0)) (by (with_reducible repeat (first | refine blk_drewN ?_ _ | refine blk_drew ?_ | refine blk_alloc ?_ _)); refine blk_far ?_ NB175_192.out _; (with_reducible repeat (first | refine blk_drewN ?_ _ | refine blk_drew ?_ | refine blk_alloc ?_ _)); refine blk_far ?_ NB175_192.out _; (with_reducible repeat (first | refine blk_drewN ?_ _ | refine blk_drew ?_ | refine blk_alloc ?_ _)); exact BK175.out) hb); replace BK176 := Aside0.mk (blk_below (g := gb176) (o := .cells #[.int .i64 a1_0, .slice A1_1 l1_1.length c1_1] 33 (0, 0)) (by (with_reducible repeat (first | refine blk_drewN ?_ _ | refine blk_drew ?_ | refine blk_alloc ?_ _)); refine blk_far ?_ NB176_192.out _; (with_reducible repeat (first | refine blk_drewN ?_ _ | refine blk_drew ?_ | refine blk_alloc ?_ _)); refine blk_far ?_ NB176_192.out _; (with_reducible repeat (first | refine blk_drewN ?_ _ | refine blk_drew ?_ | refine blk_alloc ?_ _)); exact BK176.out) hb); replace BK192 := Aside0.mk (blk_below (g := gb192) (o := .cells #[.int .i64 t187, .slice Ao42 t188.length co42] 35 (0, 0)) (by (with_reducible repeat (first | refine blk_drewN ?_ _ | refine blk_drew ?_ | refine blk_alloc ?_ _)); refine blk_put (cs := #[.int .i64 t187, .slice none 0 0]) ?_ 1 _ rfl; (with_reducible repeat (first | refine blk_drewN ?_ _ | refine blk_drew ?_ | refine blk_alloc ?_ _)); refine blk_put (cs := #[.int .i64 0, .slice none 0 0]) ?_ 0 _ rfl; (with_reducible repeat (first | refine blk_drewN ?_ _ | refine blk_drew ?_ | refine blk_alloc ?_ _)); exact BK192.out) hb); replace HB := Aside0.mk (below_step (pB HB) hb); (try clear hb); (try clear hb2); (try clear hk); (try clear hi); (try clear ho0)) | ((with_reducible refine gate_dst (N := 8) rfl ?_); refine box_event ?hg (N := 8) ?hd (cs := #[.int .i64 0, .slice none 0 0]) (t := 35) ?hr ?_; (case hd => rfl); (case hg => rfl); (case hr => first | (go_simp; done) | (go_simp; rfl)); intro gb197 hg w47 hbox hb; have BK197 := Aside0.mk (hbox); have GW197 := Aside0.mk ((by rw [hg]; exact (below_size (pB HB)) : w.heap.size ≤ gb197)); have GE197 := Aside0.mk ((by rw [hg]; exact (below_size (pB HB)) : w.heap.size ≤ gb197)); have NB175_197 := Aside0.mk ((by rw [hg]; exact Nat.ne_of_lt (blk_lt (pK BK175)) : gb175 ≠ gb197)); have NB197_175 := Aside0.mk ((by rw [hg]; exact Nat.ne_of_gt (blk_lt (pK BK175)) : gb197 ≠ gb175)); have NB176_197 := Aside0.mk ((by rw [hg]; exact Nat.ne_of_lt (blk_lt (pK BK176)) : gb176 ≠ gb197)); have NB197_176 := Aside0.mk ((by rw [hg]; exact Nat.ne_of_gt (blk_lt (pK BK176)) : gb197 ≠ gb176)); have NB192_197 := Aside0.mk ((by rw [hg]; exact Nat.ne_of_lt (blk_lt (pK BK192)) : gb192 ≠ gb197)); have NB197_192 := Aside0.mk ((by rw [hg]; exact Nat.ne_of_gt (blk_lt (pK BK192)) : gb197 ≠ gb192)); replace HO182 := Aside0.mk (Kd.R_below (pR HO182) hb); replace HO186 := Aside0.mk (Kd.R_below (pR HO186) hb); replace HO190 := Aside0.mk (Kd.R_below (pR HO190) hb); replace HO196 := Aside0.mk (Kd.R_below (pR HO196) hb); replace BK175 := Aside0.mk (blk_below (pK BK175) hb); replace BK176 := Aside0.mk (blk_below (pK BK176) hb); replace BK192 := Aside0.mk (blk_below (pK BK192) hb); replace HB := Aside0.mk (below_step (pB HB) hb); clear hb hbox hg; have hnb48 := NB197_175.out; have hnc48 := NB175_197.out; have hnb49 := NB197_176.out; have hnc49 := NB176_197.out; have hnb50 := NB197_192.out; have hnc50 := NB192_197.out; have hcz51_0 : w47.cell? ⟨gb197, 0, none⟩ = some (.int .i64 0) := (blk_cell BK197.out 0).trans rfl; have hcz51_1 : w47.cell? ⟨gb197, 1, none⟩ = some (.slice none 0 0) := (blk_cell BK197.out 1).trans rfl; have hfz51_0 := blk_frozen BK197.out 0; have hfz51_1 := blk_frozen BK197.out 1; obtain ⟨Ao52, co52, eo52⟩ := Kd.R_slice HO196.out; subst eo52; have hnb53 := NB176_192.out; have hnc53 := NB192_176.out; have hcz54_0 : w47.cell? ⟨gb176, 0, none⟩ = some (.int .i64 a1_0) := (blk_cell BK176.out 0).trans rfl; have hcz54_1 : w47.cell? ⟨gb176, 1, none⟩ = some (.slice A1_1 l1_1.length c1_1) := (blk_cell BK176.out 1).trans rfl; have hfz54_0 := blk_frozen BK176.out 0; have hfz54_1 := blk_frozen BK176.out 1) | ((with_reducible refine gate_callee (f := 21) rfl ?_); refine goesL_ (some 38) rfl rfl Try.func21 (by kernel_rfl) rfl #[.agg #[.int .i64 a1_0, .slice A1_1 l1_1.length c1_1]] rfl (by (try simp only [List.map_toArray, List.map_cons, List.map_nil]); first | done | rfl | (simp only [List.length_drop, List.length_take]; rfl)) ?_; (with_reducible refine (laws_toLadder.calls k a1_0 _ _ l1_1 t198 t199 _ ?side1 ?side2 A23.out).mono ?_); (case side1 => exact Kd.C_below HR1_1.out (pB HB)); (case side2 => exact HC1_1.out); rintro e w55 ⟨v200, rfl, ho0, hb⟩; refine ⟨_, rfl, ?_⟩; have HO201 := Aside0.mk (Kd.R_lower (Kd.R_new' (Kd.R_new' (Kd.R_new' (Kd.R_new' ho0 (Kd.R_lt (by (with_reducible repeat (first | apply Kd.R_alloc | apply Kd.R_drewN | apply Kd.R_drew)); exact (Kd.R_mono (Kd.R_far (p := ⟨gb197, 1, none⟩) (Kd.R_far (p := ⟨gb197, 0, none⟩) (Kd.R_types HO182.out BK197.out (by decide)) (fun _ hk => hk.2) (.int .i64 t193)) (fun _ hk => hk.2) (.slice Ao52 t194.length co52)) (fun _ h_ => h_.1))))) (Kd.R_lt (by (with_reducible repeat (first | apply Kd.R_alloc | apply Kd.R_drewN | apply Kd.R_drew)); exact (Kd.R_mono (Kd.R_far (p := ⟨gb197, 1, none⟩) (Kd.R_far (p := ⟨gb197, 0, none⟩) (Kd.R_types HO186.out BK197.out (by decide)) (fun _ hk => hk.2) (.int .i64 t193)) (fun _ hk => hk.2) (.slice Ao52 t194.length co52)) (fun _ h_ => h_.1))))) (Kd.R_lt (by (with_reducible repeat (first | apply Kd.R_alloc | apply Kd.R_drewN | apply Kd.R_drew)); exact (Kd.R_mono (Kd.R_far (p := ⟨gb197, 1, none⟩) (Kd.R_far (p := ⟨gb197, 0, none⟩) (Kd.R_types HO190.out BK197.out (by decide)) (fun _ hk => hk.2) (.int .i64 t193)) (fun _ hk => hk.2) (.slice Ao52 t194.length co52)) (fun _ h_ => h_.1))))) (Kd.R_lt (by (with_reducible repeat (first | apply Kd.R_alloc | apply Kd.R_drewN | apply Kd.R_drew)); exact (Kd.R_mono (Kd.R_far (p := ⟨gb197, 1, none⟩) (Kd.R_far (p := ⟨gb197, 0, none⟩) (Kd.R_types HO196.out BK197.out (by decide)) (fun _ hk => hk.2) (.int .i64 t193)) (fun _ hk => hk.2) (.slice Ao52 t194.length co52)) (fun _ h_ => h_.1))))) (below_size (pB HB))); replace HO182 := Aside0.mk (Kd.R_elder' (by (with_reducible repeat (first | apply Kd.R_alloc | apply Kd.R_drewN | apply Kd.R_drew)); exact (Kd.R_mono (Kd.R_far (p := ⟨gb197, 1, none⟩) (Kd.R_far (p := ⟨gb197, 0, none⟩) (Kd.R_types HO182.out BK197.out (by decide)) (fun _ hk => hk.2) (.int .i64 t193)) (fun _ hk => hk.2) (.slice Ao52 t194.length co52)) (fun _ h_ => h_.1))) (Kd.R_base ho0) hb); replace HO186 := Aside0.mk (Kd.R_elder' (by (with_reducible repeat (first | apply Kd.R_alloc | apply Kd.R_drewN | apply Kd.R_drew)); exact (Kd.R_mono (Kd.R_far (p := ⟨gb197, 1, none⟩) (Kd.R_far (p := ⟨gb197, 0, none⟩) (Kd.R_types HO186.out BK197.out (by decide)) (fun _ hk => hk.2) (.int .i64 t193)) (fun _ hk => hk.2) (.slice Ao52 t194.length co52)) (fun _ h_ => h_.1))) (Kd.R_base ho0) hb); replace HO190 := Aside0.mk (Kd.R_elder' (by (with_reducible repeat (first | apply Kd.R_alloc | apply Kd.R_drewN | apply Kd.R_drew)); exact (Kd.R_mono (Kd.R_far (p := ⟨gb197, 1, none⟩) (Kd.R_far (p := ⟨gb197, 0, none⟩) (Kd.R_types HO190.out BK197.out (by decide)) (fun _ hk => hk.2) (.int .i64 t193)) (fun _ hk => hk.2) (.slice Ao52 t194.length co52)) (fun _ h_ => h_.1))) (Kd.R_base ho0) hb); replace HO196 := Aside0.mk (Kd.R_elder' (by (with_reducible repeat (first | apply Kd.R_alloc | apply Kd.R_drewN | apply Kd.R_drew)); exact (Kd.R_mono (Kd.R_far (p := ⟨gb197, 1, none⟩) (Kd.R_far (p := ⟨gb197, 0, none⟩) (Kd.R_types HO196.out BK197.out (by decide)) (fun _ hk => hk.2) (.int .i64 t193)) (fun _ hk => hk.2) (.slice Ao52 t194.length co52)) (fun _ h_ => h_.1))) (Kd.R_base ho0) hb); replace BK175 := Aside0.mk (blk_below (g := gb175) (o := .cells #[.int .i64 a0_0, .slice A0_1 l0_1.length c0_1] 33 (0, 0)) (by (with_reducible repeat (first | refine blk_drewN ?_ _ | refine blk_drew ?_ | refine blk_alloc ?_ _)); refine blk_far ?_ NB175_197.out _; (with_reducible repeat (first | refine blk_drewN ?_ _ | refine blk_drew ?_ | refine blk_alloc ?_ _)); refine blk_far ?_ NB175_197.out _; (with_reducible repeat (first | refine blk_drewN ?_ _ | refine blk_drew ?_ | refine blk_alloc ?_ _)); exact BK175.out) hb); replace BK176 := Aside0.mk (blk_below (g := gb176) (o := .cells #[.int .i64 a1_0, .slice A1_1 l1_1.length c1_1] 33 (0, 0)) (by (with_reducible repeat (first | refine blk_drewN ?_ _ | refine blk_drew ?_ | refine blk_alloc ?_ _)); refine blk_far ?_ NB176_197.out _; (with_reducible repeat (first | refine blk_drewN ?_ _ | refine blk_drew ?_ | refine blk_alloc ?_ _)); refine blk_far ?_ NB176_197.out _; (with_reducible repeat (first | refine blk_drewN ?_ _ | refine blk_drew ?_ | refine blk_alloc ?_ _)); exact BK176.out) hb); replace BK192 := Aside0.mk (blk_below (g := gb192) (o := .cells #[.int .i64 t187, .slice Ao42 t188.length co42] 35 (0, 0)) (by (with_reducible repeat (first | refine blk_drewN ?_ _ | refine blk_drew ?_ | refine blk_alloc ?_ _)); refine blk_far ?_ NB192_197.out _; (with_reducible repeat (first | refine blk_drewN ?_ _ | refine blk_drew ?_ | refine blk_alloc ?_ _)); refine blk_far ?_ NB192_197.out _; (with_reducible repeat (first | refine blk_drewN ?_ _ | refine blk_drew ?_ | refine blk_alloc ?_ _)); exact BK192.out) hb); replace BK197 := Aside0.mk (blk_below (g := gb197) (o := .cells #[.int .i64 t193, .slice Ao52 t194.length co52] 35 (0, 0)) (by (with_reducible repeat (first | refine blk_drewN ?_ _ | refine blk_drew ?_ | refine blk_alloc ?_ _)); refine blk_put (cs := #[.int .i64 t193, .slice none 0 0]) ?_ 1 _ rfl; (with_reducible repeat (first | refine blk_drewN ?_ _ | refine blk_drew ?_ | refine blk_alloc ?_ _)); refine blk_put (cs := #[.int .i64 0, .slice none 0 0]) ?_ 0 _ rfl; (with_reducible repeat (first | refine blk_drewN ?_ _ | refine blk_drew ?_ | refine blk_alloc ?_ _)); exact BK197.out) hb); replace HB := Aside0.mk (below_step (pB HB) hb); (try clear hb); (try clear hb2); (try clear hk); (try clear hi); (try clear ho0)) | ((with_reducible refine gate_dst (N := 9) rfl ?_); refine box_event ?hg (N := 9) ?hd (cs := #[.int .i64 0, .slice none 0 0]) (t := 35) ?hr ?_; (case hd => rfl); (case hg => rfl); (case hr => first | (go_simp; done) | (go_simp; rfl)); intro gb202 hg w56 hbox hb; have BK202 := Aside0.mk (hbox); have GW202 := Aside0.mk ((by rw [hg]; exact (below_size (pB HB)) : w.heap.size ≤ gb202)); have GE202 := Aside0.mk ((by rw [hg]; exact (below_size (pB HB)) : w.heap.size ≤ gb202)); have NB175_202 := Aside0.mk ((by rw [hg]; exact Nat.ne_of_lt (blk_lt (pK BK175)) : gb175 ≠ gb202)); have NB202_175 := Aside0.mk ((by rw [hg]; exact Nat.ne_of_gt (blk_lt (pK BK175)) : gb202 ≠ gb175)); have NB176_202 := Aside0.mk ((by rw [hg]; exact Nat.ne_of_lt (blk_lt (pK BK176)) : gb176 ≠ gb202)); have NB202_176 := Aside0.mk ((by rw [hg]; exact Nat.ne_of_gt (blk_lt (pK BK176)) : gb202 ≠ gb176)); have NB192_202 := Aside0.mk ((by rw [hg]; exact Nat.ne_of_lt (blk_lt (pK BK192)) : gb192 ≠ gb202)); have NB202_192 := Aside0.mk ((by rw [hg]; exact Nat.ne_of_gt (blk_lt (pK BK192)) : gb202 ≠ gb192)); have NB197_202 := Aside0.mk ((by rw [hg]; exact Nat.ne_of_lt (blk_lt (pK BK197)) : gb197 ≠ gb202)); have NB202_197 := Aside0.mk ((by rw [hg]; exact Nat.ne_of_gt (blk_lt (pK BK197)) : gb202 ≠ gb197)); replace HO182 := Aside0.mk (Kd.R_below (pR HO182) hb); replace HO186 := Aside0.mk (Kd.R_below (pR HO186) hb); replace HO190 := Aside0.mk (Kd.R_below (pR HO190) hb); replace HO196 := Aside0.mk (Kd.R_below (pR HO196) hb); replace HO201 := Aside0.mk (Kd.R_below (pR HO201) hb); replace BK175 := Aside0.mk (blk_below (pK BK175) hb); replace BK176 := Aside0.mk (blk_below (pK BK176) hb); replace BK192 := Aside0.mk (blk_below (pK BK192) hb); replace BK197 := Aside0.mk (blk_below (pK BK197) hb); replace HB := Aside0.mk (below_step (pB HB) hb); clear hb hbox hg; have hnb57 := NB202_175.out; have hnc57 := NB175_202.out; have hnb58 := NB202_176.out; have hnc58 := NB176_202.out; have hnb59 := NB202_192.out; have hnc59 := NB192_202.out; have hnb60 := NB202_197.out; have hnc60 := NB197_202.out; have hcz61_0 : w56.cell? ⟨gb202, 0, none⟩ = some (.int .i64 0) := (blk_cell BK202.out 0).trans rfl; have hcz61_1 : w56.cell? ⟨gb202, 1, none⟩ = some (.slice none 0 0) := (blk_cell BK202.out 1).trans rfl; have hfz61_0 := blk_frozen BK202.out 0; have hfz61_1 := blk_frozen BK202.out 1; obtain ⟨Ao62, co62, eo62⟩ := Kd.R_slice HO201.out; subst eo62) | ((with_reducible refine gate_store (t := 35) (p := 9) rfl ?_); refine store_event (t := 35) (p := 9) (v := ?vo_w63) (w1 := ((w56.setCell ⟨gb202, 0, none⟩ (.int .i64 t198)).setCell ⟨gb202, 1, none⟩ (.slice Ao62 t199.length co62))) ?hg ?ho ?hn ?hr ?_; (case ho => rfl); (case hg => rfl); (case hn => rfl); (case hr => first | (go_simp; done) | (go_simp; rfl)); intro w63 hw; have n0_ : Aside0 (Kd.R (Kd.int .i64) 3 w63 w.heap.size (fun k_ => some k_ ≠ (v185 : Value).ownBlock ∧ some k_ ≠ (.slice Ao42 t188.length co42 : Value).ownBlock ∧ some k_ ≠ (.slice Ao52 t194.length co52 : Value).ownBlock ∧ some k_ ≠ (.slice Ao62 t199.length co62 : Value).ownBlock) v181 t180) := ⟨(by rw [hw]; exact (by (with_reducible repeat (first | apply Kd.R_alloc | apply Kd.R_drewN | apply Kd.R_drew)); exact Kd.R_mono (Kd.R_far (p := ⟨gb202, 1, none⟩) (Kd.R_far (p := ⟨gb202, 0, none⟩) (Kd.R_types HO182.out BK202.out (by decide)) (fun _ hk => hk.2) (.int .i64 t198)) (fun _ hk => hk.2) (.slice Ao62 t199.length co62)) (fun _ hk => ⟨hk.1.1.1.1, ⟨hk.1.1.1.2, ⟨hk.1.1.2, hk.1.2⟩⟩⟩)))⟩; have n1_ : Aside0 (Kd.R (Kd.int .i64) 3 w63 w.heap.size (fun k_ => some k_ ≠ (v181 : Value).ownBlock ∧ some k_ ≠ (.slice Ao42 t188.length co42 : Value).ownBlock ∧ some k_ ≠ (.slice Ao52 t194.length co52 : Value).ownBlock ∧ some k_ ≠ (.slice Ao62 t199.length co62 : Value).ownBlock) v185 t184) := ⟨(by rw [hw]; exact (by (with_reducible repeat (first | apply Kd.R_alloc | apply Kd.R_drewN | apply Kd.R_drew)); exact Kd.R_mono (Kd.R_far (p := ⟨gb202, 1, none⟩) (Kd.R_far (p := ⟨gb202, 0, none⟩) (Kd.R_types HO186.out BK202.out (by decide)) (fun _ hk => hk.2) (.int .i64 t198)) (fun _ hk => hk.2) (.slice Ao62 t199.length co62)) (fun _ hk => ⟨hk.1.1.1.1, ⟨hk.1.1.1.2, ⟨hk.1.1.2, hk.1.2⟩⟩⟩)))⟩; have n2_ : Aside0 (Kd.R (Kd.int .i64) 3 w63 w.heap.size (fun k_ => some k_ ≠ (v181 : Value).ownBlock ∧ some k_ ≠ (v185 : Value).ownBlock ∧ some k_ ≠ (.slice Ao52 t194.length co52 : Value).ownBlock ∧ some k_ ≠ (.slice Ao62 t199.length co62 : Value).ownBlock) (.slice Ao42 t188.length co42) t188) := ⟨(by rw [hw]; exact (by (with_reducible repeat (first | apply Kd.R_alloc | apply Kd.R_drewN | apply Kd.R_drew)); exact Kd.R_mono (Kd.R_far (p := ⟨gb202, 1, none⟩) (Kd.R_far (p := ⟨gb202, 0, none⟩) (Kd.R_types HO190.out BK202.out (by decide)) (fun _ hk => hk.2) (.int .i64 t198)) (fun _ hk => hk.2) (.slice Ao62 t199.length co62)) (fun _ hk => ⟨hk.1.1.1.1, ⟨hk.1.1.1.2, ⟨hk.1.1.2, hk.1.2⟩⟩⟩)))⟩; have n3_ : Aside0 (Kd.R (Kd.int .i64) 3 w63 w.heap.size (fun k_ => some k_ ≠ (v181 : Value).ownBlock ∧ some k_ ≠ (v185 : Value).ownBlock ∧ some k_ ≠ (.slice Ao42 t188.length co42 : Value).ownBlock ∧ some k_ ≠ (.slice Ao62 t199.length co62 : Value).ownBlock) (.slice Ao52 t194.length co52) t194) := ⟨(by rw [hw]; exact (by (with_reducible repeat (first | apply Kd.R_alloc | apply Kd.R_drewN | apply Kd.R_drew)); exact Kd.R_mono (Kd.R_far (p := ⟨gb202, 1, none⟩) (Kd.R_far (p := ⟨gb202, 0, none⟩) (Kd.R_types HO196.out BK202.out (by decide)) (fun _ hk => hk.2) (.int .i64 t198)) (fun _ hk => hk.2) (.slice Ao62 t199.length co62)) (fun _ hk => ⟨hk.1.1.1.1.2, ⟨hk.1.1.1.2, ⟨hk.1.1.2, hk.1.2⟩⟩⟩)))⟩; have n4_ : Aside0 (Kd.R (Kd.int .i64) 3 w63 w.heap.size (fun k_ => some k_ ≠ (v181 : Value).ownBlock ∧ some k_ ≠ (v185 : Value).ownBlock ∧ some k_ ≠ (.slice Ao42 t188.length co42 : Value).ownBlock ∧ some k_ ≠ (.slice Ao52 t194.length co52 : Value).ownBlock) (.slice Ao62 t199.length co62) t199) := ⟨(by rw [hw]; exact (by (with_reducible repeat (first | apply Kd.R_alloc | apply Kd.R_drewN | apply Kd.R_drew)); exact Kd.R_mono (Kd.R_far (p := ⟨gb202, 1, none⟩) (Kd.R_far (p := ⟨gb202, 0, none⟩) (Kd.R_types HO201.out BK202.out (by decide)) (fun _ hk => hk.2) (.int .i64 t198)) (fun _ hk => hk.2) (.slice Ao62 t199.length co62)) (fun _ hk => ⟨hk.1.1.1.1.2, ⟨hk.1.1.1.2, ⟨hk.1.1.2, hk.1.2⟩⟩⟩)))⟩; have n5_ : Aside0 (w63.heap[gb175]? = some (.cells #[.int .i64 a0_0, .slice A0_1 l0_1.length c0_1] 33 (0, 0))) := ⟨(by rw [hw]; exact (by (with_reducible repeat (first | refine blk_drewN ?_ _ | refine blk_drew ?_ | refine blk_alloc ?_ _)); refine blk_far ?_ NB175_202.out _; (with_reducible repeat (first | refine blk_drewN ?_ _ | refine blk_drew ?_ | refine blk_alloc ?_ _)); refine blk_far ?_ NB175_202.out _; (with_reducible repeat (first | refine blk_drewN ?_ _ | refine blk_drew ?_ | refine blk_alloc ?_ _)); exact BK175.out))⟩; have n6_ : Aside0 (w63.heap[gb176]? = some (.cells #[.int .i64 a1_0, .slice A1_1 l1_1.length c1_1] 33 (0, 0))) := ⟨(by rw [hw]; exact (by (with_reducible repeat (first | refine blk_drewN ?_ _ | refine blk_drew ?_ | refine blk_alloc ?_ _)); refine blk_far ?_ NB176_202.out _; (with_reducible repeat (first | refine blk_drewN ?_ _ | refine blk_drew ?_ | refine blk_alloc ?_ _)); refine blk_far ?_ NB176_202.out _; (with_reducible repeat (first | refine blk_drewN ?_ _ | refine blk_drew ?_ | refine blk_alloc ?_ _)); exact BK176.out))⟩; have n7_ : Aside0 (w63.heap[gb192]? = some (.cells #[.int .i64 t187, .slice Ao42 t188.length co42] 35 (0, 0))) := ⟨(by rw [hw]; exact (by (with_reducible repeat (first | refine blk_drewN ?_ _ | refine blk_drew ?_ | refine blk_alloc ?_ _)); refine blk_far ?_ NB192_202.out _; (with_reducible repeat (first | refine blk_drewN ?_ _ | refine blk_drew ?_ | refine blk_alloc ?_ _)); refine blk_far ?_ NB192_202.out _; (with_reducible repeat (first | refine blk_drewN ?_ _ | refine blk_drew ?_ | refine blk_alloc ?_ _)); exact BK192.out))⟩; have n8_ : Aside0 (w63.heap[gb197]? = some (.cells #[.int .i64 t193, .slice Ao52 t194.length co52] 35 (0, 0))) := ⟨(by rw [hw]; exact (by (with_reducible repeat (first | refine blk_drewN ?_ _ | refine blk_drew ?_ | refine blk_alloc ?_ _)); refine blk_far ?_ NB197_202.out _; (with_reducible repeat (first | refine blk_drewN ?_ _ | refine blk_drew ?_ | refine blk_alloc ?_ _)); refine blk_far ?_ NB197_202.out _; (with_reducible repeat (first | refine blk_drewN ?_ _ | refine blk_drew ?_ | refine blk_alloc ?_ _)); exact BK197.out))⟩; have n9_ : Aside0 (w63.heap[gb202]? = some (.cells #[.int .i64 t198, .slice Ao62 t199.length co62] 35 (0, 0))) := ⟨(by rw [hw]; exact (by (with_reducible repeat (first | refine blk_drewN ?_ _ | refine blk_drew ?_ | refine blk_alloc ?_ _)); refine blk_put (cs := #[.int .i64 t198, .slice none 0 0]) ?_ 1 _ rfl; (with_reducible repeat (first | refine blk_drewN ?_ _ | refine blk_drew ?_ | refine blk_alloc ?_ _)); refine blk_put (cs := #[.int .i64 0, .slice none 0 0]) ?_ 0 _ rfl; (with_reducible repeat (first | refine blk_drewN ?_ _ | refine blk_drew ?_ | refine blk_alloc ?_ _)); exact BK202.out))⟩; have n10_ : Aside0 (Below w.heap.size w w63) := ⟨(by rw [hw]; exact (pB HB))⟩; clear hw; clear HO182; clear HO186; clear HO190; clear HO196; clear HO201; clear BK175; clear BK176; clear BK192; clear BK197; clear BK202; clear HB; have HO182 := n0_; have HO186 := n1_; have HO190 := n2_; have HO196 := n3_; have HO201 := n4_; have BK175 := n5_; have BK176 := n6_; have BK192 := n7_; have BK197 := n8_; have BK202 := n9_; have HB := n10_; clear n0_ n1_ n2_ n3_ n4_ n5_ n6_ n7_ n8_ n9_ n10_; have hcz64_0 : w63.cell? ⟨gb197, 0, none⟩ = some (.int .i64 t193) := (blk_cell BK197.out 0).trans rfl; have hcz64_1 : w63.cell? ⟨gb197, 1, none⟩ = some (.slice Ao52 t194.length co52) := (blk_cell BK197.out 1).trans rfl; have hfz64_0 := blk_frozen BK197.out 0; have hfz64_1 := blk_frozen BK197.out 1; have hcz65_0 : w63.cell? ⟨gb202, 0, none⟩ = some (.int .i64 t198) := (blk_cell BK202.out 0).trans rfl; have hcz65_1 : w63.cell? ⟨gb202, 1, none⟩ = some (.slice Ao62 t199.length co62) := (blk_cell BK202.out 1).trans rfl; have hfz65_0 := blk_frozen BK202.out 0; have hfz65_1 := blk_frozen BK202.out 1) | ((with_reducible refine gate_callee (f := 22) rfl ?_); refine goesL_ (some 42) rfl rfl Try.func22 (by kernel_rfl) rfl #[.agg #[.int .i64 t193, .slice Ao52 t194.length co52], .agg #[.int .i64 t198, .slice Ao62 t199.length co62]] rfl (by (try simp only [List.map_toArray, List.map_cons, List.map_nil]); first | done | rfl | (simp only [List.length_drop, List.length_take]; rfl)) ?_; (with_reducible refine (impl_BelowLadder.calls k t193 (fun k_ => some k_ = (.slice Ao52 t194.length co52 : Value).ownBlock) _ _ t194 t198 (fun k_ => some k_ = (.slice Ao62 t199.length co62 : Value).ownBlock) _ _ t199 t203 t204 t207 _ ?side1 ?side2 A24.out).mono ?_); (case side1 => exact Kd.R_V (Kd.R_tight rfl (Kd.R_types (Kd.R_types (Kd.R_types (Kd.R_types (Kd.R_types (HO196.out) BK175.out (by decide)) BK176.out (by decide)) BK192.out (by decide)) BK197.out (by decide)) BK202.out (by decide)))); (case side2 => exact Kd.R_V (Kd.R_tight rfl (Kd.R_types (Kd.R_types (Kd.R_types (Kd.R_types (Kd.R_types (HO201.out) BK175.out (by decide)) BK176.out (by decide)) BK192.out (by decide)) BK197.out (by decide)) BK202.out (by decide)))); rintro e w66 ⟨v205, rfl, ho0, hb⟩; refine ⟨_, rfl, ?_⟩; have HO206 := Aside0.mk (Kd.R_lower (Kd.R_new' (Kd.R_new' (Kd.R_new' (Kd.R_new' (Kd.R_new' (Kd.R_mono (ok' := fun k_ => True) ho0 (fun _ hk_ => trivial)) (Kd.R_lt (pR HO182))) (Kd.R_lt (pR HO186))) (Kd.R_lt (pR HO190))) (Kd.R_lt (pR HO196))) (Kd.R_lt (pR HO201))) (below_size (pB HB))); replace HO182 := Aside0.mk (Kd.R_elder' (pR HO182) (Kd.R_base ho0) hb); replace HO186 := Aside0.mk (Kd.R_elder' (pR HO186) (Kd.R_base ho0) hb); replace HO190 := Aside0.mk (Kd.R_elder' (pR HO190) (Kd.R_base ho0) hb); replace HO196 := Aside0.mk (Kd.R_elder' (pR HO196) (Kd.R_base ho0) hb); replace HO201 := Aside0.mk (Kd.R_elder' (pR HO201) (Kd.R_base ho0) hb); replace BK175 := Aside0.mk (blk_below (pK BK175) hb); replace BK176 := Aside0.mk (blk_below (pK BK176) hb); replace BK192 := Aside0.mk (blk_below (pK BK192) hb); replace BK197 := Aside0.mk (blk_below (pK BK197) hb); replace BK202 := Aside0.mk (blk_below (pK BK202) hb); replace HB := Aside0.mk (below_step (pB HB) hb); (try clear hb); (try clear hb2); (try clear hk); (try clear hi); (try clear ho0)) | ((with_reducible refine gate_dst (N := 10) rfl ?_); refine box_event ?hg (N := 10) ?hd (cs := #[.int .i64 0, .slice none 0 0]) (t := 35) ?hr ?_; (case hd => rfl); (case hg => rfl); (case hr => first | (go_simp; done) | (go_simp; rfl)); intro gb208 hg w67 hbox hb; have BK208 := Aside0.mk (hbox); have GW208 := Aside0.mk ((by rw [hg]; exact (below_size (pB HB)) : w.heap.size ≤ gb208)); have GE208 := Aside0.mk ((by rw [hg]; exact (below_size (pB HB)) : w.heap.size ≤ gb208)); have NB175_208 := Aside0.mk ((by rw [hg]; exact Nat.ne_of_lt (blk_lt (pK BK175)) : gb175 ≠ gb208)); have NB208_175 := Aside0.mk ((by rw [hg]; exact Nat.ne_of_gt (blk_lt (pK BK175)) : gb208 ≠ gb175)); have NB176_208 := Aside0.mk ((by rw [hg]; exact Nat.ne_of_lt (blk_lt (pK BK176)) : gb176 ≠ gb208)); have NB208_176 := Aside0.mk ((by rw [hg]; exact Nat.ne_of_gt (blk_lt (pK BK176)) : gb208 ≠ gb176)); have NB192_208 := Aside0.mk ((by rw [hg]; exact Nat.ne_of_lt (blk_lt (pK BK192)) : gb192 ≠ gb208)); have NB208_192 := Aside0.mk ((by rw [hg]; exact Nat.ne_of_gt (blk_lt (pK BK192)) : gb208 ≠ gb192)); have NB197_208 := Aside0.mk ((by rw [hg]; exact Nat.ne_of_lt (blk_lt (pK BK197)) : gb197 ≠ gb208)); have NB208_197 := Aside0.mk ((by rw [hg]; exact Nat.ne_of_gt (blk_lt (pK BK197)) : gb208 ≠ gb197)); have NB202_208 := Aside0.mk ((by rw [hg]; exact Nat.ne_of_lt (blk_lt (pK BK202)) : gb202 ≠ gb208)); have NB208_202 := Aside0.mk ((by rw [hg]; exact Nat.ne_of_gt (blk_lt (pK BK202)) : gb208 ≠ gb202)); replace HO182 := Aside0.mk (Kd.R_below (pR HO182) hb); replace HO186 := Aside0.mk (Kd.R_below (pR HO186) hb); replace HO190 := Aside0.mk (Kd.R_below (pR HO190) hb); replace HO196 := Aside0.mk (Kd.R_below (pR HO196) hb); replace HO201 := Aside0.mk (Kd.R_below (pR HO201) hb); replace HO206 := Aside0.mk (Kd.R_below (pR HO206) hb); replace BK175 := Aside0.mk (blk_below (pK BK175) hb); replace BK176 := Aside0.mk (blk_below (pK BK176) hb); replace BK192 := Aside0.mk (blk_below (pK BK192) hb); replace BK197 := Aside0.mk (blk_below (pK BK197) hb); replace BK202 := Aside0.mk (blk_below (pK BK202) hb); replace HB := Aside0.mk (below_step (pB HB) hb); clear hb hbox hg; have hnb68 := NB208_175.out; have hnc68 := NB175_208.out; have hnb69 := NB208_176.out; have hnc69 := NB176_208.out; have hnb70 := NB208_192.out; have hnc70 := NB192_208.out; have hnb71 := NB208_197.out; have hnc71 := NB197_208.out; have hnb72 := NB208_202.out; have hnc72 := NB202_208.out; have hcz73_0 : w67.cell? ⟨gb208, 0, none⟩ = some (.int .i64 0) := (blk_cell BK208.out 0).trans rfl; have hcz73_1 : w67.cell? ⟨gb208, 1, none⟩ = some (.slice none 0 0) := (blk_cell BK208.out 1).trans rfl; have hfz73_0 := blk_frozen BK208.out 0; have hfz73_1 := blk_frozen BK208.out 1; obtain ⟨Ao74, co74, eo74⟩ := Kd.R_slice HO206.out; subst eo74))
   (try simp only [Act.put, List.setIfInBounds_toArray, List.set_cons_zero, List.set_cons_succ])
   go_cut [53] (fun v53 wc => ∃ (kq : Nat) (x53_24 : Bool), v53 = .bool x53_24 ∧ Aside0 (laws_FnExactBelowLadder.j0 kq t191 t207 x53_24 a0_0 l0_1 a1_0 l1_1 t187 t188 t193 t194 t198 t199 t203 t204 = some true) ∧ Aside0 (kq ≤ k) ∧ Aside0 (Kd.R (Kd.int .i64) 3 wc w.heap.size (fun k_ => some k_ ≠ ((.slice Ao52 t194.length co52) : Value).ownBlock ∧ some k_ ≠ ((.slice Ao62 t199.length co62) : Value).ownBlock ∧ some k_ ≠ ((.slice Ao74 t204.length co74) : Value).ownBlock) (.slice Ao42 t188.length co42) t188) ∧ Aside0 (Kd.R (Kd.int .i64) 3 wc w.heap.size (fun k_ => some k_ ≠ ((.slice Ao42 t188.length co42) : Value).ownBlock ∧ some k_ ≠ ((.slice Ao62 t199.length co62) : Value).ownBlock ∧ some k_ ≠ ((.slice Ao74 t204.length co74) : Value).ownBlock) (.slice Ao52 t194.length co52) t194) ∧ Aside0 (Kd.R (Kd.int .i64) 3 wc w.heap.size (fun k_ => some k_ ≠ ((.slice Ao42 t188.length co42) : Value).ownBlock ∧ some k_ ≠ ((.slice Ao52 t194.length co52) : Value).ownBlock ∧ some k_ ≠ ((.slice Ao74 t204.length co74) : Value).ownBlock) (.slice Ao62 t199.length co62) t199) ∧ Aside0 (Kd.R (Kd.int .i64) 3 wc w.heap.size (fun k_ => some k_ ≠ ((.slice Ao42 t188.length co42) : Value).ownBlock ∧ some k_ ≠ ((.slice Ao52 t194.length co52) : Value).ownBlock ∧ some k_ ≠ ((.slice Ao62 t199.length co62) : Value).ownBlock) (.slice Ao74 t204.length co74) t204) ∧ Aside0 (wc.heap[gb175]? = some (.cells #[.int .i64 a0_0, (.slice A0_1 l0_1.length c0_1)] 33 (0, 0))) ∧ Aside0 (wc.heap[gb176]? = some (.cells #[.int .i64 a1_0, (.slice A1_1 l1_1.length c1_1)] 33 (0, 0))) ∧ Aside0 (wc.heap[gb192]? = some (.cells #[.int .i64 t187, (.slice Ao42 t188.length co42)] 35 (0, 0))) ∧ Aside0 (wc.heap[gb197]? = some (.cells #[.int .i64 t193, (.slice Ao52 t194.length co52)] 35 (0, 0))) ∧ Aside0 (wc.heap[gb202]? = some (.cells #[.int .i64 t198, (.slice Ao62 t199.length co62)] 35 (0, 0))) ∧ Aside0 (wc.heap[gb208]? = some (.cells #[.int .i64 t203, (.slice Ao74 t204.length co74)] 35 (0, 0))) ∧ Aside0 (Below w.heap.size w wc))
   case first =>
    have H := HC25.out
    clear HC25
    replace H := Option.bind_eq_some_iff.mp H
    obtain ⟨t209, A750, H⟩ := H
    replace H : (if t209 = true then (laws_FnExactBelowLadder.j0 k t191 t207 (t207 != t191) a0_0 l0_1 a1_0 l1_1 t187 t188 t193 t194 t198 t199 t203 t204) else (laws_FnExactBelowLadder.j0 k t191 t207 true a0_0 l0_1 a1_0 l1_1 t187 t188 t193 t194 t198 t199 t203 t204)) = some true := H
    have A75 := Aside0.mk A750
    clear A750
    by_cases c76 : t209 = true
    ·subst c76
     have H1 : (laws_FnExactBelowLadder.j0 k t191 t207 (t207 != t191) a0_0 l0_1 a1_0 l1_1 t187 t188 t193 t194 t198 t199 t203 t204) = some true := by rw [if_pos rfl] at H; exact H
     clear H
     have H := H1
     clear H1
     have H' := Aside0.mk H
     clear H
     have hnb77 := NB208_175.out
     have hnc77 := NB175_208.out
     have hnb78 := NB208_176.out
     have hnc78 := NB176_208.out
     have hnb79 := NB208_192.out
     have hnc79 := NB192_208.out
     have hnb80 := NB208_197.out
     have hnc80 := NB197_208.out
     have hnb81 := NB208_202.out
     have hnc81 := NB202_208.out
     have hcz82_0 : w67.cell? ⟨gb208, 0, none⟩ = some (.int .i64 0) := (blk_cell BK208.out 0).trans rfl
     have hcz82_1 : w67.cell? ⟨gb208, 1, none⟩ = some (.slice none 0 0) := (blk_cell BK208.out 1).trans rfl
     have hfz82_0 := blk_frozen BK208.out 0
     have hfz82_1 := blk_frozen BK208.out 1
     have hnb83 := NB192_175.out
     have hnc83 := NB175_192.out
     have hnb84 := NB192_176.out
     have hnc84 := NB176_192.out
     have hnb85 := NB192_197.out
     have hnc85 := NB197_192.out
     have hnb86 := NB192_202.out
     have hnc86 := NB202_192.out
     have hcz87_0 : w67.cell? ⟨gb192, 0, none⟩ = some (.int .i64 t187) := (blk_cell BK192.out 0).trans rfl
     have hcz87_1 : w67.cell? ⟨gb192, 1, none⟩ = some (.slice Ao42 t188.length co42) := (blk_cell BK192.out 1).trans rfl
     have hfz87_0 := blk_frozen BK192.out 0
     have hfz87_1 := blk_frozen BK192.out 1
     go_wp2_with (first | ((with_reducible refine gate_callee (f := 23) rfl ?_); refine goesL_ (some 47) rfl rfl Try.func23 (by kernel_rfl) rfl #[.agg #[.int .i64 t203, .slice Ao74 t204.length co74], .agg #[.int .i64 t187, .slice Ao42 t188.length co42]] rfl (by (try simp only [List.map_toArray, List.map_cons, List.map_nil]); first | done | rfl | (simp only [List.length_drop, List.length_take]; rfl)) ?_; (with_reducible refine (laws_eqLadder.calls k t203 _ _ t204 t187 _ _ t188 true _ ?side1 ?side2 ?side3 ?side4 A75.out).mono ?_); (case side1 => refine (Kd.R_reads' (e := 3) (base := w.heap.size) (ok := fun k_ => (((((True ∧ some k_ ≠ (v181 : Value).ownBlock) ∧ some k_ ≠ (v185 : Value).ownBlock) ∧ some k_ ≠ (.slice Ao42 t188.length co42 : Value).ownBlock) ∧ some k_ ≠ (.slice Ao52 t194.length co52 : Value).ownBlock) ∧ some k_ ≠ (.slice Ao62 t199.length co62 : Value).ownBlock)) (n := t204.length) (c := co74) ?_).2.2; exact (by (with_reducible repeat (first | apply Kd.R_alloc | apply Kd.R_drewN | apply Kd.R_drew)); exact (Kd.R_mono (Kd.R_far (p := ⟨gb208, 1, none⟩) (Kd.R_far (p := ⟨gb208, 0, none⟩) (Kd.R_types HO206.out BK208.out (by decide)) (fun _ hk => hk.2) (.int .i64 t203)) (fun _ hk => hk.2) (.slice Ao74 t204.length co74)) (fun _ h_ => h_.1)))); (case side2 => exact (Kd.R_reads' HO206.out).2.1); (case side3 => refine (Kd.R_reads' (e := 3) (base := w.heap.size) (ok := fun k_ => ((some k_ ≠ (v181 : Value).ownBlock ∧ (some k_ ≠ (v185 : Value).ownBlock ∧ (some k_ ≠ (.slice Ao52 t194.length co52 : Value).ownBlock ∧ some k_ ≠ (.slice Ao62 t199.length co62 : Value).ownBlock))) ∧ some k_ ≠ (.slice Ao74 t204.length co74 : Value).ownBlock)) (n := t188.length) (c := co42) ?_).2.2; exact (by (with_reducible repeat (first | apply Kd.R_alloc | apply Kd.R_drewN | apply Kd.R_drew)); exact (Kd.R_mono (Kd.R_far (p := ⟨gb208, 1, none⟩) (Kd.R_far (p := ⟨gb208, 0, none⟩) (Kd.R_types HO190.out BK208.out (by decide)) (fun _ hk => hk.2) (.int .i64 t203)) (fun _ hk => hk.2) (.slice Ao74 t204.length co74)) (fun _ h_ => h_.1)))); (case side4 => exact (Kd.R_reads' HO190.out).2.1); rintro e w88 ⟨rfl, hb⟩; refine ⟨_, rfl, ?_⟩; replace HO182 := Aside0.mk (Kd.R_below (by (with_reducible repeat (first | apply Kd.R_alloc | apply Kd.R_drewN | apply Kd.R_drew)); exact (Kd.R_mono (Kd.R_far (p := ⟨gb208, 1, none⟩) (Kd.R_far (p := ⟨gb208, 0, none⟩) (Kd.R_types HO182.out BK208.out (by decide)) (fun _ hk => hk.2) (.int .i64 t203)) (fun _ hk => hk.2) (.slice Ao74 t204.length co74)) (fun _ h_ => h_.1))) hb); replace HO186 := Aside0.mk (Kd.R_below (by (with_reducible repeat (first | apply Kd.R_alloc | apply Kd.R_drewN | apply Kd.R_drew)); exact (Kd.R_mono (Kd.R_far (p := ⟨gb208, 1, none⟩) (Kd.R_far (p := ⟨gb208, 0, none⟩) (Kd.R_types HO186.out BK208.out (by decide)) (fun _ hk => hk.2) (.int .i64 t203)) (fun _ hk => hk.2) (.slice Ao74 t204.length co74)) (fun _ h_ => h_.1))) hb); replace HO190 := Aside0.mk (Kd.R_below (by (with_reducible repeat (first | apply Kd.R_alloc | apply Kd.R_drewN | apply Kd.R_drew)); exact (Kd.R_mono (Kd.R_far (p := ⟨gb208, 1, none⟩) (Kd.R_far (p := ⟨gb208, 0, none⟩) (Kd.R_types HO190.out BK208.out (by decide)) (fun _ hk => hk.2) (.int .i64 t203)) (fun _ hk => hk.2) (.slice Ao74 t204.length co74)) (fun _ h_ => h_.1))) hb); replace HO196 := Aside0.mk (Kd.R_below (by (with_reducible repeat (first | apply Kd.R_alloc | apply Kd.R_drewN | apply Kd.R_drew)); exact (Kd.R_mono (Kd.R_far (p := ⟨gb208, 1, none⟩) (Kd.R_far (p := ⟨gb208, 0, none⟩) (Kd.R_types HO196.out BK208.out (by decide)) (fun _ hk => hk.2) (.int .i64 t203)) (fun _ hk => hk.2) (.slice Ao74 t204.length co74)) (fun _ h_ => h_.1))) hb); replace HO201 := Aside0.mk (Kd.R_below (by (with_reducible repeat (first | apply Kd.R_alloc | apply Kd.R_drewN | apply Kd.R_drew)); exact (Kd.R_mono (Kd.R_far (p := ⟨gb208, 1, none⟩) (Kd.R_far (p := ⟨gb208, 0, none⟩) (Kd.R_types HO201.out BK208.out (by decide)) (fun _ hk => hk.2) (.int .i64 t203)) (fun _ hk => hk.2) (.slice Ao74 t204.length co74)) (fun _ h_ => h_.1))) hb); replace HO206 := Aside0.mk (Kd.R_below (by (with_reducible repeat (first | apply Kd.R_alloc | apply Kd.R_drewN | apply Kd.R_drew)); exact (Kd.R_mono (Kd.R_far (p := ⟨gb208, 1, none⟩) (Kd.R_far (p := ⟨gb208, 0, none⟩) (Kd.R_types HO206.out BK208.out (by decide)) (fun _ hk => hk.2) (.int .i64 t203)) (fun _ hk => hk.2) (.slice Ao74 t204.length co74)) (fun _ h_ => h_.1))) hb); replace BK175 := Aside0.mk (blk_below (g := gb175) (o := .cells #[.int .i64 a0_0, .slice A0_1 l0_1.length c0_1] 33 (0, 0)) (by (with_reducible repeat (first | refine blk_drewN ?_ _ | refine blk_drew ?_ | refine blk_alloc ?_ _)); refine blk_far ?_ NB175_208.out _; (with_reducible repeat (first | refine blk_drewN ?_ _ | refine blk_drew ?_ | refine blk_alloc ?_ _)); refine blk_far ?_ NB175_208.out _; (with_reducible repeat (first | refine blk_drewN ?_ _ | refine blk_drew ?_ | refine blk_alloc ?_ _)); exact BK175.out) hb); replace BK176 := Aside0.mk (blk_below (g := gb176) (o := .cells #[.int .i64 a1_0, .slice A1_1 l1_1.length c1_1] 33 (0, 0)) (by (with_reducible repeat (first | refine blk_drewN ?_ _ | refine blk_drew ?_ | refine blk_alloc ?_ _)); refine blk_far ?_ NB176_208.out _; (with_reducible repeat (first | refine blk_drewN ?_ _ | refine blk_drew ?_ | refine blk_alloc ?_ _)); refine blk_far ?_ NB176_208.out _; (with_reducible repeat (first | refine blk_drewN ?_ _ | refine blk_drew ?_ | refine blk_alloc ?_ _)); exact BK176.out) hb); replace BK192 := Aside0.mk (blk_below (g := gb192) (o := .cells #[.int .i64 t187, .slice Ao42 t188.length co42] 35 (0, 0)) (by (with_reducible repeat (first | refine blk_drewN ?_ _ | refine blk_drew ?_ | refine blk_alloc ?_ _)); refine blk_far ?_ NB192_208.out _; (with_reducible repeat (first | refine blk_drewN ?_ _ | refine blk_drew ?_ | refine blk_alloc ?_ _)); refine blk_far ?_ NB192_208.out _; (with_reducible repeat (first | refine blk_drewN ?_ _ | refine blk_drew ?_ | refine blk_alloc ?_ _)); exact BK192.out) hb); replace BK197 := Aside0.mk (blk_below (g := gb197) (o := .cells #[.int .i64 t193, .slice Ao52 t194.length co52] 35 (0, 0)) (by (with_reducible repeat (first | refine blk_drewN ?_ _ | refine blk_drew ?_ | refine blk_alloc ?_ _)); refine blk_far ?_ NB197_208.out _; (with_reducible repeat (first | refine blk_drewN ?_ _ | refine blk_drew ?_ | refine blk_alloc ?_ _)); refine blk_far ?_ NB197_208.out _; (with_reducible repeat (first | refine blk_drewN ?_ _ | refine blk_drew ?_ | refine blk_alloc ?_ _)); exact BK197.out) hb); replace BK202 := Aside0.mk (blk_below (g := gb202) (o := .cells #[.int .i64 t198, .slice Ao62 t199.length co62] 35 (0, 0)) (by (with_reducible repeat (first | refine blk_drewN ?_ _ | refine blk_drew ?_ | refine blk_alloc ?_ _)); refine blk_far ?_ NB202_208.out _; (with_reducible repeat (first | refine blk_drewN ?_ _ | refine blk_drew ?_ | refine blk_alloc ?_ _)); refine blk_far ?_ NB202_208.out _; (with_reducible repeat (first | refine blk_drewN ?_ _ | refine blk_drew ?_ | refine blk_alloc ?_ _)); exact BK202.out) hb); replace BK208 := Aside0.mk (blk_below (g := gb208) (o := .cells #[.int .i64 t203, .slice Ao74 t204.length co74] 35 (0, 0)) (by (with_reducible repeat (first | refine blk_drewN ?_ _ | refine blk_drew ?_ | refine blk_alloc ?_ _)); refine blk_put (cs := #[.int .i64 t203, .slice none 0 0]) ?_ 1 _ rfl; (with_reducible repeat (first | refine blk_drewN ?_ _ | refine blk_drew ?_ | refine blk_alloc ?_ _)); refine blk_put (cs := #[.int .i64 0, .slice none 0 0]) ?_ 0 _ rfl; (with_reducible repeat (first | refine blk_drewN ?_ _ | refine blk_drew ?_ | refine blk_alloc ?_ _)); exact BK208.out) hb); replace HB := Aside0.mk (below_step (pB HB) hb); (try clear hb); (try clear hb2); (try clear hk); (try clear hi)))
     go_meet
     case rel => exact ⟨_, ((t207 != t191)), (by first | rfl | (simp; done) | (simp [*]; done)), H', ⟨by first | omega | exact Nat.le_refl _⟩, ⟨by (with_reducible repeat (first | apply Kd.R_alloc | apply Kd.R_drewN | apply Kd.R_drew)); exact Kd.R_mono HO190.out (fun _ hk => ⟨hk.1.2.2.1, ⟨hk.1.2.2.2, hk.2⟩⟩)⟩, ⟨by (with_reducible repeat (first | apply Kd.R_alloc | apply Kd.R_drewN | apply Kd.R_drew)); exact Kd.R_mono HO196.out (fun _ hk => ⟨hk.1.2.2.1, ⟨hk.1.2.2.2, hk.2⟩⟩)⟩, ⟨by (with_reducible repeat (first | apply Kd.R_alloc | apply Kd.R_drewN | apply Kd.R_drew)); exact Kd.R_mono HO201.out (fun _ hk => ⟨hk.1.2.2.1, ⟨hk.1.2.2.2, hk.2⟩⟩)⟩, ⟨by (with_reducible repeat (first | apply Kd.R_alloc | apply Kd.R_drewN | apply Kd.R_drew)); exact Kd.R_mono HO206.out (fun _ hk => ⟨hk.1.1.2, ⟨hk.1.2, hk.2⟩⟩)⟩, ⟨by (with_reducible repeat (first | refine blk_drewN ?_ _ | refine blk_drew ?_ | refine blk_alloc ?_ _)); exact BK175.out⟩, ⟨by (with_reducible repeat (first | refine blk_drewN ?_ _ | refine blk_drew ?_ | refine blk_alloc ?_ _)); exact BK176.out⟩, ⟨by (with_reducible repeat (first | refine blk_drewN ?_ _ | refine blk_drew ?_ | refine blk_alloc ?_ _)); exact BK192.out⟩, ⟨by (with_reducible repeat (first | refine blk_drewN ?_ _ | refine blk_drew ?_ | refine blk_alloc ?_ _)); exact BK197.out⟩, ⟨by (with_reducible repeat (first | refine blk_drewN ?_ _ | refine blk_drew ?_ | refine blk_alloc ?_ _)); exact BK202.out⟩, ⟨by (with_reducible repeat (first | refine blk_drewN ?_ _ | refine blk_drew ?_ | refine blk_alloc ?_ _)); exact BK208.out⟩, ⟨by repeat (first | (with_reducible first | exact HB.out | apply below_alloc | apply pw_below_drewN | apply below_drew1 | refine below_set ?_ GE175.out | refine below_set ?_ GE176.out | refine below_set ?_ GE192.out | refine below_set ?_ GE197.out | refine below_set ?_ GE202.out | refine below_set ?_ GE208.out) | exact HB.out)⟩⟩
    ·replace c76 := Bool.eq_false_iff.mpr c76
     subst c76
     have H1 : (laws_FnExactBelowLadder.j0 k t191 t207 true a0_0 l0_1 a1_0 l1_1 t187 t188 t193 t194 t198 t199 t203 t204) = some true := by rw [if_neg (show ¬ (false = true) by decide)] at H; exact H
     clear H
     have H := H1
     clear H1
     exfalso
     revert H
     cases k <;> simp [laws_FnExactBelowLadder.j0]
   case rest =>
    clear HC25
    try clear c1
    try clear c2
    try clear p2
    try clear c4
    try clear c5
    try clear c6
    try clear c7
    try clear c8
    try clear c20
    try clear c21
    try clear c22
    try clear c23
    try clear c44
    try clear c48
    try clear c49
    try clear c50
    try clear c53
    try clear c57
    try clear c58
    try clear c59
    try clear c60
    try clear c68
    try clear c69
    try clear c70
    try clear c71
    try clear c72
    try clear c76
    try clear c77
    try clear c78
    try clear c79
    try clear c80
    try clear c81
    try clear c83
    try clear c84
    try clear c85
    try clear c86
    try clear hcz45_0
    try clear hcz45_1
    try clear hcz51_0
    try clear hcz51_1
    try clear hcz54_0
    try clear hcz54_1
    try clear hcz61_0
    try clear hcz61_1
    try clear hcz64_0
    try clear hcz64_1
    try clear hcz65_0
    try clear hcz65_1
    try clear hcz73_0
    try clear hcz73_1
    try clear hcz82_0
    try clear hcz82_1
    try clear hcz87_0
    try clear hcz87_1
    try clear hfz45_0
    try clear hfz45_1
    try clear hfz51_0
    try clear hfz51_1
    try clear hfz54_0
    try clear hfz54_1
    try clear hfz61_0
    try clear hfz61_1
    try clear hfz64_0
    try clear hfz64_1
    try clear hfz65_0
    try clear hfz65_1
    try clear hfz73_0
    try clear hfz73_1
    try clear hfz82_0
    try clear hfz82_1
    try clear hfz87_0
    try clear hfz87_1
    obtain ⟨kq, x53_24, rfl, HA, HJ24, HO_193001, HO_198001, HO_203001, HO_209001, BK175, BK176, BK192, BK197, BK202, BK208, HB⟩ := hcut
    cases kq with
    | zero => exact absurd HA.out (by simp [laws_FnExactBelowLadder.j0])
    | succ kj24 =>
     have H := HA.out
     clear HA
     simp only [laws_FnExactBelowLadder.j0] at H
     by_cases c89 : x53_24 = true
     ·subst c89
      have H1 : (some false) = some true := by rw [if_pos rfl] at H; exact H
      clear H
      have H := H1
      clear H1
      exact absurd H (by simp)
     ·replace c89 := Bool.eq_false_iff.mpr c89
      subst c89
      have H1 : ((laws_toLadder.f kj24 a0_0 l0_1).bind fun bt210 => ((laws_eqLadder.f kj24 t193 t194 bt210.1 bt210.2).bind fun t214 => (if t214 = true then ((laws_toLadder.f kj24 a1_0 l1_1).bind fun bt215 => ((laws_eqLadder.f kj24 t198 t199 bt215.1 bt215.2).bind fun t219 => (if t219 = true then ((laws_markLadder.f kj24 t193 t194 1).bind fun bt220 => ((laws_markLadder.f kj24 t198 t199 bt220.1).bind fun bt222 => (if bt222.1 < 0 then (laws_FnExactBelowLadder.j1 kj24 t191 true a0_0 l0_1 a1_0 l1_1 t187 t188 t203 t204) else ((laws_eqLadder.f kj24 t203 t204 t187 t188).bind fun t224 => (if t224 = true then (laws_FnExactBelowLadder.j1 kj24 t191 (t207 != t191) a0_0 l0_1 a1_0 l1_1 t187 t188 t203 t204) else (laws_FnExactBelowLadder.j1 kj24 t191 true a0_0 l0_1 a1_0 l1_1 t187 t188 t203 t204)))))) else (some false)))) else (some false)))) = some true := by rw [if_neg (show ¬ (false = true) by decide)] at H; exact H
      clear H
      have H := H1
      clear H1
      replace H := Option.bind_eq_some_iff.mp H
      obtain ⟨⟨t210, t211⟩, A900, H⟩ := H
      replace H : ((laws_eqLadder.f kj24 t193 t194 t210 t211).bind fun t214 => (if t214 = true then ((laws_toLadder.f kj24 a1_0 l1_1).bind fun bt215 => ((laws_eqLadder.f kj24 t198 t199 bt215.1 bt215.2).bind fun t219 => (if t219 = true then ((laws_markLadder.f kj24 t193 t194 1).bind fun bt220 => ((laws_markLadder.f kj24 t198 t199 bt220.1).bind fun bt222 => (if bt222.1 < 0 then (laws_FnExactBelowLadder.j1 kj24 t191 true a0_0 l0_1 a1_0 l1_1 t187 t188 t203 t204) else ((laws_eqLadder.f kj24 t203 t204 t187 t188).bind fun t224 => (if t224 = true then (laws_FnExactBelowLadder.j1 kj24 t191 (t207 != t191) a0_0 l0_1 a1_0 l1_1 t187 t188 t203 t204) else (laws_FnExactBelowLadder.j1 kj24 t191 true a0_0 l0_1 a1_0 l1_1 t187 t188 t203 t204)))))) else (some false)))) else (some false))) = some true := H
      have A90 := Aside0.mk A900
      clear A900
      replace H := Option.bind_eq_some_iff.mp H
      obtain ⟨t214, A910, H⟩ := H
      replace H : (if t214 = true then ((laws_toLadder.f kj24 a1_0 l1_1).bind fun bt215 => ((laws_eqLadder.f kj24 t198 t199 bt215.1 bt215.2).bind fun t219 => (if t219 = true then ((laws_markLadder.f kj24 t193 t194 1).bind fun bt220 => ((laws_markLadder.f kj24 t198 t199 bt220.1).bind fun bt222 => (if bt222.1 < 0 then (laws_FnExactBelowLadder.j1 kj24 t191 true a0_0 l0_1 a1_0 l1_1 t187 t188 t203 t204) else ((laws_eqLadder.f kj24 t203 t204 t187 t188).bind fun t224 => (if t224 = true then (laws_FnExactBelowLadder.j1 kj24 t191 (t207 != t191) a0_0 l0_1 a1_0 l1_1 t187 t188 t203 t204) else (laws_FnExactBelowLadder.j1 kj24 t191 true a0_0 l0_1 a1_0 l1_1 t187 t188 t203 t204)))))) else (some false)))) else (some false)) = some true := H
      have A91 := Aside0.mk A910
      clear A910
      by_cases c92 : t214 = true
      ·subst c92
       have H1 : ((laws_toLadder.f kj24 a1_0 l1_1).bind fun bt215 => ((laws_eqLadder.f kj24 t198 t199 bt215.1 bt215.2).bind fun t219 => (if t219 = true then ((laws_markLadder.f kj24 t193 t194 1).bind fun bt220 => ((laws_markLadder.f kj24 t198 t199 bt220.1).bind fun bt222 => (if bt222.1 < 0 then (laws_FnExactBelowLadder.j1 kj24 t191 true a0_0 l0_1 a1_0 l1_1 t187 t188 t203 t204) else ((laws_eqLadder.f kj24 t203 t204 t187 t188).bind fun t224 => (if t224 = true then (laws_FnExactBelowLadder.j1 kj24 t191 (t207 != t191) a0_0 l0_1 a1_0 l1_1 t187 t188 t203 t204) else (laws_FnExactBelowLadder.j1 kj24 t191 true a0_0 l0_1 a1_0 l1_1 t187 t188 t203 t204)))))) else (some false)))) = some true := by rw [if_pos rfl] at H; exact H
       clear H
       have H := H1
       clear H1
       replace H := Option.bind_eq_some_iff.mp H
       obtain ⟨⟨t215, t216⟩, A930, H⟩ := H
       replace H : ((laws_eqLadder.f kj24 t198 t199 t215 t216).bind fun t219 => (if t219 = true then ((laws_markLadder.f kj24 t193 t194 1).bind fun bt220 => ((laws_markLadder.f kj24 t198 t199 bt220.1).bind fun bt222 => (if bt222.1 < 0 then (laws_FnExactBelowLadder.j1 kj24 t191 true a0_0 l0_1 a1_0 l1_1 t187 t188 t203 t204) else ((laws_eqLadder.f kj24 t203 t204 t187 t188).bind fun t224 => (if t224 = true then (laws_FnExactBelowLadder.j1 kj24 t191 (t207 != t191) a0_0 l0_1 a1_0 l1_1 t187 t188 t203 t204) else (laws_FnExactBelowLadder.j1 kj24 t191 true a0_0 l0_1 a1_0 l1_1 t187 t188 t203 t204)))))) else (some false))) = some true := H
       have A93 := Aside0.mk A930
       clear A930
       replace H := Option.bind_eq_some_iff.mp H
       obtain ⟨t219, A940, H⟩ := H
       replace H : (if t219 = true then ((laws_markLadder.f kj24 t193 t194 1).bind fun bt220 => ((laws_markLadder.f kj24 t198 t199 bt220.1).bind fun bt222 => (if bt222.1 < 0 then (laws_FnExactBelowLadder.j1 kj24 t191 true a0_0 l0_1 a1_0 l1_1 t187 t188 t203 t204) else ((laws_eqLadder.f kj24 t203 t204 t187 t188).bind fun t224 => (if t224 = true then (laws_FnExactBelowLadder.j1 kj24 t191 (t207 != t191) a0_0 l0_1 a1_0 l1_1 t187 t188 t203 t204) else (laws_FnExactBelowLadder.j1 kj24 t191 true a0_0 l0_1 a1_0 l1_1 t187 t188 t203 t204)))))) else (some false)) = some true := H
       have A94 := Aside0.mk A940
       clear A940
       by_cases c95 : t219 = true
       ·subst c95
        have H1 : ((laws_markLadder.f kj24 t193 t194 1).bind fun bt220 => ((laws_markLadder.f kj24 t198 t199 bt220.1).bind fun bt222 => (if bt222.1 < 0 then (laws_FnExactBelowLadder.j1 kj24 t191 true a0_0 l0_1 a1_0 l1_1 t187 t188 t203 t204) else ((laws_eqLadder.f kj24 t203 t204 t187 t188).bind fun t224 => (if t224 = true then (laws_FnExactBelowLadder.j1 kj24 t191 (t207 != t191) a0_0 l0_1 a1_0 l1_1 t187 t188 t203 t204) else (laws_FnExactBelowLadder.j1 kj24 t191 true a0_0 l0_1 a1_0 l1_1 t187 t188 t203 t204)))))) = some true := by rw [if_pos rfl] at H; exact H
        clear H
        have H := H1
        clear H1
        replace H := Option.bind_eq_some_iff.mp H
        obtain ⟨⟨t220, t221⟩, A960, H⟩ := H
        replace H : ((laws_markLadder.f kj24 t198 t199 t220).bind fun bt222 => (if bt222.1 < 0 then (laws_FnExactBelowLadder.j1 kj24 t191 true a0_0 l0_1 a1_0 l1_1 t187 t188 t203 t204) else ((laws_eqLadder.f kj24 t203 t204 t187 t188).bind fun t224 => (if t224 = true then (laws_FnExactBelowLadder.j1 kj24 t191 (t207 != t191) a0_0 l0_1 a1_0 l1_1 t187 t188 t203 t204) else (laws_FnExactBelowLadder.j1 kj24 t191 true a0_0 l0_1 a1_0 l1_1 t187 t188 t203 t204))))) = some true := H
        have A96 := Aside0.mk A960
        clear A960
        replace H := Option.bind_eq_some_iff.mp H
        obtain ⟨⟨t222, t223⟩, A970, H⟩ := H
        replace H : (if t222 < 0 then (laws_FnExactBelowLadder.j1 kj24 t191 true a0_0 l0_1 a1_0 l1_1 t187 t188 t203 t204) else ((laws_eqLadder.f kj24 t203 t204 t187 t188).bind fun t224 => (if t224 = true then (laws_FnExactBelowLadder.j1 kj24 t191 (t207 != t191) a0_0 l0_1 a1_0 l1_1 t187 t188 t203 t204) else (laws_FnExactBelowLadder.j1 kj24 t191 true a0_0 l0_1 a1_0 l1_1 t187 t188 t203 t204)))) = some true := H
        have A97 := Aside0.mk A970
        clear A970
        have HC98 := Aside0.mk H
        clear H
        try go_wp2
        replace HO_193001 := Aside0.mk (Kd.R_drew HO_193001.out)
        replace HO_198001 := Aside0.mk (Kd.R_drew HO_198001.out)
        replace HO_203001 := Aside0.mk (Kd.R_drew HO_203001.out)
        replace HO_209001 := Aside0.mk (Kd.R_drew HO_209001.out)
        replace BK175 := Aside0.mk (blk_drew BK175.out)
        replace BK176 := Aside0.mk (blk_drew BK176.out)
        replace BK192 := Aside0.mk (blk_drew BK192.out)
        replace BK197 := Aside0.mk (blk_drew BK197.out)
        replace BK202 := Aside0.mk (blk_drew BK202.out)
        replace BK208 := Aside0.mk (blk_drew BK208.out)
        replace HB := Aside0.mk (below_drew1 HB.out)
        refine start_ (n := 5) (S := fun w' => w'.cell? ⟨gb197, 0, none⟩ = some (.int .i64 t193) ∧ w'.cell? ⟨gb197, 1, none⟩ = some (.slice Ao52 t194.length co52) ∧ w'.cell? ⟨gb175, 0, none⟩ = some (.int .i64 a0_0) ∧ w'.cell? ⟨gb175, 1, none⟩ = some (.slice A0_1 l0_1.length c0_1)) (ds := []) #[false, false, false, false, false] (by kernel_rfl) rfl rfl ⟨(blk_cell BK197.out 0).trans rfl, (blk_cell BK197.out 1).trans rfl, (blk_cell BK175.out 0).trans rfl, (blk_cell BK175.out 1).trans rfl⟩ (fun hHeld => ?_)
        generalize wc.drew = w99 at HO_193001 HO_198001 HO_203001 HO_209001 BK175 BK176 BK192 BK197 BK202 BK208 HB hHeld ⊢
        refine take_ (i := 0) (N := some 54) (v := ?_) (a' := ?_) #[true, false, false, false, false] rfl rfl (by kernel_rfl) (fun _ _ _ h => h) (Or.inl ⟨by rfl, ?_⟩) hHeld ?_ ?_
        rotate_left
        ·rintro w' ⟨s0, s1, s2, s3⟩
         go_simp
         with_reducible rfl
        rotate_left
        ·simp only [Act.put, List.setIfInBounds_toArray, List.set_cons_zero, List.set_cons_succ, i64_w, i32_w]
         rfl
        refine take_ (i := 1) (N := some 55) (v := ?_) (a' := ?_) #[true, true, false, false, false] rfl rfl (by kernel_rfl) (fun _ _ _ h => h) (Or.inl ⟨by rfl, ?_⟩) hHeld ?_ ?_
        rotate_left
        ·rintro w' ⟨s0, s1, s2, s3⟩
         go_simp
         with_reducible rfl
        rotate_left
        ·simp only [Act.put, List.setIfInBounds_toArray, List.set_cons_zero, List.set_cons_succ, i64_w, i32_w]
         rfl
        refine one_ (i := 2) (N := some 56) #[true, true, true, false, false] rfl rfl (by kernel_rfl) (by decide) (fun K hK => ?_)
        refine goes_ Try.func21 (by kernel_rfl) rfl #[.agg #[.int .i64 a0_0, .slice A0_1 l0_1.length c0_1]] (by rfl) rfl rfl (by (try simp only [List.map_toArray, List.map_cons, List.map_nil]); first | done | rfl | (simp only [List.length_drop, List.length_take]; rfl)) ?_
        with_reducible refine (laws_toLadder.calls kj24 a0_0 _ _ l0_1 t210 t211 _ ?side1 ?side2 A90.out).mono ?_
        (case side1 => repeat (first | exact (Kd.C_below HR0_1.out HB.out) | (with_reducible refine Kd.C_alloc ?_ _) | (with_reducible refine Kd.C_drewN ?_ _) | (with_reducible refine Kd.C_drew ?_)))
        (case side2 => exact HC0_1.out)
        rintro e w100 ⟨v212, rfl, ho0, hb⟩
        refine ⟨_, rfl, ?_⟩
        have HO213 := Aside0.mk (Kd.R_lower (Kd.R_new' (Kd.R_new' (Kd.R_new' (Kd.R_new' ho0 (Kd.R_lt (pR HO_193001))) (Kd.R_lt (pR HO_198001))) (Kd.R_lt (pR HO_203001))) (Kd.R_lt (pR HO_209001))) (below_size (pB HB)))
        replace HO_193001 := Aside0.mk (Kd.R_elder' (pR HO_193001) (Kd.R_base ho0) hb)
        replace HO_198001 := Aside0.mk (Kd.R_elder' (pR HO_198001) (Kd.R_base ho0) hb)
        replace HO_203001 := Aside0.mk (Kd.R_elder' (pR HO_203001) (Kd.R_base ho0) hb)
        replace HO_209001 := Aside0.mk (Kd.R_elder' (pR HO_209001) (Kd.R_base ho0) hb)
        replace BK175 := Aside0.mk (blk_below (pK BK175) hb)
        replace BK176 := Aside0.mk (blk_below (pK BK176) hb)
        replace BK192 := Aside0.mk (blk_below (pK BK192) hb)
        replace BK197 := Aside0.mk (blk_below (pK BK197) hb)
        replace BK202 := Aside0.mk (blk_below (pK BK202) hb)
        replace BK208 := Aside0.mk (blk_below (pK BK208) hb)
        replace HB := Aside0.mk (below_step (pB HB) hb)
        (try clear hb)
        (try clear hb2)
        (try clear hk)
        (try clear hi)
        (try clear ho0)
        obtain ⟨Ao101, co101, eo101⟩ := Kd.R_slice HO213.out
        (first | subst eo101 | (injection eo101 with f1_ f2_ f3_; have f4_ := f1_.symm; have f5_ := f3_.symm; clear f1_ f2_ f3_; subst f4_; subst f5_))
        refine hK.out _ _ ⟨(blk_cell BK197.out 0).trans rfl, (blk_cell BK197.out 1).trans rfl, (blk_cell BK175.out 0).trans rfl, (blk_cell BK175.out 1).trans rfl⟩ (fun hHeld => ?_)
        clear hK K
        refine norm_ (a' := ?_) ?_ ?_
        rotate_left
        ·show Act.put _ (some 56) _ = _
         simp only [Act.put, List.setIfInBounds_toArray, List.set_cons_zero, List.set_cons_succ, i64_w, i32_w]
         rfl
        refine one_ (i := 3) (N := some 57) #[true, true, true, true, false] rfl rfl (by kernel_rfl) (by decide) (fun K hK => ?_)
        refine goes_ Try.func23 (by kernel_rfl) rfl #[.agg #[.int .i64 t193, .slice Ao52 t194.length co52], .agg #[.int .i64 t210, .slice Ao101 t211.length co101]] (by rfl) rfl rfl (by (try simp only [List.map_toArray, List.map_cons, List.map_nil]); first | done | rfl | (simp only [List.length_drop, List.length_take]; rfl)) ?_
        with_reducible refine (laws_eqLadder.calls kj24 t193 _ _ t194 t210 _ _ t211 true _ ?side1 ?side2 ?side3 ?side4 A91.out).mono ?_
        (case side1 => repeat (first | exact (Kd.R_reads' HO_198001.out).2.2 | (with_reducible refine Kd.C_alloc ?_ _) | (with_reducible refine Kd.C_drewN ?_ _) | (with_reducible refine Kd.C_drew ?_)))
        (case side2 => exact (Kd.R_reads' HO_198001.out).2.1)
        (case side3 => repeat (first | exact (Kd.R_reads' HO213.out).2.2 | (with_reducible refine Kd.C_alloc ?_ _) | (with_reducible refine Kd.C_drewN ?_ _) | (with_reducible refine Kd.C_drew ?_)))
        (case side4 => exact (Kd.R_reads' HO213.out).2.1)
        rintro e w102 ⟨rfl, hb⟩
        refine ⟨_, rfl, ?_⟩
        replace HO_193001 := Aside0.mk (Kd.R_below (pR HO_193001) hb)
        replace HO_198001 := Aside0.mk (Kd.R_below (pR HO_198001) hb)
        replace HO_203001 := Aside0.mk (Kd.R_below (pR HO_203001) hb)
        replace HO_209001 := Aside0.mk (Kd.R_below (pR HO_209001) hb)
        replace HO213 := Aside0.mk (Kd.R_below (pR HO213) hb)
        replace BK175 := Aside0.mk (blk_below (pK BK175) hb)
        replace BK176 := Aside0.mk (blk_below (pK BK176) hb)
        replace BK192 := Aside0.mk (blk_below (pK BK192) hb)
        replace BK197 := Aside0.mk (blk_below (pK BK197) hb)
        replace BK202 := Aside0.mk (blk_below (pK BK202) hb)
        replace BK208 := Aside0.mk (blk_below (pK BK208) hb)
        replace HB := Aside0.mk (below_step (pB HB) hb)
        (try clear hb)
        (try clear hb2)
        (try clear hk)
        (try clear hi)
        refine hK.out _ _ ⟨(blk_cell BK197.out 0).trans rfl, (blk_cell BK197.out 1).trans rfl, (blk_cell BK175.out 0).trans rfl, (blk_cell BK175.out 1).trans rfl⟩ (fun hHeld => ?_)
        clear hK K
        refine norm_ (a' := ?_) ?_ ?_
        rotate_left
        ·show Act.put _ (some 57) _ = _
         simp only [Act.put, List.setIfInBounds_toArray, List.set_cons_zero, List.set_cons_succ, i64_w, i32_w]
         rfl
        refine pure_ (i := 4) (N := some 58) (v := ?_) (a' := ?_) #[true, true, true, true, true] rfl rfl (by kernel_rfl) (fun _ _ _ h => h) (Or.inl ⟨by rfl, ?_⟩) ?_ ?_
        rotate_left
        ·intro w'
         go_simp
         with_reducible rfl
        rotate_left
        ·simp only [Act.put, List.setIfInBounds_toArray, List.set_cons_zero, List.set_cons_succ, i64_w, i32_w]
         rfl
        refine done_ (by kernel_rfl) ?_
        try go_wp2
        replace HO_193001 := Aside0.mk (Kd.R_drew HO_193001.out)
        replace HO_198001 := Aside0.mk (Kd.R_drew HO_198001.out)
        replace HO_203001 := Aside0.mk (Kd.R_drew HO_203001.out)
        replace HO_209001 := Aside0.mk (Kd.R_drew HO_209001.out)
        replace HO213 := Aside0.mk (Kd.R_drew HO213.out)
        replace BK175 := Aside0.mk (blk_drew BK175.out)
        replace BK176 := Aside0.mk (blk_drew BK176.out)
        replace BK192 := Aside0.mk (blk_drew BK192.out)
        replace BK197 := Aside0.mk (blk_drew BK197.out)
        replace BK202 := Aside0.mk (blk_drew BK202.out)
        replace BK208 := Aside0.mk (blk_drew BK208.out)
        replace HB := Aside0.mk (below_drew1 HB.out)
        refine start_ (n := 5) (S := fun w' => w'.cell? ⟨gb202, 0, none⟩ = some (.int .i64 t198) ∧ w'.cell? ⟨gb202, 1, none⟩ = some (.slice Ao62 t199.length co62) ∧ w'.cell? ⟨gb176, 0, none⟩ = some (.int .i64 a1_0) ∧ w'.cell? ⟨gb176, 1, none⟩ = some (.slice A1_1 l1_1.length c1_1)) (ds := []) #[false, false, false, false, false] (by kernel_rfl) rfl rfl ⟨(blk_cell BK202.out 0).trans rfl, (blk_cell BK202.out 1).trans rfl, (blk_cell BK176.out 0).trans rfl, (blk_cell BK176.out 1).trans rfl⟩ (fun hHeld => ?_)
        generalize w102.drew = w103 at HO_193001 HO_198001 HO_203001 HO_209001 HO213 BK175 BK176 BK192 BK197 BK202 BK208 HB hHeld ⊢
        refine take_ (i := 0) (N := some 59) (v := ?_) (a' := ?_) #[true, false, false, false, false] rfl rfl (by kernel_rfl) (fun _ _ _ h => h) (Or.inl ⟨by rfl, ?_⟩) hHeld ?_ ?_
        rotate_left
        ·rintro w' ⟨s0, s1, s2, s3⟩
         go_simp
         with_reducible rfl
        rotate_left
        ·simp only [Act.put, List.setIfInBounds_toArray, List.set_cons_zero, List.set_cons_succ, i64_w, i32_w]
         rfl
        refine take_ (i := 1) (N := some 60) (v := ?_) (a' := ?_) #[true, true, false, false, false] rfl rfl (by kernel_rfl) (fun _ _ _ h => h) (Or.inl ⟨by rfl, ?_⟩) hHeld ?_ ?_
        rotate_left
        ·rintro w' ⟨s0, s1, s2, s3⟩
         go_simp
         with_reducible rfl
        rotate_left
        ·simp only [Act.put, List.setIfInBounds_toArray, List.set_cons_zero, List.set_cons_succ, i64_w, i32_w]
         rfl
        refine one_ (i := 2) (N := some 61) #[true, true, true, false, false] rfl rfl (by kernel_rfl) (by decide) (fun K hK => ?_)
        refine goes_ Try.func21 (by kernel_rfl) rfl #[.agg #[.int .i64 a1_0, .slice A1_1 l1_1.length c1_1]] (by rfl) rfl rfl (by (try simp only [List.map_toArray, List.map_cons, List.map_nil]); first | done | rfl | (simp only [List.length_drop, List.length_take]; rfl)) ?_
        with_reducible refine (laws_toLadder.calls kj24 a1_0 _ _ l1_1 t215 t216 _ ?side1 ?side2 A93.out).mono ?_
        (case side1 => repeat (first | exact (Kd.C_below HR1_1.out HB.out) | (with_reducible refine Kd.C_alloc ?_ _) | (with_reducible refine Kd.C_drewN ?_ _) | (with_reducible refine Kd.C_drew ?_)))
        (case side2 => exact HC1_1.out)
        rintro e w104 ⟨v217, rfl, ho0, hb⟩
        refine ⟨_, rfl, ?_⟩
        have HO218 := Aside0.mk (Kd.R_lower (Kd.R_new' (Kd.R_new' (Kd.R_new' (Kd.R_new' (Kd.R_new' ho0 (Kd.R_lt (pR HO_193001))) (Kd.R_lt (pR HO_198001))) (Kd.R_lt (pR HO_203001))) (Kd.R_lt (pR HO_209001))) (Kd.R_lt (pR HO213))) (below_size (pB HB)))
        replace HO_193001 := Aside0.mk (Kd.R_elder' (pR HO_193001) (Kd.R_base ho0) hb)
        replace HO_198001 := Aside0.mk (Kd.R_elder' (pR HO_198001) (Kd.R_base ho0) hb)
        replace HO_203001 := Aside0.mk (Kd.R_elder' (pR HO_203001) (Kd.R_base ho0) hb)
        replace HO_209001 := Aside0.mk (Kd.R_elder' (pR HO_209001) (Kd.R_base ho0) hb)
        replace HO213 := Aside0.mk (Kd.R_elder' (pR HO213) (Kd.R_base ho0) hb)
        replace BK175 := Aside0.mk (blk_below (pK BK175) hb)
        replace BK176 := Aside0.mk (blk_below (pK BK176) hb)
        replace BK192 := Aside0.mk (blk_below (pK BK192) hb)
        replace BK197 := Aside0.mk (blk_below (pK BK197) hb)
        replace BK202 := Aside0.mk (blk_below (pK BK202) hb)
        replace BK208 := Aside0.mk (blk_below (pK BK208) hb)
        replace HB := Aside0.mk (below_step (pB HB) hb)
        (try clear hb)
        (try clear hb2)
        (try clear hk)
        (try clear hi)
        (try clear ho0)
        obtain ⟨Ao105, co105, eo105⟩ := Kd.R_slice HO218.out
        (first | subst eo105 | (injection eo105 with f1_ f2_ f3_; have f4_ := f1_.symm; have f5_ := f3_.symm; clear f1_ f2_ f3_; subst f4_; subst f5_))
        refine hK.out _ _ ⟨(blk_cell BK202.out 0).trans rfl, (blk_cell BK202.out 1).trans rfl, (blk_cell BK176.out 0).trans rfl, (blk_cell BK176.out 1).trans rfl⟩ (fun hHeld => ?_)
        clear hK K
        refine norm_ (a' := ?_) ?_ ?_
        rotate_left
        ·show Act.put _ (some 61) _ = _
         simp only [Act.put, List.setIfInBounds_toArray, List.set_cons_zero, List.set_cons_succ, i64_w, i32_w]
         rfl
        refine one_ (i := 3) (N := some 62) #[true, true, true, true, false] rfl rfl (by kernel_rfl) (by decide) (fun K hK => ?_)
        refine goes_ Try.func23 (by kernel_rfl) rfl #[.agg #[.int .i64 t198, .slice Ao62 t199.length co62], .agg #[.int .i64 t215, .slice Ao105 t216.length co105]] (by rfl) rfl rfl (by (try simp only [List.map_toArray, List.map_cons, List.map_nil]); first | done | rfl | (simp only [List.length_drop, List.length_take]; rfl)) ?_
        with_reducible refine (laws_eqLadder.calls kj24 t198 _ _ t199 t215 _ _ t216 true _ ?side1 ?side2 ?side3 ?side4 A94.out).mono ?_
        (case side1 => repeat (first | exact (Kd.R_reads' HO_203001.out).2.2 | (with_reducible refine Kd.C_alloc ?_ _) | (with_reducible refine Kd.C_drewN ?_ _) | (with_reducible refine Kd.C_drew ?_)))
        (case side2 => exact (Kd.R_reads' HO_203001.out).2.1)
        (case side3 => repeat (first | exact (Kd.R_reads' HO218.out).2.2 | (with_reducible refine Kd.C_alloc ?_ _) | (with_reducible refine Kd.C_drewN ?_ _) | (with_reducible refine Kd.C_drew ?_)))
        (case side4 => exact (Kd.R_reads' HO218.out).2.1)
        rintro e w106 ⟨rfl, hb⟩
        refine ⟨_, rfl, ?_⟩
        replace HO_193001 := Aside0.mk (Kd.R_below (pR HO_193001) hb)
        replace HO_198001 := Aside0.mk (Kd.R_below (pR HO_198001) hb)
        replace HO_203001 := Aside0.mk (Kd.R_below (pR HO_203001) hb)
        replace HO_209001 := Aside0.mk (Kd.R_below (pR HO_209001) hb)
        replace HO213 := Aside0.mk (Kd.R_below (pR HO213) hb)
        replace HO218 := Aside0.mk (Kd.R_below (pR HO218) hb)
        replace BK175 := Aside0.mk (blk_below (pK BK175) hb)
        replace BK176 := Aside0.mk (blk_below (pK BK176) hb)
        replace BK192 := Aside0.mk (blk_below (pK BK192) hb)
        replace BK197 := Aside0.mk (blk_below (pK BK197) hb)
        replace BK202 := Aside0.mk (blk_below (pK BK202) hb)
        replace BK208 := Aside0.mk (blk_below (pK BK208) hb)
        replace HB := Aside0.mk (below_step (pB HB) hb)
        (try clear hb)
        (try clear hb2)
        (try clear hk)
        (try clear hi)
        refine hK.out _ _ ⟨(blk_cell BK202.out 0).trans rfl, (blk_cell BK202.out 1).trans rfl, (blk_cell BK176.out 0).trans rfl, (blk_cell BK176.out 1).trans rfl⟩ (fun hHeld => ?_)
        clear hK K
        refine norm_ (a' := ?_) ?_ ?_
        rotate_left
        ·show Act.put _ (some 62) _ = _
         simp only [Act.put, List.setIfInBounds_toArray, List.set_cons_zero, List.set_cons_succ, i64_w, i32_w]
         rfl
        refine pure_ (i := 4) (N := some 63) (v := ?_) (a' := ?_) #[true, true, true, true, true] rfl rfl (by kernel_rfl) (fun _ _ _ h => h) (Or.inl ⟨by rfl, ?_⟩) ?_ ?_
        rotate_left
        ·intro w'
         go_simp
         with_reducible rfl
        rotate_left
        ·simp only [Act.put, List.setIfInBounds_toArray, List.set_cons_zero, List.set_cons_succ, i64_w, i32_w]
         rfl
        refine done_ (by kernel_rfl) ?_
        have hnb107 := NB197_175.out
        have hnc107 := NB175_197.out
        have hnb108 := NB197_176.out
        have hnc108 := NB176_197.out
        have hnb109 := NB197_192.out
        have hnc109 := NB192_197.out
        have hnb110 := NB197_202.out
        have hnc110 := NB202_197.out
        have hnb111 := NB197_208.out
        have hnc111 := NB208_197.out
        have hcz112_0 : w106.cell? ⟨gb197, 0, none⟩ = some (.int .i64 t193) := (blk_cell BK197.out 0).trans rfl
        have hcz112_1 : w106.cell? ⟨gb197, 1, none⟩ = some (.slice Ao52 t194.length co52) := (blk_cell BK197.out 1).trans rfl
        have hfz112_0 := blk_frozen BK197.out 0
        have hfz112_1 := blk_frozen BK197.out 1
        go_upto_region 21 with (first | ((with_reducible refine gate_callee (f := 24) rfl ?_); refine goesL_ (some 66) rfl rfl Try.func24 (by kernel_rfl) rfl #[.agg #[.int .i64 t193, .slice Ao52 t194.length co52], .int .i64 1] rfl (by (try simp only [List.map_toArray, List.map_cons, List.map_nil]); first | done | rfl | (simp only [List.length_drop, List.length_take]; rfl)) ?_; (with_reducible refine (laws_markLadder.calls kj24 t193 (fun k_ => some k_ = (.slice Ao52 t194.length co52 : Value).ownBlock) (.slice Ao52 t194.length co52) t194 1 t220 t221 w _ ?side1 ?side2 A96.out).mono ?_); (case side1 => repeat (first | (with_reducible first | exact HB.out | apply below_alloc | apply pw_below_drewN | apply below_drew1 | refine below_set ?_ GE175.out | refine below_set ?_ GE176.out | refine below_set ?_ GE192.out | refine below_set ?_ GE197.out | refine below_set ?_ GE202.out | refine below_set ?_ GE208.out) | exact HB.out)); (case side2 => exact Kd.R_tight rfl HO_198001.out); rintro e w113 ⟨rfl, hy0, hb, hkp⟩; refine ⟨_, rfl, ?_⟩; replace HO_193001 := Aside0.mk (Kd.R_mono (ok' := fun k_ => some k_ ≠ (.slice Ao52 t194.length co52 : Value).ownBlock ∧ some k_ ≠ (.slice Ao62 t199.length co62 : Value).ownBlock ∧ some k_ ≠ (.slice Ao74 t204.length co74 : Value).ownBlock ∧ some k_ ≠ (.slice Ao101 t211.length co101 : Value).ownBlock ∧ some k_ ≠ (.slice Ao105 t216.length co105 : Value).ownBlock) (Kd.R_keptB (HO_193001.out) hkp (fun k_ hk_ hs_ => (hk_.1.1.1) hs_)) (fun k_ hk_ => ⟨hk_.1.1.1.1, hk_.1.1.1.2.1, hk_.1.1.1.2.2, hk_.1.1.2, hk_.1.2⟩)); replace HO_203001 := Aside0.mk (Kd.R_mono (ok' := fun k_ => some k_ ≠ (.slice Ao42 t188.length co42 : Value).ownBlock ∧ some k_ ≠ (.slice Ao52 t194.length co52 : Value).ownBlock ∧ some k_ ≠ (.slice Ao74 t204.length co74 : Value).ownBlock ∧ some k_ ≠ (.slice Ao101 t211.length co101 : Value).ownBlock ∧ some k_ ≠ (.slice Ao105 t216.length co105 : Value).ownBlock) (Kd.R_keptB (HO_203001.out) hkp (fun k_ hk_ hs_ => (hk_.1.1.2.1) hs_)) (fun k_ hk_ => ⟨hk_.1.1.1.1, hk_.1.1.1.2.1, hk_.1.1.1.2.2, hk_.1.1.2, hk_.1.2⟩)); replace HO_209001 := Aside0.mk (Kd.R_mono (ok' := fun k_ => some k_ ≠ (.slice Ao42 t188.length co42 : Value).ownBlock ∧ some k_ ≠ (.slice Ao52 t194.length co52 : Value).ownBlock ∧ some k_ ≠ (.slice Ao62 t199.length co62 : Value).ownBlock ∧ some k_ ≠ (.slice Ao101 t211.length co101 : Value).ownBlock ∧ some k_ ≠ (.slice Ao105 t216.length co105 : Value).ownBlock) (Kd.R_keptB (HO_209001.out) hkp (fun k_ hk_ hs_ => (hk_.1.1.2.1) hs_)) (fun k_ hk_ => ⟨hk_.1.1.1.1, hk_.1.1.1.2.1, hk_.1.1.1.2.2, hk_.1.1.2, hk_.1.2⟩)); replace BK175 := Aside0.mk (blk_kept (pK BK175) hkp (fun hs_ => (fun e_ => (Kd.R_ne HO_198001.out BK175.out (by decide)) e_) hs_)); replace BK176 := Aside0.mk (blk_kept (pK BK176) hkp (fun hs_ => (fun e_ => (Kd.R_ne HO_198001.out BK176.out (by decide)) e_) hs_)); replace BK192 := Aside0.mk (blk_kept (pK BK192) hkp (fun hs_ => (fun e_ => (Kd.R_ne HO_198001.out BK192.out (by decide)) e_) hs_)); replace BK197 := Aside0.mk (blk_kept (pK BK197) hkp (fun hs_ => (fun e_ => (Kd.R_ne HO_198001.out BK197.out (by decide)) e_) hs_)); replace BK202 := Aside0.mk (blk_kept (pK BK202) hkp (fun hs_ => (fun e_ => (Kd.R_ne HO_198001.out BK202.out (by decide)) e_) hs_)); replace BK208 := Aside0.mk (blk_kept (pK BK208) hkp (fun hs_ => (fun e_ => (Kd.R_ne HO_198001.out BK208.out (by decide)) e_) hs_)); replace HO_198001 := Aside0.mk (Kd.R_reok rfl hy0 (fun k_ e_ => HO_198001.out.1 k_ e_)); replace HO213 := Aside0.mk (Kd.R_mono (ok' := fun k_ => some k_ ≠ (.slice Ao42 t188.length co42 : Value).ownBlock ∧ some k_ ≠ (.slice Ao52 t194.length co52 : Value).ownBlock ∧ some k_ ≠ (.slice Ao62 t199.length co62 : Value).ownBlock ∧ some k_ ≠ (.slice Ao74 t204.length co74 : Value).ownBlock ∧ some k_ ≠ (.slice Ao105 t216.length co105 : Value).ownBlock) (Kd.R_keptB (HO213.out) hkp (fun k_ hk_ hs_ => (hk_.1.1.1.2) hs_)) (fun k_ hk_ => ⟨hk_.1.1.1.1.1.2, hk_.1.1.1.1.2, hk_.1.1.1.2, hk_.1.1.2, hk_.1.2⟩)); replace HO218 := Aside0.mk (Kd.R_mono (ok' := fun k_ => some k_ ≠ (.slice Ao42 t188.length co42 : Value).ownBlock ∧ some k_ ≠ (.slice Ao52 t194.length co52 : Value).ownBlock ∧ some k_ ≠ (.slice Ao62 t199.length co62 : Value).ownBlock ∧ some k_ ≠ (.slice Ao74 t204.length co74 : Value).ownBlock ∧ some k_ ≠ (.slice Ao101 t211.length co101 : Value).ownBlock) (Kd.R_keptB (HO218.out) hkp (fun k_ hk_ hs_ => (hk_.1.1.1.2) hs_)) (fun k_ hk_ => ⟨hk_.1.1.1.1.1.2, hk_.1.1.1.1.2, hk_.1.1.1.2, hk_.1.1.2, hk_.1.2⟩)); replace HB := Aside0.mk (hb); (try clear hb); (try clear hkp); (try clear hy0); have hnb114 := NB202_175.out; have hnc114 := NB175_202.out; have hnb115 := NB202_176.out; have hnc115 := NB176_202.out; have hnb116 := NB202_192.out; have hnc116 := NB192_202.out; have hnb117 := NB202_208.out; have hnc117 := NB208_202.out; have hcz118_0 : w113.cell? ⟨gb202, 0, none⟩ = some (.int .i64 t198) := (blk_cell BK202.out 0).trans rfl; have hcz118_1 : w113.cell? ⟨gb202, 1, none⟩ = some (.slice Ao62 t199.length co62) := (blk_cell BK202.out 1).trans rfl; have hfz118_0 := blk_frozen BK202.out 0; have hfz118_1 := blk_frozen BK202.out 1) | ((with_reducible refine gate_callee (f := 24) rfl ?_); refine goesL_ (some 69) rfl rfl Try.func24 (by kernel_rfl) rfl #[.agg #[.int .i64 t198, .slice Ao62 t199.length co62], .int .i64 t220] rfl (by (try simp only [List.map_toArray, List.map_cons, List.map_nil]); first | done | rfl | (simp only [List.length_drop, List.length_take]; rfl)) ?_; (with_reducible refine (laws_markLadder.calls kj24 t198 (fun k_ => some k_ = (.slice Ao62 t199.length co62 : Value).ownBlock) (.slice Ao62 t199.length co62) t199 t220 t222 t223 w _ ?side1 ?side2 A97.out).mono ?_); (case side1 => repeat (first | (with_reducible first | exact HB.out | apply below_alloc | apply pw_below_drewN | apply below_drew1 | refine below_set ?_ GE175.out | refine below_set ?_ GE176.out | refine below_set ?_ GE192.out | refine below_set ?_ GE197.out | refine below_set ?_ GE202.out | refine below_set ?_ GE208.out) | exact HB.out)); (case side2 => exact Kd.R_tight rfl HO_203001.out); rintro e w119 ⟨rfl, hy0, hb, hkp⟩; refine ⟨_, rfl, ?_⟩; replace HO_193001 := Aside0.mk (Kd.R_mono (ok' := fun k_ => some k_ ≠ (.slice Ao52 t194.length co52 : Value).ownBlock ∧ some k_ ≠ (.slice Ao62 t199.length co62 : Value).ownBlock ∧ some k_ ≠ (.slice Ao74 t204.length co74 : Value).ownBlock ∧ some k_ ≠ (.slice Ao101 t211.length co101 : Value).ownBlock ∧ some k_ ≠ (.slice Ao105 t216.length co105 : Value).ownBlock) (Kd.R_keptB (HO_193001.out) hkp (fun k_ hk_ hs_ => (hk_.2.1) hs_)) (fun k_ hk_ => ⟨hk_.1.1, hk_.1.2.1, hk_.1.2.2.1, hk_.1.2.2.2.1, hk_.1.2.2.2.2⟩)); replace HO_198001 := Aside0.mk (Kd.R_mono (ok' := fun k_ => some k_ ≠ (.slice Ao42 t188.length co42 : Value).ownBlock ∧ some k_ ≠ (.slice Ao62 t199.length co62 : Value).ownBlock ∧ some k_ ≠ (.slice Ao74 t204.length co74 : Value).ownBlock ∧ some k_ ≠ (.slice Ao101 t211.length co101 : Value).ownBlock ∧ some k_ ≠ (.slice Ao105 t216.length co105 : Value).ownBlock) (Kd.R_keptB (HO_198001.out) hkp (fun k_ hk_ hs_ => (hk_.1.1.2.1) hs_)) (fun k_ hk_ => ⟨hk_.1.1.1.1, hk_.1.1.1.2.1, hk_.1.1.1.2.2, hk_.1.1.2, hk_.1.2⟩)); replace HO_209001 := Aside0.mk (Kd.R_mono (ok' := fun k_ => some k_ ≠ (.slice Ao42 t188.length co42 : Value).ownBlock ∧ some k_ ≠ (.slice Ao52 t194.length co52 : Value).ownBlock ∧ some k_ ≠ (.slice Ao62 t199.length co62 : Value).ownBlock ∧ some k_ ≠ (.slice Ao101 t211.length co101 : Value).ownBlock ∧ some k_ ≠ (.slice Ao105 t216.length co105 : Value).ownBlock) (Kd.R_keptB (HO_209001.out) hkp (fun k_ hk_ hs_ => (hk_.2.2.1) hs_)) (fun k_ hk_ => ⟨hk_.1.1, hk_.1.2.1, hk_.1.2.2.1, hk_.1.2.2.2.1, hk_.1.2.2.2.2⟩)); replace BK175 := Aside0.mk (blk_kept (pK BK175) hkp (fun hs_ => (fun e_ => (Kd.R_ne HO_203001.out BK175.out (by decide)) e_) hs_)); replace BK176 := Aside0.mk (blk_kept (pK BK176) hkp (fun hs_ => (fun e_ => (Kd.R_ne HO_203001.out BK176.out (by decide)) e_) hs_)); replace BK192 := Aside0.mk (blk_kept (pK BK192) hkp (fun hs_ => (fun e_ => (Kd.R_ne HO_203001.out BK192.out (by decide)) e_) hs_)); replace BK197 := Aside0.mk (blk_kept (pK BK197) hkp (fun hs_ => (fun e_ => (Kd.R_ne HO_203001.out BK197.out (by decide)) e_) hs_)); replace BK202 := Aside0.mk (blk_kept (pK BK202) hkp (fun hs_ => (fun e_ => (Kd.R_ne HO_203001.out BK202.out (by decide)) e_) hs_)); replace BK208 := Aside0.mk (blk_kept (pK BK208) hkp (fun hs_ => (fun e_ => (Kd.R_ne HO_203001.out BK208.out (by decide)) e_) hs_)); replace HO_203001 := Aside0.mk (Kd.R_reok rfl hy0 (fun k_ e_ => HO_203001.out.1 k_ e_)); replace HO213 := Aside0.mk (Kd.R_mono (ok' := fun k_ => some k_ ≠ (.slice Ao42 t188.length co42 : Value).ownBlock ∧ some k_ ≠ (.slice Ao52 t194.length co52 : Value).ownBlock ∧ some k_ ≠ (.slice Ao62 t199.length co62 : Value).ownBlock ∧ some k_ ≠ (.slice Ao74 t204.length co74 : Value).ownBlock ∧ some k_ ≠ (.slice Ao105 t216.length co105 : Value).ownBlock) (Kd.R_keptB (HO213.out) hkp (fun k_ hk_ hs_ => (hk_.2.2.1) hs_)) (fun k_ hk_ => ⟨hk_.1.1, hk_.1.2.1, hk_.1.2.2.1, hk_.1.2.2.2.1, hk_.1.2.2.2.2⟩)); replace HO218 := Aside0.mk (Kd.R_mono (ok' := fun k_ => some k_ ≠ (.slice Ao42 t188.length co42 : Value).ownBlock ∧ some k_ ≠ (.slice Ao52 t194.length co52 : Value).ownBlock ∧ some k_ ≠ (.slice Ao62 t199.length co62 : Value).ownBlock ∧ some k_ ≠ (.slice Ao74 t204.length co74 : Value).ownBlock ∧ some k_ ≠ (.slice Ao101 t211.length co101 : Value).ownBlock) (Kd.R_keptB (HO218.out) hkp (fun k_ hk_ hs_ => (hk_.2.2.1) hs_)) (fun k_ hk_ => ⟨hk_.1.1, hk_.1.2.1, hk_.1.2.2.1, hk_.1.2.2.2.1, hk_.1.2.2.2.2⟩)); replace HB := Aside0.mk (hb); (try clear hb); (try clear hkp); (try clear hy0)))
        (try simp only [Act.put, List.setIfInBounds_toArray, List.set_cons_zero, List.set_cons_succ])
        go_cut [82] (fun v82 wc => ∃ (kq : Nat) (x82_97 : Bool), v82 = .bool x82_97 ∧ Aside0 (laws_FnExactBelowLadder.j1 kq t191 x82_97 a0_0 l0_1 a1_0 l1_1 t187 t188 t203 t204 = some true) ∧ Aside0 (kq ≤ kj24) ∧ Aside0 (Kd.R (Kd.int .i64) 3 wc w.heap.size (fun k_ => some k_ ≠ ((.slice Ao52 t194.length co52) : Value).ownBlock ∧ some k_ ≠ ((.slice Ao62 t199.length co62) : Value).ownBlock ∧ some k_ ≠ ((.slice Ao74 t204.length co74) : Value).ownBlock) (.slice Ao42 t188.length co42) t188) ∧ Aside0 (Kd.R (Kd.int .i64) 3 wc w.heap.size (fun k_ => some k_ ≠ ((.slice Ao42 t188.length co42) : Value).ownBlock ∧ some k_ ≠ ((.slice Ao62 t199.length co62) : Value).ownBlock ∧ some k_ ≠ ((.slice Ao74 t204.length co74) : Value).ownBlock) (.slice Ao52 t194.length co52) t221) ∧ Aside0 (Kd.R (Kd.int .i64) 3 wc w.heap.size (fun k_ => some k_ ≠ ((.slice Ao42 t188.length co42) : Value).ownBlock ∧ some k_ ≠ ((.slice Ao52 t194.length co52) : Value).ownBlock ∧ some k_ ≠ ((.slice Ao74 t204.length co74) : Value).ownBlock) (.slice Ao62 t199.length co62) t223) ∧ Aside0 (Kd.R (Kd.int .i64) 3 wc w.heap.size (fun k_ => some k_ ≠ ((.slice Ao42 t188.length co42) : Value).ownBlock ∧ some k_ ≠ ((.slice Ao52 t194.length co52) : Value).ownBlock ∧ some k_ ≠ ((.slice Ao62 t199.length co62) : Value).ownBlock) (.slice Ao74 t204.length co74) t204) ∧ Aside0 (wc.heap[gb175]? = some (.cells #[.int .i64 a0_0, (.slice A0_1 l0_1.length c0_1)] 33 (0, 0))) ∧ Aside0 (wc.heap[gb176]? = some (.cells #[.int .i64 a1_0, (.slice A1_1 l1_1.length c1_1)] 33 (0, 0))) ∧ Aside0 (wc.heap[gb192]? = some (.cells #[.int .i64 t187, (.slice Ao42 t188.length co42)] 35 (0, 0))) ∧ Aside0 (wc.heap[gb197]? = some (.cells #[.int .i64 t193, (.slice Ao52 t194.length co52)] 35 (0, 0))) ∧ Aside0 (wc.heap[gb202]? = some (.cells #[.int .i64 t198, (.slice Ao62 t199.length co62)] 35 (0, 0))) ∧ Aside0 (wc.heap[gb208]? = some (.cells #[.int .i64 t203, (.slice Ao74 t204.length co74)] 35 (0, 0))) ∧ Aside0 (Below w.heap.size w wc))
        case first =>
         have H := HC98.out
         clear HC98
         by_cases c120 : t222 < 0
         ·rw [if_pos c120] at H
          have c120b0 : decide (t222 < 0) = true := decide_eq_true c120
          clear c120
          (first | rw [c120b0] | (simp only [i64_w, i32_w]; rw [c120b0]) | skip)
          exfalso
          revert H
          cases kj24 <;> simp [laws_FnExactBelowLadder.j1]
         ·rw [if_neg c120] at H
          have c120b0 : decide (t222 < 0) = false := decide_eq_false c120
          clear c120
          (first | rw [c120b0] | (simp only [i64_w, i32_w]; rw [c120b0]) | skip)
          replace H := Option.bind_eq_some_iff.mp H
          obtain ⟨t224, A1210, H⟩ := H
          replace H : (if t224 = true then (laws_FnExactBelowLadder.j1 kj24 t191 (t207 != t191) a0_0 l0_1 a1_0 l1_1 t187 t188 t203 t204) else (laws_FnExactBelowLadder.j1 kj24 t191 true a0_0 l0_1 a1_0 l1_1 t187 t188 t203 t204)) = some true := H
          have A121 := Aside0.mk A1210
          clear A1210
          by_cases c122 : t224 = true
          ·subst c122
           have H1 : (laws_FnExactBelowLadder.j1 kj24 t191 (t207 != t191) a0_0 l0_1 a1_0 l1_1 t187 t188 t203 t204) = some true := by rw [if_pos rfl] at H; exact H
           clear H
           have H := H1
           clear H1
           have H' := Aside0.mk H
           clear H
           have hnb123 := NB208_175.out
           have hnc123 := NB175_208.out
           have hnb124 := NB208_176.out
           have hnc124 := NB176_208.out
           have hnb125 := NB208_192.out
           have hnc125 := NB192_208.out
           have hnb126 := NB208_197.out
           have hnc126 := NB197_208.out
           have hnb127 := NB208_202.out
           have hnc127 := NB202_208.out
           have hcz128_0 : w119.cell? ⟨gb208, 0, none⟩ = some (.int .i64 t203) := (blk_cell BK208.out 0).trans rfl
           have hcz128_1 : w119.cell? ⟨gb208, 1, none⟩ = some (.slice Ao74 t204.length co74) := (blk_cell BK208.out 1).trans rfl
           have hfz128_0 := blk_frozen BK208.out 0
           have hfz128_1 := blk_frozen BK208.out 1
           have hnb129 := NB192_175.out
           have hnc129 := NB175_192.out
           have hnb130 := NB192_176.out
           have hnc130 := NB176_192.out
           have hnb131 := NB192_197.out
           have hnc131 := NB197_192.out
           have hnb132 := NB192_202.out
           have hnc132 := NB202_192.out
           have hcz133_0 : w119.cell? ⟨gb192, 0, none⟩ = some (.int .i64 t187) := (blk_cell BK192.out 0).trans rfl
           have hcz133_1 : w119.cell? ⟨gb192, 1, none⟩ = some (.slice Ao42 t188.length co42) := (blk_cell BK192.out 1).trans rfl
           have hfz133_0 := blk_frozen BK192.out 0
           have hfz133_1 := blk_frozen BK192.out 1
           go_wp2_with (first | (go_at_call 23; (with_reducible refine (laws_eqLadder.calls kj24 t203 _ _ t204 t187 _ _ t188 true _ ?side1 ?side2 ?side3 ?side4 A121.out).mono ?_); (case side1 => repeat (first | exact (Kd.R_reads' HO_209001.out).2.2 | (with_reducible refine Kd.C_alloc ?_ _) | (with_reducible refine Kd.C_drewN ?_ _) | (with_reducible refine Kd.C_drew ?_))); (case side2 => exact (Kd.R_reads' HO_209001.out).2.1); (case side3 => repeat (first | exact (Kd.R_reads' HO_193001.out).2.2 | (with_reducible refine Kd.C_alloc ?_ _) | (with_reducible refine Kd.C_drewN ?_ _) | (with_reducible refine Kd.C_drew ?_))); (case side4 => exact (Kd.R_reads' HO_193001.out).2.1); rintro e w134 ⟨rfl, hb⟩; replace HO_193001 := Aside0.mk (Kd.R_below (pR HO_193001) hb); replace HO_198001 := Aside0.mk (Kd.R_below (pR HO_198001) hb); replace HO_203001 := Aside0.mk (Kd.R_below (pR HO_203001) hb); replace HO_209001 := Aside0.mk (Kd.R_below (pR HO_209001) hb); replace HO213 := Aside0.mk (Kd.R_below (pR HO213) hb); replace HO218 := Aside0.mk (Kd.R_below (pR HO218) hb); replace BK175 := Aside0.mk (blk_below (pK BK175) hb); replace BK176 := Aside0.mk (blk_below (pK BK176) hb); replace BK192 := Aside0.mk (blk_below (pK BK192) hb); replace BK197 := Aside0.mk (blk_below (pK BK197) hb); replace BK202 := Aside0.mk (blk_below (pK BK202) hb); replace BK208 := Aside0.mk (blk_below (pK BK208) hb); replace HB := Aside0.mk (below_step (pB HB) hb); (try clear hb); (try clear hb2); (try clear hk); (try clear hi)))
           go_meet
           case rel => exact ⟨_, ((t207 != t191)), (by first | rfl | (simp; done) | (simp [*]; done)), H', ⟨by have := HJ24.out; first | omega | exact Nat.le_refl _⟩, ⟨by (with_reducible repeat (first | apply Kd.R_alloc | apply Kd.R_drewN | apply Kd.R_drew)); exact Kd.R_mono HO_193001.out (fun _ hk => ⟨hk.1, ⟨hk.2.1, hk.2.2.1⟩⟩)⟩, ⟨by (with_reducible repeat (first | apply Kd.R_alloc | apply Kd.R_drewN | apply Kd.R_drew)); exact Kd.R_mono HO_198001.out (fun _ hk => ⟨hk.1, ⟨hk.2.1, hk.2.2.1⟩⟩)⟩, ⟨by (with_reducible repeat (first | apply Kd.R_alloc | apply Kd.R_drewN | apply Kd.R_drew)); exact Kd.R_mono HO_203001.out (fun _ hk => ⟨hk.1, ⟨hk.2.1, hk.2.2.1⟩⟩)⟩, ⟨by (with_reducible repeat (first | apply Kd.R_alloc | apply Kd.R_drewN | apply Kd.R_drew)); exact Kd.R_mono HO_209001.out (fun _ hk => ⟨hk.1, ⟨hk.2.1, hk.2.2.1⟩⟩)⟩, ⟨by (with_reducible repeat (first | refine blk_drewN ?_ _ | refine blk_drew ?_ | refine blk_alloc ?_ _)); exact BK175.out⟩, ⟨by (with_reducible repeat (first | refine blk_drewN ?_ _ | refine blk_drew ?_ | refine blk_alloc ?_ _)); exact BK176.out⟩, ⟨by (with_reducible repeat (first | refine blk_drewN ?_ _ | refine blk_drew ?_ | refine blk_alloc ?_ _)); exact BK192.out⟩, ⟨by (with_reducible repeat (first | refine blk_drewN ?_ _ | refine blk_drew ?_ | refine blk_alloc ?_ _)); exact BK197.out⟩, ⟨by (with_reducible repeat (first | refine blk_drewN ?_ _ | refine blk_drew ?_ | refine blk_alloc ?_ _)); exact BK202.out⟩, ⟨by (with_reducible repeat (first | refine blk_drewN ?_ _ | refine blk_drew ?_ | refine blk_alloc ?_ _)); exact BK208.out⟩, ⟨by repeat (first | (with_reducible first | exact HB.out | apply below_alloc | apply pw_below_drewN | apply below_drew1 | refine below_set ?_ GE175.out | refine below_set ?_ GE176.out | refine below_set ?_ GE192.out | refine below_set ?_ GE197.out | refine below_set ?_ GE202.out | refine below_set ?_ GE208.out) | exact HB.out)⟩⟩
          ·replace c122 := Bool.eq_false_iff.mpr c122
           subst c122
           have H1 : (laws_FnExactBelowLadder.j1 kj24 t191 true a0_0 l0_1 a1_0 l1_1 t187 t188 t203 t204) = some true := by rw [if_neg (show ¬ (false = true) by decide)] at H; exact H
           clear H
           have H := H1
           clear H1
           exfalso
           revert H
           cases kj24 <;> simp [laws_FnExactBelowLadder.j1]
        case rest =>
         clear HC98
         try clear c1
         try clear c2
         try clear p2
         try clear c4
         try clear c5
         try clear c6
         try clear c7
         try clear c8
         try clear c9
         try clear c10
         try clear c11
         try clear c12
         try clear c13
         try clear c20
         try clear c21
         try clear c22
         try clear c23
         try clear c24
         try clear c44
         try clear c48
         try clear c49
         try clear c50
         try clear c53
         try clear c57
         try clear c58
         try clear c59
         try clear c60
         try clear c68
         try clear c69
         try clear c70
         try clear c71
         try clear c72
         try clear c76
         try clear c77
         try clear c78
         try clear c79
         try clear c80
         try clear c81
         try clear c83
         try clear c84
         try clear c85
         try clear c86
         try clear c89
         try clear c92
         try clear c95
         try clear c107
         try clear c108
         try clear c109
         try clear c110
         try clear c111
         try clear c114
         try clear c115
         try clear c116
         try clear c117
         try clear c120
         try clear c120b0
         try clear c122
         try clear c123
         try clear c124
         try clear c125
         try clear c126
         try clear c127
         try clear c129
         try clear c130
         try clear c131
         try clear c132
         try clear hcz112_0
         try clear hcz112_1
         try clear hcz118_0
         try clear hcz118_1
         try clear hcz128_0
         try clear hcz128_1
         try clear hcz133_0
         try clear hcz133_1
         try clear hcz45_0
         try clear hcz45_1
         try clear hcz51_0
         try clear hcz51_1
         try clear hcz54_0
         try clear hcz54_1
         try clear hcz61_0
         try clear hcz61_1
         try clear hcz64_0
         try clear hcz64_1
         try clear hcz65_0
         try clear hcz65_1
         try clear hcz73_0
         try clear hcz73_1
         try clear hcz82_0
         try clear hcz82_1
         try clear hcz87_0
         try clear hcz87_1
         try clear hfz112_0
         try clear hfz112_1
         try clear hfz118_0
         try clear hfz118_1
         try clear hfz128_0
         try clear hfz128_1
         try clear hfz133_0
         try clear hfz133_1
         try clear hfz45_0
         try clear hfz45_1
         try clear hfz51_0
         try clear hfz51_1
         try clear hfz54_0
         try clear hfz54_1
         try clear hfz61_0
         try clear hfz61_1
         try clear hfz64_0
         try clear hfz64_1
         try clear hfz65_0
         try clear hfz65_1
         try clear hfz73_0
         try clear hfz73_1
         try clear hfz82_0
         try clear hfz82_1
         try clear hfz87_0
         try clear hfz87_1
         try clear p2
         obtain ⟨kq, x82_97, rfl, HA, HJ97, HO_193001, HO_198001, HO_203001, HO_209001, BK175, BK176, BK192, BK197, BK202, BK208, HB⟩ := hcut
         have hl198001_97 := (Kd.R_reads' HO_198001.out).1
         rw [hl198001_97] at HO_198001
         (try simp only [hl198001_97])
         (try simp only [hl198001_97] at BK175)
         (try simp only [hl198001_97] at BK176)
         (try simp only [hl198001_97] at BK192)
         (try simp only [hl198001_97] at BK197)
         (try simp only [hl198001_97] at BK202)
         (try simp only [hl198001_97] at BK208)
         (try simp only [hl198001_97] at HO_193001)
         (try simp only [hl198001_97] at HO_203001)
         (try simp only [hl198001_97] at HO_209001)
         have hl203001_97 := (Kd.R_reads' HO_203001.out).1
         rw [hl203001_97] at HO_203001
         (try simp only [hl203001_97])
         (try simp only [hl203001_97] at BK175)
         (try simp only [hl203001_97] at BK176)
         (try simp only [hl203001_97] at BK192)
         (try simp only [hl203001_97] at BK197)
         (try simp only [hl203001_97] at BK202)
         (try simp only [hl203001_97] at BK208)
         (try simp only [hl203001_97] at HO_193001)
         (try simp only [hl203001_97] at HO_198001)
         (try simp only [hl203001_97] at HO_209001)
         cases kq with
         | zero => exact absurd HA.out (by simp [laws_FnExactBelowLadder.j1])
         | succ kj97 =>
          have H := HA.out
          clear HA
          simp only [laws_FnExactBelowLadder.j1] at H
          by_cases c135 : x82_97 = true
          ·subst c135
           have H1 : (some false) = some true := by rw [if_pos rfl] at H; exact H
           clear H
           have H := H1
           clear H1
           exact absurd H (by simp)
          ·replace c135 := Bool.eq_false_iff.mpr c135
           subst c135
           have H1 : ((laws_markLadder.f kj97 t203 t204 1).bind fun bt225 => ((laws_heldLadder.f kj97 t203 bt225.2 1).bind fun t227 => (if t227 < 0 then (some false) else (if t227 = bt225.1 then ((laws_toLadder.f kj97 a0_0 l0_1).bind fun bt228 => ((laws_toLadder.f kj97 a1_0 l1_1).bind fun bt232 => ((impl_BelowLadder.f kj97 bt228.1 bt228.2 bt232.1 bt232.2).bind fun bt236 => ((laws_eqLadder.f kj97 bt236.1 bt236.2.1 t187 t188).bind fun t242 => (if t242 = true then (laws_FnExactBelowLadder.j2 kj97 bt225.1 (bt236.2.2 != t191) t203 bt225.2) else (laws_FnExactBelowLadder.j2 kj97 bt225.1 true t203 bt225.2)))))) else (some false))))) = some true := by rw [if_neg (show ¬ (false = true) by decide)] at H; exact H
           clear H
           have H := H1
           clear H1
           replace H := Option.bind_eq_some_iff.mp H
           obtain ⟨⟨t225, t226⟩, A1360, H⟩ := H
           replace H : ((laws_heldLadder.f kj97 t203 t226 1).bind fun t227 => (if t227 < 0 then (some false) else (if t227 = t225 then ((laws_toLadder.f kj97 a0_0 l0_1).bind fun bt228 => ((laws_toLadder.f kj97 a1_0 l1_1).bind fun bt232 => ((impl_BelowLadder.f kj97 bt228.1 bt228.2 bt232.1 bt232.2).bind fun bt236 => ((laws_eqLadder.f kj97 bt236.1 bt236.2.1 t187 t188).bind fun t242 => (if t242 = true then (laws_FnExactBelowLadder.j2 kj97 t225 (bt236.2.2 != t191) t203 t226) else (laws_FnExactBelowLadder.j2 kj97 t225 true t203 t226)))))) else (some false)))) = some true := H
           have A136 := Aside0.mk A1360
           clear A1360
           replace H := Option.bind_eq_some_iff.mp H
           obtain ⟨t227, A1370, H⟩ := H
           replace H : (if t227 < 0 then (some false) else (if t227 = t225 then ((laws_toLadder.f kj97 a0_0 l0_1).bind fun bt228 => ((laws_toLadder.f kj97 a1_0 l1_1).bind fun bt232 => ((impl_BelowLadder.f kj97 bt228.1 bt228.2 bt232.1 bt232.2).bind fun bt236 => ((laws_eqLadder.f kj97 bt236.1 bt236.2.1 t187 t188).bind fun t242 => (if t242 = true then (laws_FnExactBelowLadder.j2 kj97 t225 (bt236.2.2 != t191) t203 t226) else (laws_FnExactBelowLadder.j2 kj97 t225 true t203 t226)))))) else (some false))) = some true := H
           have A137 := Aside0.mk A1370
           clear A1370
           by_cases c138 : t227 < 0
           ·rw [if_pos c138] at H
            have c138b0 : decide (t227 < 0) = true := decide_eq_true c138
            clear c138
            exact absurd H (by simp)
           ·rw [if_neg c138] at H
            have c138b0 : decide (t227 < 0) = false := decide_eq_false c138
            clear c138
            by_cases c139 : t227 = t225
            ·rw [if_pos c139] at H
             have c139b0 : (t227 == t225) = true := beq_iff_eq.mpr c139
             have c139b1 : (t227 != t225) = false := bne_eq_false_iff_eq.mpr c139
             clear c139
             replace H := Option.bind_eq_some_iff.mp H
             obtain ⟨⟨t228, t229⟩, A1400, H⟩ := H
             replace H : ((laws_toLadder.f kj97 a1_0 l1_1).bind fun bt232 => ((impl_BelowLadder.f kj97 t228 t229 bt232.1 bt232.2).bind fun bt236 => ((laws_eqLadder.f kj97 bt236.1 bt236.2.1 t187 t188).bind fun t242 => (if t242 = true then (laws_FnExactBelowLadder.j2 kj97 t225 (bt236.2.2 != t191) t203 t226) else (laws_FnExactBelowLadder.j2 kj97 t225 true t203 t226))))) = some true := H
             have A140 := Aside0.mk A1400
             clear A1400
             replace H := Option.bind_eq_some_iff.mp H
             obtain ⟨⟨t232, t233⟩, A1410, H⟩ := H
             replace H : ((impl_BelowLadder.f kj97 t228 t229 t232 t233).bind fun bt236 => ((laws_eqLadder.f kj97 bt236.1 bt236.2.1 t187 t188).bind fun t242 => (if t242 = true then (laws_FnExactBelowLadder.j2 kj97 t225 (bt236.2.2 != t191) t203 t226) else (laws_FnExactBelowLadder.j2 kj97 t225 true t203 t226)))) = some true := H
             have A141 := Aside0.mk A1410
             clear A1410
             replace H := Option.bind_eq_some_iff.mp H
             obtain ⟨⟨t236, t237, t240⟩, A1420, H⟩ := H
             replace H : ((laws_eqLadder.f kj97 t236 t237 t187 t188).bind fun t242 => (if t242 = true then (laws_FnExactBelowLadder.j2 kj97 t225 (t240 != t191) t203 t226) else (laws_FnExactBelowLadder.j2 kj97 t225 true t203 t226))) = some true := H
             have A142 := Aside0.mk A1420
             clear A1420
             have HC143 := Aside0.mk H
             clear H
             have hnb144 := NB208_175.out
             have hnc144 := NB175_208.out
             have hnb145 := NB208_176.out
             have hnc145 := NB176_208.out
             have hnb146 := NB208_192.out
             have hnc146 := NB192_208.out
             have hnb147 := NB208_197.out
             have hnc147 := NB197_208.out
             have hnb148 := NB208_202.out
             have hnc148 := NB202_208.out
             have hcz149_0 : wc.cell? ⟨gb208, 0, none⟩ = some (.int .i64 t203) := (blk_cell BK208.out 0).trans rfl
             have hcz149_1 : wc.cell? ⟨gb208, 1, none⟩ = some (.slice Ao74 t204.length co74) := (blk_cell BK208.out 1).trans rfl
             have hfz149_0 := blk_frozen BK208.out 0
             have hfz149_1 := blk_frozen BK208.out 1
             try go_wp2_with (first | ((with_reducible refine gate_callee (f := 24) rfl ?_); refine goesL_ (some 85) rfl rfl Try.func24 (by kernel_rfl) rfl #[.agg #[.int .i64 t203, .slice Ao74 t204.length co74], .int .i64 1] rfl (by (try simp only [List.map_toArray, List.map_cons, List.map_nil]); first | done | rfl | (simp only [List.length_drop, List.length_take]; rfl)) ?_; (with_reducible refine (laws_markLadder.calls kj97 t203 (fun k_ => some k_ = (.slice Ao74 t204.length co74 : Value).ownBlock) (.slice Ao74 t204.length co74) t204 1 t225 t226 w _ ?side1 ?side2 A136.out).mono ?_); (case side1 => repeat (first | (with_reducible first | exact HB.out | apply below_alloc | apply pw_below_drewN | apply below_drew1 | refine below_set ?_ GE175.out | refine below_set ?_ GE176.out | refine below_set ?_ GE192.out | refine below_set ?_ GE197.out | refine below_set ?_ GE202.out | refine below_set ?_ GE208.out) | exact HB.out)); (case side2 => exact Kd.R_tight rfl HO_209001.out); rintro e w150 ⟨rfl, hy0, hb, hkp⟩; refine ⟨_, rfl, ?_⟩; replace HO_193001 := Aside0.mk (Kd.R_mono (ok' := fun k_ => some k_ ≠ (.slice Ao52 t221.length co52 : Value).ownBlock ∧ some k_ ≠ (.slice Ao62 t223.length co62 : Value).ownBlock ∧ some k_ ≠ (.slice Ao74 t204.length co74 : Value).ownBlock) (Kd.R_keptB (HO_193001.out) hkp (fun k_ hk_ hs_ => (hk_.2.2) hs_)) (fun k_ hk_ => ⟨hk_.1.1, hk_.1.2.1, hk_.1.2.2⟩)); replace HO_198001 := Aside0.mk (Kd.R_mono (ok' := fun k_ => some k_ ≠ (.slice Ao42 t188.length co42 : Value).ownBlock ∧ some k_ ≠ (.slice Ao62 t223.length co62 : Value).ownBlock ∧ some k_ ≠ (.slice Ao74 t204.length co74 : Value).ownBlock) (Kd.R_keptB (HO_198001.out) hkp (fun k_ hk_ hs_ => (hk_.2.2) hs_)) (fun k_ hk_ => ⟨hk_.1.1, hk_.1.2.1, hk_.1.2.2⟩)); replace HO_203001 := Aside0.mk (Kd.R_mono (ok' := fun k_ => some k_ ≠ (.slice Ao42 t188.length co42 : Value).ownBlock ∧ some k_ ≠ (.slice Ao52 t221.length co52 : Value).ownBlock ∧ some k_ ≠ (.slice Ao74 t204.length co74 : Value).ownBlock) (Kd.R_keptB (HO_203001.out) hkp (fun k_ hk_ hs_ => (hk_.2.2) hs_)) (fun k_ hk_ => ⟨hk_.1.1, hk_.1.2.1, hk_.1.2.2⟩)); replace BK175 := Aside0.mk (blk_kept (pK BK175) hkp (fun hs_ => (fun e_ => (Kd.R_ne HO_209001.out BK175.out (by decide)) e_) hs_)); replace BK176 := Aside0.mk (blk_kept (pK BK176) hkp (fun hs_ => (fun e_ => (Kd.R_ne HO_209001.out BK176.out (by decide)) e_) hs_)); replace BK192 := Aside0.mk (blk_kept (pK BK192) hkp (fun hs_ => (fun e_ => (Kd.R_ne HO_209001.out BK192.out (by decide)) e_) hs_)); replace BK197 := Aside0.mk (blk_kept (pK BK197) hkp (fun hs_ => (fun e_ => (Kd.R_ne HO_209001.out BK197.out (by decide)) e_) hs_)); replace BK202 := Aside0.mk (blk_kept (pK BK202) hkp (fun hs_ => (fun e_ => (Kd.R_ne HO_209001.out BK202.out (by decide)) e_) hs_)); replace BK208 := Aside0.mk (blk_kept (pK BK208) hkp (fun hs_ => (fun e_ => (Kd.R_ne HO_209001.out BK208.out (by decide)) e_) hs_)); replace HO_209001 := Aside0.mk (Kd.R_reok rfl hy0 (fun k_ e_ => HO_209001.out.1 k_ e_)); replace HB := Aside0.mk (hb); (try clear hb); (try clear hkp); (try clear hy0); have hcz151_0 : w150.cell? ⟨gb208, 0, none⟩ = some (.int .i64 t203) := (blk_cell BK208.out 0).trans rfl; have hcz151_1 : w150.cell? ⟨gb208, 1, none⟩ = some (.slice Ao74 t204.length co74) := (blk_cell BK208.out 1).trans rfl; have hfz151_0 := blk_frozen BK208.out 0; have hfz151_1 := blk_frozen BK208.out 1) | ((with_reducible refine gate_callee (f := 25) rfl ?_); refine goesL_ (some 88) rfl rfl Try.func25 (by kernel_rfl) rfl #[.agg #[.int .i64 t203, .slice Ao74 t226.length co74], .int .i64 1] rfl (by (try simp only [List.map_toArray, List.map_cons, List.map_nil]); first | done | (rw [show t226.length = t204.length from (Kd.R_reads' HO_209001.out).1.symm] <;> rfl) | rfl | (simp only [List.length_drop, List.length_take]; rfl)) ?_; (with_reducible refine (laws_heldLadder.calls kj97 t203 _ _ t226 1 t227 _ ?side1 ?side2 A137.out).mono ?_); (case side1 => repeat (first | exact (Kd.R_reads' HO_209001.out).2.2 | (with_reducible refine Kd.C_alloc ?_ _) | (with_reducible refine Kd.C_drewN ?_ _) | (with_reducible refine Kd.C_drew ?_))); (case side2 => rw [show t226.length = t204.length from (Kd.R_reads' HO_209001.out).1.symm]; exact (Kd.R_reads' HO_209001.out).2.1); rintro e w152 ⟨rfl, hb⟩; refine ⟨_, rfl, ?_⟩; replace HO_193001 := Aside0.mk (Kd.R_below (pR HO_193001) hb); replace HO_198001 := Aside0.mk (Kd.R_below (pR HO_198001) hb); replace HO_203001 := Aside0.mk (Kd.R_below (pR HO_203001) hb); replace HO_209001 := Aside0.mk (Kd.R_below (pR HO_209001) hb); replace BK175 := Aside0.mk (blk_below (pK BK175) hb); replace BK176 := Aside0.mk (blk_below (pK BK176) hb); replace BK192 := Aside0.mk (blk_below (pK BK192) hb); replace BK197 := Aside0.mk (blk_below (pK BK197) hb); replace BK202 := Aside0.mk (blk_below (pK BK202) hb); replace BK208 := Aside0.mk (blk_below (pK BK208) hb); replace HB := Aside0.mk (below_step (pB HB) hb); (try clear hb); (try clear hb2); (try clear hk); (try clear hi)))
             replace HO_193001 := Aside0.mk (Kd.R_drew HO_193001.out)
             replace HO_198001 := Aside0.mk (Kd.R_drew HO_198001.out)
             replace HO_203001 := Aside0.mk (Kd.R_drew HO_203001.out)
             replace HO_209001 := Aside0.mk (Kd.R_drew HO_209001.out)
             replace BK175 := Aside0.mk (blk_drew BK175.out)
             replace BK176 := Aside0.mk (blk_drew BK176.out)
             replace BK192 := Aside0.mk (blk_drew BK192.out)
             replace BK197 := Aside0.mk (blk_drew BK197.out)
             replace BK202 := Aside0.mk (blk_drew BK202.out)
             replace BK208 := Aside0.mk (blk_drew BK208.out)
             replace HB := Aside0.mk (below_drew1 HB.out)
             refine start_ (n := 11) (S := fun w' => w'.cell? ⟨gb175, 0, none⟩ = some (.int .i64 a0_0) ∧ w'.cell? ⟨gb175, 1, none⟩ = some (.slice A0_1 l0_1.length c0_1) ∧ w'.cell? ⟨gb176, 0, none⟩ = some (.int .i64 a1_0) ∧ w'.cell? ⟨gb176, 1, none⟩ = some (.slice A1_1 l1_1.length c1_1)) (ds := []) #[false, false, false, false, false, false, false, false, false, false, false] (by kernel_rfl) rfl rfl ⟨(blk_cell BK175.out 0).trans rfl, (blk_cell BK175.out 1).trans rfl, (blk_cell BK176.out 0).trans rfl, (blk_cell BK176.out 1).trans rfl⟩ (fun hHeld => ?_); refine with_tabW laws_FnExactBelowLadder.tab31 laws_FnExactBelowLadder.bits31 (fun HT_ HW_ => ?_)
             generalize w152.drew = w153 at HO_193001 HO_198001 HO_203001 HO_209001 BK175 BK176 BK192 BK197 BK202 BK208 HB hHeld ⊢
             refine take_ (i := 0) (N := some 95) (v := ?_) (a' := ?_) #[true, false, false, false, false, false, false, false, false, false, false] rfl rfl (take_ofW HT_.out HW_.out (by kernel_rfl)) (fun _ _ _ h => h) (Or.inl ⟨by rfl, ?_⟩) hHeld ?_ ?_
             rotate_left
             ·rintro w' ⟨s0, s1, s2, s3⟩
              go_simp
              with_reducible rfl
             rotate_left
             ·simp only [Act.put, List.setIfInBounds_toArray, List.set_cons_zero, List.set_cons_succ, i64_w, i32_w]
              rfl
             refine take_ (i := 2) (N := some 97) (v := ?_) (a' := ?_) #[true, false, true, false, false, false, false, false, false, false, false] rfl rfl (take_ofW HT_.out HW_.out (by kernel_rfl)) (fun _ _ _ h => h) (Or.inl ⟨by rfl, ?_⟩) hHeld ?_ ?_
             rotate_left
             ·rintro w' ⟨s0, s1, s2, s3⟩
              go_simp
              with_reducible rfl
             rotate_left
             ·simp only [Act.put, List.setIfInBounds_toArray, List.set_cons_zero, List.set_cons_succ, i64_w, i32_w]
              rfl
             refine join_ (σ := Value × Value × Value × Nat) 2 #[true, true, true, true, true, true, true, true, true, false, false] (fun s_ => [(96, .agg #[.int .i64 t228, s_.1]), (98, .agg #[.int .i64 t232, s_.2.1]), (99, .tuple #[.agg #[.int .i64 t236, s_.2.2.1], .bool t240]), (15, .pointer (some ⟨s_.2.2.2, 0, none⟩)), (94, .tuple #[.agg #[.int .i64 t236, s_.2.2.1], .bool t240]), (100, .agg #[.int .i64 t236, s_.2.2.1]), (101, .bool t240)]) (fun s_ w' => (w'.cell? ⟨gb175, 0, none⟩ = some (.int .i64 a0_0) ∧ w'.cell? ⟨gb175, 1, none⟩ = some (.slice A0_1 l0_1.length c0_1) ∧ w'.cell? ⟨gb176, 0, none⟩ = some (.int .i64 a1_0) ∧ w'.cell? ⟨gb176, 1, none⟩ = some (.slice A1_1 l1_1.length c1_1)) ∧ (Kd.R (Kd.int .i64) 3 w' w.heap.size (fun k_ => some k_ ≠ (s_.2.1 : Value).ownBlock ∧ some k_ ≠ (s_.2.2.1 : Value).ownBlock ∧ some k_ ≠ (.slice Ao42 t188.length co42 : Value).ownBlock ∧ some k_ ≠ (.slice Ao52 t221.length co52 : Value).ownBlock ∧ some k_ ≠ (.slice Ao62 t223.length co62 : Value).ownBlock ∧ some k_ ≠ (.slice Ao74 t204.length co74 : Value).ownBlock) s_.1 t229) ∧ (Kd.R (Kd.int .i64) 3 w' w.heap.size (fun k_ => some k_ ≠ (s_.1 : Value).ownBlock ∧ some k_ ≠ (s_.2.2.1 : Value).ownBlock ∧ some k_ ≠ (.slice Ao42 t188.length co42 : Value).ownBlock ∧ some k_ ≠ (.slice Ao52 t221.length co52 : Value).ownBlock ∧ some k_ ≠ (.slice Ao62 t223.length co62 : Value).ownBlock ∧ some k_ ≠ (.slice Ao74 t204.length co74 : Value).ownBlock) s_.2.1 t233) ∧ (Kd.R (Kd.int .i64) 3 w' w.heap.size (fun k_ => some k_ ≠ (s_.1 : Value).ownBlock ∧ some k_ ≠ (s_.2.1 : Value).ownBlock ∧ some k_ ≠ (.slice Ao42 t188.length co42 : Value).ownBlock ∧ some k_ ≠ (.slice Ao52 t221.length co52 : Value).ownBlock ∧ some k_ ≠ (.slice Ao62 t223.length co62 : Value).ownBlock ∧ some k_ ≠ (.slice Ao74 t204.length co74 : Value).ownBlock) s_.2.2.1 t237) ∧ (Kd.R (Kd.int .i64) 3 w' w.heap.size (fun k_ => some k_ ≠ (s_.1 : Value).ownBlock ∧ some k_ ≠ (s_.2.1 : Value).ownBlock ∧ some k_ ≠ (s_.2.2.1 : Value).ownBlock ∧ some k_ ≠ (.slice Ao52 t221.length co52 : Value).ownBlock ∧ some k_ ≠ (.slice Ao62 t223.length co62 : Value).ownBlock ∧ some k_ ≠ (.slice Ao74 t204.length co74 : Value).ownBlock) (.slice Ao42 t188.length co42) t188) ∧ (Kd.R (Kd.int .i64) 3 w' w.heap.size (fun k_ => some k_ ≠ (s_.1 : Value).ownBlock ∧ some k_ ≠ (s_.2.1 : Value).ownBlock ∧ some k_ ≠ (s_.2.2.1 : Value).ownBlock ∧ some k_ ≠ (.slice Ao42 t188.length co42 : Value).ownBlock ∧ some k_ ≠ (.slice Ao62 t223.length co62 : Value).ownBlock ∧ some k_ ≠ (.slice Ao74 t204.length co74 : Value).ownBlock) (.slice Ao52 t221.length co52) t221) ∧ (Kd.R (Kd.int .i64) 3 w' w.heap.size (fun k_ => some k_ ≠ (s_.1 : Value).ownBlock ∧ some k_ ≠ (s_.2.1 : Value).ownBlock ∧ some k_ ≠ (s_.2.2.1 : Value).ownBlock ∧ some k_ ≠ (.slice Ao42 t188.length co42 : Value).ownBlock ∧ some k_ ≠ (.slice Ao52 t221.length co52 : Value).ownBlock ∧ some k_ ≠ (.slice Ao74 t204.length co74 : Value).ownBlock) (.slice Ao62 t223.length co62) t223) ∧ (Kd.R (Kd.int .i64) 3 w' w.heap.size (fun k_ => some k_ ≠ (s_.1 : Value).ownBlock ∧ some k_ ≠ (s_.2.1 : Value).ownBlock ∧ some k_ ≠ (s_.2.2.1 : Value).ownBlock ∧ some k_ ≠ (.slice Ao42 t188.length co42 : Value).ownBlock ∧ some k_ ≠ (.slice Ao52 t221.length co52 : Value).ownBlock ∧ some k_ ≠ (.slice Ao62 t223.length co62 : Value).ownBlock) (.slice Ao74 t204.length co74) t226) ∧ (w'.heap[gb175]? = some (.cells #[.int .i64 a0_0, .slice A0_1 l0_1.length c0_1] 33 (0, 0))) ∧ (w'.heap[gb176]? = some (.cells #[.int .i64 a1_0, .slice A1_1 l1_1.length c1_1] 33 (0, 0))) ∧ (w'.heap[gb192]? = some (.cells #[.int .i64 t187, .slice Ao42 t188.length co42] 35 (0, 0))) ∧ (w'.heap[gb197]? = some (.cells #[.int .i64 t193, .slice Ao52 t221.length co52] 35 (0, 0))) ∧ (w'.heap[gb202]? = some (.cells #[.int .i64 t198, .slice Ao62 t223.length co62] 35 (0, 0))) ∧ (w'.heap[gb208]? = some (.cells #[.int .i64 t203, .slice Ao74 t204.length co74] 35 (0, 0))) ∧ (w'.heap[s_.2.2.2]? = some (.cells #[.int .i64 0, .slice none 0 0] 35 (0, 0))) ∧ (w.heap.size ≤ s_.2.2.2) ∧ (w.heap.size ≤ s_.2.2.2) ∧ (gb175 ≠ s_.2.2.2) ∧ (s_.2.2.2 ≠ gb175) ∧ (gb176 ≠ s_.2.2.2) ∧ (s_.2.2.2 ≠ gb176) ∧ (gb192 ≠ s_.2.2.2) ∧ (s_.2.2.2 ≠ gb192) ∧ (gb197 ≠ s_.2.2.2) ∧ (s_.2.2.2 ≠ gb197) ∧ (gb202 ≠ s_.2.2.2) ∧ (s_.2.2.2 ≠ gb202) ∧ (gb208 ≠ s_.2.2.2) ∧ (s_.2.2.2 ≠ gb208) ∧ (Below w.heap.size w w')) ?_ ?_
             rotate_left
             ·intro hCont
              refine two_ (i := 1) (j := 8) (Ni := some 96) (Nj := some 15) #[true, true, true, false, false, false, false, false, false, false, false] #[true, false, true, false, false, false, false, false, true, false, false] rfl rfl rfl rfl (two_of HT_.out (by kernel_rfl)) (by decide) (by decide) (fun K hK => ?_) (fun K hK => ?_)
              ·skip
               refine goes_ Try.func21 (by kernel_rfl) rfl #[.agg #[.int .i64 a0_0, .slice A0_1 l0_1.length c0_1]] (by rfl) rfl rfl (by (try simp only [List.map_toArray, List.map_cons, List.map_nil]); first | done | rfl | (simp only [List.length_drop, List.length_take]; rfl)) ?_
               with_reducible refine (laws_toLadder.calls kj97 a0_0 _ _ l0_1 t228 t229 _ ?side1 ?side2 A140.out).mono ?_
               (case side1 => repeat (first | exact (Kd.C_below HR0_1.out HB.out) | (with_reducible refine Kd.C_alloc ?_ _) | (with_reducible refine Kd.C_drewN ?_ _) | (with_reducible refine Kd.C_drew ?_)))
               (case side2 => exact HC0_1.out)
               rintro e w154 ⟨v230, rfl, ho0, hb⟩
               refine ⟨_, rfl, ?_⟩
               have HO231 := Aside0.mk (Kd.R_lower (Kd.R_new' (Kd.R_new' (Kd.R_new' (Kd.R_new' ho0 (Kd.R_lt (pR HO_193001))) (Kd.R_lt (pR HO_198001))) (Kd.R_lt (pR HO_203001))) (Kd.R_lt (pR HO_209001))) (below_size (pB HB)))
               replace HO_193001 := Aside0.mk (Kd.R_elder' (pR HO_193001) (Kd.R_base ho0) hb)
               replace HO_198001 := Aside0.mk (Kd.R_elder' (pR HO_198001) (Kd.R_base ho0) hb)
               replace HO_203001 := Aside0.mk (Kd.R_elder' (pR HO_203001) (Kd.R_base ho0) hb)
               replace HO_209001 := Aside0.mk (Kd.R_elder' (pR HO_209001) (Kd.R_base ho0) hb)
               replace BK175 := Aside0.mk (blk_below (pK BK175) hb)
               replace BK176 := Aside0.mk (blk_below (pK BK176) hb)
               replace BK192 := Aside0.mk (blk_below (pK BK192) hb)
               replace BK197 := Aside0.mk (blk_below (pK BK197) hb)
               replace BK202 := Aside0.mk (blk_below (pK BK202) hb)
               replace BK208 := Aside0.mk (blk_below (pK BK208) hb)
               replace HB := Aside0.mk (below_step (pB HB) hb)
               (try clear hb)
               (try clear hb2)
               (try clear hk)
               (try clear hi)
               (try clear ho0)
               refine hK.out _ _ ⟨(blk_cell BK175.out 0).trans rfl, (blk_cell BK175.out 1).trans rfl, (blk_cell BK176.out 0).trans rfl, (blk_cell BK176.out 1).trans rfl⟩ (fun hHeld => ?_)
               clear hK K
               refine norm_ (a' := ?_) ?_ ?_
               rotate_left
               ·show Act.put _ (some 96) _ = _
                simp only [Act.put, List.setIfInBounds_toArray, List.set_cons_zero, List.set_cons_succ, i64_w, i32_w]
                rfl
               refine two_ (i := 3) (j := 8) (Ni := some 98) (Nj := some 15) #[true, true, true, true, false, false, false, false, false, false, false] #[true, true, true, false, false, false, false, false, true, false, false] rfl rfl rfl rfl (two_of HT_.out (by kernel_rfl)) (by decide) (by decide) (fun K hK => ?_) (fun K hK => ?_)
               ·skip
                refine goes_ Try.func21 (by kernel_rfl) rfl #[.agg #[.int .i64 a1_0, .slice A1_1 l1_1.length c1_1]] (by rfl) rfl rfl (by (try simp only [List.map_toArray, List.map_cons, List.map_nil]); first | done | rfl | (simp only [List.length_drop, List.length_take]; rfl)) ?_
                with_reducible refine (laws_toLadder.calls kj97 a1_0 _ _ l1_1 t232 t233 _ ?side1 ?side2 A141.out).mono ?_
                (case side1 => repeat (first | exact (Kd.C_below HR1_1.out HB.out) | (with_reducible refine Kd.C_alloc ?_ _) | (with_reducible refine Kd.C_drewN ?_ _) | (with_reducible refine Kd.C_drew ?_)))
                (case side2 => exact HC1_1.out)
                rintro e w155 ⟨v234, rfl, ho0, hb⟩
                refine ⟨_, rfl, ?_⟩
                have HO235 := Aside0.mk (Kd.R_lower (Kd.R_new' (Kd.R_new' (Kd.R_new' (Kd.R_new' (Kd.R_new' ho0 (Kd.R_lt (pR HO_193001))) (Kd.R_lt (pR HO_198001))) (Kd.R_lt (pR HO_203001))) (Kd.R_lt (pR HO_209001))) (Kd.R_lt (pR HO231))) (below_size (pB HB)))
                replace HO_193001 := Aside0.mk (Kd.R_elder' (pR HO_193001) (Kd.R_base ho0) hb)
                replace HO_198001 := Aside0.mk (Kd.R_elder' (pR HO_198001) (Kd.R_base ho0) hb)
                replace HO_203001 := Aside0.mk (Kd.R_elder' (pR HO_203001) (Kd.R_base ho0) hb)
                replace HO_209001 := Aside0.mk (Kd.R_elder' (pR HO_209001) (Kd.R_base ho0) hb)
                replace HO231 := Aside0.mk (Kd.R_elder' (pR HO231) (Kd.R_base ho0) hb)
                replace BK175 := Aside0.mk (blk_below (pK BK175) hb)
                replace BK176 := Aside0.mk (blk_below (pK BK176) hb)
                replace BK192 := Aside0.mk (blk_below (pK BK192) hb)
                replace BK197 := Aside0.mk (blk_below (pK BK197) hb)
                replace BK202 := Aside0.mk (blk_below (pK BK202) hb)
                replace BK208 := Aside0.mk (blk_below (pK BK208) hb)
                replace HB := Aside0.mk (below_step (pB HB) hb)
                (try clear hb)
                (try clear hb2)
                (try clear hk)
                (try clear hi)
                (try clear ho0)
                obtain ⟨Ao156, co156, eo156⟩ := Kd.R_slice HO231.out
                (first | subst eo156 | (injection eo156 with f1_ f2_ f3_; have f4_ := f1_.symm; have f5_ := f3_.symm; clear f1_ f2_ f3_; subst f4_; subst f5_))
                obtain ⟨Ao157, co157, eo157⟩ := Kd.R_slice HO235.out
                (first | subst eo157 | (injection eo157 with f1_ f2_ f3_; have f4_ := f1_.symm; have f5_ := f3_.symm; clear f1_ f2_ f3_; subst f4_; subst f5_))
                refine hK.out _ _ ⟨(blk_cell BK175.out 0).trans rfl, (blk_cell BK175.out 1).trans rfl, (blk_cell BK176.out 0).trans rfl, (blk_cell BK176.out 1).trans rfl⟩ (fun hHeld => ?_)
                clear hK K
                refine norm_ (a' := ?_) ?_ ?_
                rotate_left
                ·show Act.put _ (some 98) _ = _
                 simp only [Act.put, List.setIfInBounds_toArray, List.set_cons_zero, List.set_cons_succ, i64_w, i32_w]
                 rfl
                refine two_ (i := 4) (j := 8) (Ni := some 99) (Nj := some 15) #[true, true, true, true, true, false, false, false, false, false, false] #[true, true, true, true, false, false, false, false, true, false, false] rfl rfl rfl rfl (two_of HT_.out (by kernel_rfl)) (by decide) (by decide) (fun K hK => ?_) (fun K hK => ?_)
                ·skip
                 refine goes_ Try.func22 (by kernel_rfl) rfl #[.agg #[.int .i64 t228, .slice Ao156 t229.length co156], .agg #[.int .i64 t232, .slice Ao157 t233.length co157]] (by rfl) rfl rfl (by (try simp only [List.map_toArray, List.map_cons, List.map_nil]); first | done | rfl | (simp only [List.length_drop, List.length_take]; rfl)) ?_
                 with_reducible refine (impl_BelowLadder.calls kj97 t228 (fun k_ => some k_ = (.slice Ao156 t229.length co156 : Value).ownBlock) _ _ t229 t232 (fun k_ => some k_ = (.slice Ao157 t233.length co157 : Value).ownBlock) _ _ t233 t236 t237 t240 _ ?side1 ?side2 A142.out).mono ?_
                 (case side1 => exact Kd.R_V (Kd.R_tight rfl (Kd.R_types (Kd.R_types (Kd.R_types (Kd.R_types (Kd.R_types (Kd.R_types (HO231.out) BK175.out (by decide)) BK176.out (by decide)) BK192.out (by decide)) BK197.out (by decide)) BK202.out (by decide)) BK208.out (by decide))))
                 (case side2 => exact Kd.R_V (Kd.R_tight rfl (Kd.R_types (Kd.R_types (Kd.R_types (Kd.R_types (Kd.R_types (Kd.R_types (HO235.out) BK175.out (by decide)) BK176.out (by decide)) BK192.out (by decide)) BK197.out (by decide)) BK202.out (by decide)) BK208.out (by decide))))
                 rintro e w158 ⟨v238, rfl, ho0, hb⟩
                 refine ⟨_, rfl, ?_⟩
                 have HO239 := Aside0.mk (Kd.R_lower (Kd.R_new' (Kd.R_new' (Kd.R_new' (Kd.R_new' (Kd.R_new' (Kd.R_new' (Kd.R_mono (ok' := fun k_ => True) ho0 (fun _ hk_ => trivial)) (Kd.R_lt (pR HO_193001))) (Kd.R_lt (pR HO_198001))) (Kd.R_lt (pR HO_203001))) (Kd.R_lt (pR HO_209001))) (Kd.R_lt (pR HO231))) (Kd.R_lt (pR HO235))) (below_size (pB HB)))
                 replace HO_193001 := Aside0.mk (Kd.R_elder' (pR HO_193001) (Kd.R_base ho0) hb)
                 replace HO_198001 := Aside0.mk (Kd.R_elder' (pR HO_198001) (Kd.R_base ho0) hb)
                 replace HO_203001 := Aside0.mk (Kd.R_elder' (pR HO_203001) (Kd.R_base ho0) hb)
                 replace HO_209001 := Aside0.mk (Kd.R_elder' (pR HO_209001) (Kd.R_base ho0) hb)
                 replace HO231 := Aside0.mk (Kd.R_elder' (pR HO231) (Kd.R_base ho0) hb)
                 replace HO235 := Aside0.mk (Kd.R_elder' (pR HO235) (Kd.R_base ho0) hb)
                 replace BK175 := Aside0.mk (blk_below (pK BK175) hb)
                 replace BK176 := Aside0.mk (blk_below (pK BK176) hb)
                 replace BK192 := Aside0.mk (blk_below (pK BK192) hb)
                 replace BK197 := Aside0.mk (blk_below (pK BK197) hb)
                 replace BK202 := Aside0.mk (blk_below (pK BK202) hb)
                 replace BK208 := Aside0.mk (blk_below (pK BK208) hb)
                 replace HB := Aside0.mk (below_step (pB HB) hb)
                 (try clear hb)
                 (try clear hb2)
                 (try clear hk)
                 (try clear hi)
                 (try clear ho0)
                 refine hK.out _ _ ⟨(blk_cell BK175.out 0).trans rfl, (blk_cell BK175.out 1).trans rfl, (blk_cell BK176.out 0).trans rfl, (blk_cell BK176.out 1).trans rfl⟩ (fun hHeld => ?_)
                 clear hK K
                 refine norm_ (a' := ?_) ?_ ?_
                 rotate_left
                 ·show Act.put _ (some 99) _ = _
                  simp only [Act.put, List.setIfInBounds_toArray, List.set_cons_zero, List.set_cons_succ, i64_w, i32_w]
                  rfl
                 refine pure_ (i := 5) (N := some 94) (v := ?_) (a' := ?_) #[true, true, true, true, true, true, false, false, false, false, false] rfl rfl (any_of HT_.out (by kernel_rfl)) (fun _ _ _ h => h) (Or.inl ⟨by rfl, ?_⟩) ?_ ?_
                 rotate_left
                 ·intro w'
                  go_simp
                  with_reducible rfl
                 rotate_left
                 ·simp only [Act.put, List.setIfInBounds_toArray, List.set_cons_zero, List.set_cons_succ, i64_w, i32_w]
                  rfl
                 refine pure_ (i := 6) (N := some 100) (v := ?_) (a' := ?_) #[true, true, true, true, true, true, true, false, false, false, false] rfl rfl (any_of HT_.out (by kernel_rfl)) (fun _ _ _ h => h) (Or.inl ⟨by rfl, ?_⟩) ?_ ?_
                 rotate_left
                 ·intro w'
                  go_simp
                  with_reducible rfl
                 rotate_left
                 ·simp only [Act.put, List.setIfInBounds_toArray, List.set_cons_zero, List.set_cons_succ, i64_w, i32_w]
                  rfl
                 refine pure_ (i := 7) (N := some 101) (v := ?_) (a' := ?_) #[true, true, true, true, true, true, true, true, false, false, false] rfl rfl (any_of HT_.out (by kernel_rfl)) (fun _ _ _ h => h) (Or.inl ⟨by rfl, ?_⟩) ?_ ?_
                 rotate_left
                 ·intro w'
                  go_simp
                  with_reducible rfl
                 rotate_left
                 ·simp only [Act.put, List.setIfInBounds_toArray, List.set_cons_zero, List.set_cons_succ, i64_w, i32_w]
                  rfl
                 refine one_ (i := 8) (N := some 15) #[true, true, true, true, true, true, true, true, true, false, false] rfl rfl (one_of HT_.out (by kernel_rfl)) (by decide) (fun K hK => ?_)
                 refine box_step ?hg (N := 15) ?hd (cs := #[.int .i64 0, .slice none 0 0]) (t := 35) ?hr ?_; (case hd => rfl); (case hg => rfl); (case hr => first | (go_simp; done) | (go_simp; rfl))
                 intro gb241 hg w159 hbox hb
                 have BK241 := Aside0.mk (hbox)
                 have GW241 := Aside0.mk ((by rw [hg]; exact (below_size (pB HB)) : w.heap.size ≤ gb241))
                 have GE241 := Aside0.mk ((by rw [hg]; exact (below_size (pB HB)) : w.heap.size ≤ gb241))
                 have NB175_241 := Aside0.mk ((by rw [hg]; exact Nat.ne_of_lt (blk_lt (pK BK175)) : gb175 ≠ gb241))
                 have NB241_175 := Aside0.mk ((by rw [hg]; exact Nat.ne_of_gt (blk_lt (pK BK175)) : gb241 ≠ gb175))
                 have NB176_241 := Aside0.mk ((by rw [hg]; exact Nat.ne_of_lt (blk_lt (pK BK176)) : gb176 ≠ gb241))
                 have NB241_176 := Aside0.mk ((by rw [hg]; exact Nat.ne_of_gt (blk_lt (pK BK176)) : gb241 ≠ gb176))
                 have NB192_241 := Aside0.mk ((by rw [hg]; exact Nat.ne_of_lt (blk_lt (pK BK192)) : gb192 ≠ gb241))
                 have NB241_192 := Aside0.mk ((by rw [hg]; exact Nat.ne_of_gt (blk_lt (pK BK192)) : gb241 ≠ gb192))
                 have NB197_241 := Aside0.mk ((by rw [hg]; exact Nat.ne_of_lt (blk_lt (pK BK197)) : gb197 ≠ gb241))
                 have NB241_197 := Aside0.mk ((by rw [hg]; exact Nat.ne_of_gt (blk_lt (pK BK197)) : gb241 ≠ gb197))
                 have NB202_241 := Aside0.mk ((by rw [hg]; exact Nat.ne_of_lt (blk_lt (pK BK202)) : gb202 ≠ gb241))
                 have NB241_202 := Aside0.mk ((by rw [hg]; exact Nat.ne_of_gt (blk_lt (pK BK202)) : gb241 ≠ gb202))
                 have NB208_241 := Aside0.mk ((by rw [hg]; exact Nat.ne_of_lt (blk_lt (pK BK208)) : gb208 ≠ gb241))
                 have NB241_208 := Aside0.mk ((by rw [hg]; exact Nat.ne_of_gt (blk_lt (pK BK208)) : gb241 ≠ gb208))
                 replace HO_193001 := Aside0.mk (Kd.R_below (pR HO_193001) hb)
                 replace HO_198001 := Aside0.mk (Kd.R_below (pR HO_198001) hb)
                 replace HO_203001 := Aside0.mk (Kd.R_below (pR HO_203001) hb)
                 replace HO_209001 := Aside0.mk (Kd.R_below (pR HO_209001) hb)
                 replace HO231 := Aside0.mk (Kd.R_below (pR HO231) hb)
                 replace HO235 := Aside0.mk (Kd.R_below (pR HO235) hb)
                 replace HO239 := Aside0.mk (Kd.R_below (pR HO239) hb)
                 replace BK175 := Aside0.mk (blk_below (pK BK175) hb)
                 replace BK176 := Aside0.mk (blk_below (pK BK176) hb)
                 replace BK192 := Aside0.mk (blk_below (pK BK192) hb)
                 replace BK197 := Aside0.mk (blk_below (pK BK197) hb)
                 replace BK202 := Aside0.mk (blk_below (pK BK202) hb)
                 replace BK208 := Aside0.mk (blk_below (pK BK208) hb)
                 replace HB := Aside0.mk (below_step (pB HB) hb)
                 clear hb hbox hg
                 refine hK.out _ _ ⟨(blk_cell BK175.out 0).trans rfl, (blk_cell BK175.out 1).trans rfl, (blk_cell BK176.out 0).trans rfl, (blk_cell BK176.out 1).trans rfl⟩ (fun hHeld => ?_)
                 clear hK K
                 refine norm_ (a' := ?_) ?_ ?_
                 rotate_left
                 ·show Act.put _ (some 15) _ = _
                  simp only [Act.put, List.setIfInBounds_toArray, List.set_cons_zero, List.set_cons_succ, i64_w, i32_w]
                  rfl
                 exact norm_ (by simp only [putAll, Act.put, List.setIfInBounds_toArray, List.set_cons_zero, List.set_cons_succ]) (hCont (.slice Ao156 t229.length co156, .slice Ao157 t233.length co157, v238, gb241) _ ⟨hHeld, (by (with_reducible repeat (first | apply Kd.R_alloc | apply Kd.R_drewN | apply Kd.R_drew)); exact Kd.R_mono HO231.out (fun _ hk => ⟨hk.1.2, ⟨hk.2, ⟨hk.1.1.1.1.1.2, ⟨hk.1.1.1.1.2, ⟨hk.1.1.1.2, hk.1.1.2⟩⟩⟩⟩⟩)), (by (with_reducible repeat (first | apply Kd.R_alloc | apply Kd.R_drewN | apply Kd.R_drew)); exact Kd.R_mono HO235.out (fun _ hk => ⟨hk.1.2, ⟨hk.2, ⟨hk.1.1.1.1.1.2, ⟨hk.1.1.1.1.2, ⟨hk.1.1.1.2, hk.1.1.2⟩⟩⟩⟩⟩)), (by (with_reducible repeat (first | apply Kd.R_alloc | apply Kd.R_drewN | apply Kd.R_drew)); exact Kd.R_mono HO239.out (fun _ hk => ⟨hk.1.2, ⟨hk.2, ⟨hk.1.1.1.1.1.2, ⟨hk.1.1.1.1.2, ⟨hk.1.1.1.2, hk.1.1.2⟩⟩⟩⟩⟩)), (by (with_reducible repeat (first | apply Kd.R_alloc | apply Kd.R_drewN | apply Kd.R_drew)); exact Kd.R_mono HO_193001.out (fun _ hk => ⟨hk.1.1.2, ⟨hk.1.2, ⟨hk.2, ⟨hk.1.1.1.1, ⟨hk.1.1.1.2.1, hk.1.1.1.2.2⟩⟩⟩⟩⟩)), (by (with_reducible repeat (first | apply Kd.R_alloc | apply Kd.R_drewN | apply Kd.R_drew)); exact Kd.R_mono HO_198001.out (fun _ hk => ⟨hk.1.1.2, ⟨hk.1.2, ⟨hk.2, ⟨hk.1.1.1.1, ⟨hk.1.1.1.2.1, hk.1.1.1.2.2⟩⟩⟩⟩⟩)), (by (with_reducible repeat (first | apply Kd.R_alloc | apply Kd.R_drewN | apply Kd.R_drew)); exact Kd.R_mono HO_203001.out (fun _ hk => ⟨hk.1.1.2, ⟨hk.1.2, ⟨hk.2, ⟨hk.1.1.1.1, ⟨hk.1.1.1.2.1, hk.1.1.1.2.2⟩⟩⟩⟩⟩)), (by (with_reducible repeat (first | apply Kd.R_alloc | apply Kd.R_drewN | apply Kd.R_drew)); exact Kd.R_mono HO_209001.out (fun _ hk => ⟨hk.1.1.2, ⟨hk.1.2, ⟨hk.2, ⟨hk.1.1.1.1, ⟨hk.1.1.1.2.1, hk.1.1.1.2.2⟩⟩⟩⟩⟩)), (pK BK175), (pK BK176), (pK BK192), (pK BK197), (pK BK202), (pK BK208), (pK BK241), GW241.out, GE241.out, NB175_241.out, NB241_175.out, NB176_241.out, NB241_176.out, NB192_241.out, NB241_192.out, NB197_241.out, NB241_197.out, NB202_241.out, NB241_202.out, NB208_241.out, NB241_208.out, (pB HB)⟩)
                ·skip
                 refine box_step ?hg (N := 15) ?hd (cs := #[.int .i64 0, .slice none 0 0]) (t := 35) ?hr ?_; (case hd => rfl); (case hg => rfl); (case hr => first | (go_simp; done) | (go_simp; rfl))
                 intro gb241 hg w156 hbox hb
                 have BK241 := Aside0.mk (hbox)
                 have GW241 := Aside0.mk ((by rw [hg]; exact (below_size (pB HB)) : w.heap.size ≤ gb241))
                 have GE241 := Aside0.mk ((by rw [hg]; exact (below_size (pB HB)) : w.heap.size ≤ gb241))
                 have NB175_241 := Aside0.mk ((by rw [hg]; exact Nat.ne_of_lt (blk_lt (pK BK175)) : gb175 ≠ gb241))
                 have NB241_175 := Aside0.mk ((by rw [hg]; exact Nat.ne_of_gt (blk_lt (pK BK175)) : gb241 ≠ gb175))
                 have NB176_241 := Aside0.mk ((by rw [hg]; exact Nat.ne_of_lt (blk_lt (pK BK176)) : gb176 ≠ gb241))
                 have NB241_176 := Aside0.mk ((by rw [hg]; exact Nat.ne_of_gt (blk_lt (pK BK176)) : gb241 ≠ gb176))
                 have NB192_241 := Aside0.mk ((by rw [hg]; exact Nat.ne_of_lt (blk_lt (pK BK192)) : gb192 ≠ gb241))
                 have NB241_192 := Aside0.mk ((by rw [hg]; exact Nat.ne_of_gt (blk_lt (pK BK192)) : gb241 ≠ gb192))
                 have NB197_241 := Aside0.mk ((by rw [hg]; exact Nat.ne_of_lt (blk_lt (pK BK197)) : gb197 ≠ gb241))
                 have NB241_197 := Aside0.mk ((by rw [hg]; exact Nat.ne_of_gt (blk_lt (pK BK197)) : gb241 ≠ gb197))
                 have NB202_241 := Aside0.mk ((by rw [hg]; exact Nat.ne_of_lt (blk_lt (pK BK202)) : gb202 ≠ gb241))
                 have NB241_202 := Aside0.mk ((by rw [hg]; exact Nat.ne_of_gt (blk_lt (pK BK202)) : gb241 ≠ gb202))
                 have NB208_241 := Aside0.mk ((by rw [hg]; exact Nat.ne_of_lt (blk_lt (pK BK208)) : gb208 ≠ gb241))
                 have NB241_208 := Aside0.mk ((by rw [hg]; exact Nat.ne_of_gt (blk_lt (pK BK208)) : gb241 ≠ gb208))
                 replace HO_193001 := Aside0.mk (Kd.R_below (pR HO_193001) hb)
                 replace HO_198001 := Aside0.mk (Kd.R_below (pR HO_198001) hb)
                 replace HO_203001 := Aside0.mk (Kd.R_below (pR HO_203001) hb)
                 replace HO_209001 := Aside0.mk (Kd.R_below (pR HO_209001) hb)
                 replace HO231 := Aside0.mk (Kd.R_below (pR HO231) hb)
                 replace HO235 := Aside0.mk (Kd.R_below (pR HO235) hb)
                 replace BK175 := Aside0.mk (blk_below (pK BK175) hb)
                 replace BK176 := Aside0.mk (blk_below (pK BK176) hb)
                 replace BK192 := Aside0.mk (blk_below (pK BK192) hb)
                 replace BK197 := Aside0.mk (blk_below (pK BK197) hb)
                 replace BK202 := Aside0.mk (blk_below (pK BK202) hb)
                 replace BK208 := Aside0.mk (blk_below (pK BK208) hb)
                 replace HB := Aside0.mk (below_step (pB HB) hb)
                 clear hb hbox hg
                 obtain ⟨Ao157, co157, eo157⟩ := Kd.R_slice HO231.out
                 (first | subst eo157 | (injection eo157 with f1_ f2_ f3_; have f4_ := f1_.symm; have f5_ := f3_.symm; clear f1_ f2_ f3_; subst f4_; subst f5_))
                 obtain ⟨Ao158, co158, eo158⟩ := Kd.R_slice HO235.out
                 (first | subst eo158 | (injection eo158 with f1_ f2_ f3_; have f4_ := f1_.symm; have f5_ := f3_.symm; clear f1_ f2_ f3_; subst f4_; subst f5_))
                 refine hK.out _ _ ⟨(blk_cell BK175.out 0).trans rfl, (blk_cell BK175.out 1).trans rfl, (blk_cell BK176.out 0).trans rfl, (blk_cell BK176.out 1).trans rfl⟩ (fun hHeld => ?_)
                 clear hK K
                 refine norm_ (a' := ?_) ?_ ?_
                 rotate_left
                 ·show Act.put _ (some 15) _ = _
                  simp only [Act.put, List.setIfInBounds_toArray, List.set_cons_zero, List.set_cons_succ, i64_w, i32_w]
                  rfl
                 refine one_ (i := 4) (N := some 99) #[true, true, true, true, true, false, false, false, true, false, false] rfl rfl (one_of HT_.out (by kernel_rfl)) (by decide) (fun K hK => ?_)
                 refine goes_ Try.func22 (by kernel_rfl) rfl #[.agg #[.int .i64 t228, .slice Ao157 t229.length co157], .agg #[.int .i64 t232, .slice Ao158 t233.length co158]] (by rfl) rfl rfl (by (try simp only [List.map_toArray, List.map_cons, List.map_nil]); first | done | rfl | (simp only [List.length_drop, List.length_take]; rfl)) ?_
                 with_reducible refine (impl_BelowLadder.calls kj97 t228 (fun k_ => some k_ = (.slice Ao157 t229.length co157 : Value).ownBlock) _ _ t229 t232 (fun k_ => some k_ = (.slice Ao158 t233.length co158 : Value).ownBlock) _ _ t233 t236 t237 t240 _ ?side1 ?side2 A142.out).mono ?_
                 (case side1 => exact Kd.R_V (Kd.R_tight rfl (Kd.R_types (Kd.R_types (Kd.R_types (Kd.R_types (Kd.R_types (Kd.R_types (Kd.R_types (HO231.out) BK175.out (by decide)) BK176.out (by decide)) BK192.out (by decide)) BK197.out (by decide)) BK202.out (by decide)) BK208.out (by decide)) BK241.out (by decide))))
                 (case side2 => exact Kd.R_V (Kd.R_tight rfl (Kd.R_types (Kd.R_types (Kd.R_types (Kd.R_types (Kd.R_types (Kd.R_types (Kd.R_types (HO235.out) BK175.out (by decide)) BK176.out (by decide)) BK192.out (by decide)) BK197.out (by decide)) BK202.out (by decide)) BK208.out (by decide)) BK241.out (by decide))))
                 rintro e w159 ⟨v238, rfl, ho0, hb⟩
                 refine ⟨_, rfl, ?_⟩
                 have HO239 := Aside0.mk (Kd.R_lower (Kd.R_new' (Kd.R_new' (Kd.R_new' (Kd.R_new' (Kd.R_new' (Kd.R_new' (Kd.R_mono (ok' := fun k_ => True) ho0 (fun _ hk_ => trivial)) (Kd.R_lt (pR HO_193001))) (Kd.R_lt (pR HO_198001))) (Kd.R_lt (pR HO_203001))) (Kd.R_lt (pR HO_209001))) (Kd.R_lt (pR HO231))) (Kd.R_lt (pR HO235))) (below_size (pB HB)))
                 replace HO_193001 := Aside0.mk (Kd.R_elder' (pR HO_193001) (Kd.R_base ho0) hb)
                 replace HO_198001 := Aside0.mk (Kd.R_elder' (pR HO_198001) (Kd.R_base ho0) hb)
                 replace HO_203001 := Aside0.mk (Kd.R_elder' (pR HO_203001) (Kd.R_base ho0) hb)
                 replace HO_209001 := Aside0.mk (Kd.R_elder' (pR HO_209001) (Kd.R_base ho0) hb)
                 replace HO231 := Aside0.mk (Kd.R_elder' (pR HO231) (Kd.R_base ho0) hb)
                 replace HO235 := Aside0.mk (Kd.R_elder' (pR HO235) (Kd.R_base ho0) hb)
                 replace BK175 := Aside0.mk (blk_below (pK BK175) hb)
                 replace BK176 := Aside0.mk (blk_below (pK BK176) hb)
                 replace BK192 := Aside0.mk (blk_below (pK BK192) hb)
                 replace BK197 := Aside0.mk (blk_below (pK BK197) hb)
                 replace BK202 := Aside0.mk (blk_below (pK BK202) hb)
                 replace BK208 := Aside0.mk (blk_below (pK BK208) hb)
                 replace BK241 := Aside0.mk (blk_below (pK BK241) hb)
                 replace HB := Aside0.mk (below_step (pB HB) hb)
                 (try clear hb)
                 (try clear hb2)
                 (try clear hk)
                 (try clear hi)
                 (try clear ho0)
                 refine hK.out _ _ ⟨(blk_cell BK175.out 0).trans rfl, (blk_cell BK175.out 1).trans rfl, (blk_cell BK176.out 0).trans rfl, (blk_cell BK176.out 1).trans rfl⟩ (fun hHeld => ?_)
                 clear hK K
                 refine norm_ (a' := ?_) ?_ ?_
                 rotate_left
                 ·show Act.put _ (some 99) _ = _
                  simp only [Act.put, List.setIfInBounds_toArray, List.set_cons_zero, List.set_cons_succ, i64_w, i32_w]
                  rfl
                 refine pure_ (i := 5) (N := some 94) (v := ?_) (a' := ?_) #[true, true, true, true, true, true, false, false, true, false, false] rfl rfl (any_of HT_.out (by kernel_rfl)) (fun _ _ _ h => h) (Or.inl ⟨by rfl, ?_⟩) ?_ ?_
                 rotate_left
                 ·intro w'
                  go_simp
                  with_reducible rfl
                 rotate_left
                 ·simp only [Act.put, List.setIfInBounds_toArray, List.set_cons_zero, List.set_cons_succ, i64_w, i32_w]
                  rfl
                 refine pure_ (i := 6) (N := some 100) (v := ?_) (a' := ?_) #[true, true, true, true, true, true, true, false, true, false, false] rfl rfl (any_of HT_.out (by kernel_rfl)) (fun _ _ _ h => h) (Or.inl ⟨by rfl, ?_⟩) ?_ ?_
                 rotate_left
                 ·intro w'
                  go_simp
                  with_reducible rfl
                 rotate_left
                 ·simp only [Act.put, List.setIfInBounds_toArray, List.set_cons_zero, List.set_cons_succ, i64_w, i32_w]
                  rfl
                 refine pure_ (i := 7) (N := some 101) (v := ?_) (a' := ?_) #[true, true, true, true, true, true, true, true, true, false, false] rfl rfl (any_of HT_.out (by kernel_rfl)) (fun _ _ _ h => h) (Or.inl ⟨by rfl, ?_⟩) ?_ ?_
                 rotate_left
                 ·intro w'
                  go_simp
                  with_reducible rfl
                 rotate_left
                 ·simp only [Act.put, List.setIfInBounds_toArray, List.set_cons_zero, List.set_cons_succ, i64_w, i32_w]
                  rfl
                 exact norm_ (by simp only [putAll, Act.put, List.setIfInBounds_toArray, List.set_cons_zero, List.set_cons_succ]) (hCont (.slice Ao157 t229.length co157, .slice Ao158 t233.length co158, v238, gb241) _ ⟨hHeld, (by (with_reducible repeat (first | apply Kd.R_alloc | apply Kd.R_drewN | apply Kd.R_drew)); exact Kd.R_mono HO231.out (fun _ hk => ⟨hk.1.2, ⟨hk.2, ⟨hk.1.1.1.1.1.2, ⟨hk.1.1.1.1.2, ⟨hk.1.1.1.2, hk.1.1.2⟩⟩⟩⟩⟩)), (by (with_reducible repeat (first | apply Kd.R_alloc | apply Kd.R_drewN | apply Kd.R_drew)); exact Kd.R_mono HO235.out (fun _ hk => ⟨hk.1.2, ⟨hk.2, ⟨hk.1.1.1.1.1.2, ⟨hk.1.1.1.1.2, ⟨hk.1.1.1.2, hk.1.1.2⟩⟩⟩⟩⟩)), (by (with_reducible repeat (first | apply Kd.R_alloc | apply Kd.R_drewN | apply Kd.R_drew)); exact Kd.R_mono HO239.out (fun _ hk => ⟨hk.1.2, ⟨hk.2, ⟨hk.1.1.1.1.1.2, ⟨hk.1.1.1.1.2, ⟨hk.1.1.1.2, hk.1.1.2⟩⟩⟩⟩⟩)), (by (with_reducible repeat (first | apply Kd.R_alloc | apply Kd.R_drewN | apply Kd.R_drew)); exact Kd.R_mono HO_193001.out (fun _ hk => ⟨hk.1.1.2, ⟨hk.1.2, ⟨hk.2, ⟨hk.1.1.1.1, ⟨hk.1.1.1.2.1, hk.1.1.1.2.2⟩⟩⟩⟩⟩)), (by (with_reducible repeat (first | apply Kd.R_alloc | apply Kd.R_drewN | apply Kd.R_drew)); exact Kd.R_mono HO_198001.out (fun _ hk => ⟨hk.1.1.2, ⟨hk.1.2, ⟨hk.2, ⟨hk.1.1.1.1, ⟨hk.1.1.1.2.1, hk.1.1.1.2.2⟩⟩⟩⟩⟩)), (by (with_reducible repeat (first | apply Kd.R_alloc | apply Kd.R_drewN | apply Kd.R_drew)); exact Kd.R_mono HO_203001.out (fun _ hk => ⟨hk.1.1.2, ⟨hk.1.2, ⟨hk.2, ⟨hk.1.1.1.1, ⟨hk.1.1.1.2.1, hk.1.1.1.2.2⟩⟩⟩⟩⟩)), (by (with_reducible repeat (first | apply Kd.R_alloc | apply Kd.R_drewN | apply Kd.R_drew)); exact Kd.R_mono HO_209001.out (fun _ hk => ⟨hk.1.1.2, ⟨hk.1.2, ⟨hk.2, ⟨hk.1.1.1.1, ⟨hk.1.1.1.2.1, hk.1.1.1.2.2⟩⟩⟩⟩⟩)), (pK BK175), (pK BK176), (pK BK192), (pK BK197), (pK BK202), (pK BK208), (pK BK241), GW241.out, GE241.out, NB175_241.out, NB241_175.out, NB176_241.out, NB241_176.out, NB192_241.out, NB241_192.out, NB197_241.out, NB241_197.out, NB202_241.out, NB241_202.out, NB208_241.out, NB241_208.out, (pB HB)⟩)
               ·skip
                refine box_step ?hg (N := 15) ?hd (cs := #[.int .i64 0, .slice none 0 0]) (t := 35) ?hr ?_; (case hd => rfl); (case hg => rfl); (case hr => first | (go_simp; done) | (go_simp; rfl))
                intro gb241 hg w155 hbox hb
                have BK241 := Aside0.mk (hbox)
                have GW241 := Aside0.mk ((by rw [hg]; exact (below_size (pB HB)) : w.heap.size ≤ gb241))
                have GE241 := Aside0.mk ((by rw [hg]; exact (below_size (pB HB)) : w.heap.size ≤ gb241))
                have NB175_241 := Aside0.mk ((by rw [hg]; exact Nat.ne_of_lt (blk_lt (pK BK175)) : gb175 ≠ gb241))
                have NB241_175 := Aside0.mk ((by rw [hg]; exact Nat.ne_of_gt (blk_lt (pK BK175)) : gb241 ≠ gb175))
                have NB176_241 := Aside0.mk ((by rw [hg]; exact Nat.ne_of_lt (blk_lt (pK BK176)) : gb176 ≠ gb241))
                have NB241_176 := Aside0.mk ((by rw [hg]; exact Nat.ne_of_gt (blk_lt (pK BK176)) : gb241 ≠ gb176))
                have NB192_241 := Aside0.mk ((by rw [hg]; exact Nat.ne_of_lt (blk_lt (pK BK192)) : gb192 ≠ gb241))
                have NB241_192 := Aside0.mk ((by rw [hg]; exact Nat.ne_of_gt (blk_lt (pK BK192)) : gb241 ≠ gb192))
                have NB197_241 := Aside0.mk ((by rw [hg]; exact Nat.ne_of_lt (blk_lt (pK BK197)) : gb197 ≠ gb241))
                have NB241_197 := Aside0.mk ((by rw [hg]; exact Nat.ne_of_gt (blk_lt (pK BK197)) : gb241 ≠ gb197))
                have NB202_241 := Aside0.mk ((by rw [hg]; exact Nat.ne_of_lt (blk_lt (pK BK202)) : gb202 ≠ gb241))
                have NB241_202 := Aside0.mk ((by rw [hg]; exact Nat.ne_of_gt (blk_lt (pK BK202)) : gb241 ≠ gb202))
                have NB208_241 := Aside0.mk ((by rw [hg]; exact Nat.ne_of_lt (blk_lt (pK BK208)) : gb208 ≠ gb241))
                have NB241_208 := Aside0.mk ((by rw [hg]; exact Nat.ne_of_gt (blk_lt (pK BK208)) : gb241 ≠ gb208))
                replace HO_193001 := Aside0.mk (Kd.R_below (pR HO_193001) hb)
                replace HO_198001 := Aside0.mk (Kd.R_below (pR HO_198001) hb)
                replace HO_203001 := Aside0.mk (Kd.R_below (pR HO_203001) hb)
                replace HO_209001 := Aside0.mk (Kd.R_below (pR HO_209001) hb)
                replace HO231 := Aside0.mk (Kd.R_below (pR HO231) hb)
                replace BK175 := Aside0.mk (blk_below (pK BK175) hb)
                replace BK176 := Aside0.mk (blk_below (pK BK176) hb)
                replace BK192 := Aside0.mk (blk_below (pK BK192) hb)
                replace BK197 := Aside0.mk (blk_below (pK BK197) hb)
                replace BK202 := Aside0.mk (blk_below (pK BK202) hb)
                replace BK208 := Aside0.mk (blk_below (pK BK208) hb)
                replace HB := Aside0.mk (below_step (pB HB) hb)
                clear hb hbox hg
                refine hK.out _ _ ⟨(blk_cell BK175.out 0).trans rfl, (blk_cell BK175.out 1).trans rfl, (blk_cell BK176.out 0).trans rfl, (blk_cell BK176.out 1).trans rfl⟩ (fun hHeld => ?_)
                clear hK K
                refine norm_ (a' := ?_) ?_ ?_
                rotate_left
                ·show Act.put _ (some 15) _ = _
                 simp only [Act.put, List.setIfInBounds_toArray, List.set_cons_zero, List.set_cons_succ, i64_w, i32_w]
                 rfl
                refine one_ (i := 3) (N := some 98) #[true, true, true, true, false, false, false, false, true, false, false] rfl rfl (one_of HT_.out (by kernel_rfl)) (by decide) (fun K hK => ?_)
                refine goes_ Try.func21 (by kernel_rfl) rfl #[.agg #[.int .i64 a1_0, .slice A1_1 l1_1.length c1_1]] (by rfl) rfl rfl (by (try simp only [List.map_toArray, List.map_cons, List.map_nil]); first | done | rfl | (simp only [List.length_drop, List.length_take]; rfl)) ?_
                with_reducible refine (laws_toLadder.calls kj97 a1_0 _ _ l1_1 t232 t233 _ ?side1 ?side2 A141.out).mono ?_
                (case side1 => repeat (first | exact (Kd.C_below HR1_1.out HB.out) | (with_reducible refine Kd.C_alloc ?_ _) | (with_reducible refine Kd.C_drewN ?_ _) | (with_reducible refine Kd.C_drew ?_)))
                (case side2 => exact HC1_1.out)
                rintro e w156 ⟨v234, rfl, ho0, hb⟩
                refine ⟨_, rfl, ?_⟩
                have HO235 := Aside0.mk (Kd.R_lower (Kd.R_new' (Kd.R_new' (Kd.R_new' (Kd.R_new' (Kd.R_new' ho0 (Kd.R_lt (pR HO_193001))) (Kd.R_lt (pR HO_198001))) (Kd.R_lt (pR HO_203001))) (Kd.R_lt (pR HO_209001))) (Kd.R_lt (pR HO231))) (below_size (pB HB)))
                replace HO_193001 := Aside0.mk (Kd.R_elder' (pR HO_193001) (Kd.R_base ho0) hb)
                replace HO_198001 := Aside0.mk (Kd.R_elder' (pR HO_198001) (Kd.R_base ho0) hb)
                replace HO_203001 := Aside0.mk (Kd.R_elder' (pR HO_203001) (Kd.R_base ho0) hb)
                replace HO_209001 := Aside0.mk (Kd.R_elder' (pR HO_209001) (Kd.R_base ho0) hb)
                replace HO231 := Aside0.mk (Kd.R_elder' (pR HO231) (Kd.R_base ho0) hb)
                replace BK175 := Aside0.mk (blk_below (pK BK175) hb)
                replace BK176 := Aside0.mk (blk_below (pK BK176) hb)
                replace BK192 := Aside0.mk (blk_below (pK BK192) hb)
                replace BK197 := Aside0.mk (blk_below (pK BK197) hb)
                replace BK202 := Aside0.mk (blk_below (pK BK202) hb)
                replace BK208 := Aside0.mk (blk_below (pK BK208) hb)
                replace BK241 := Aside0.mk (blk_below (pK BK241) hb)
                replace HB := Aside0.mk (below_step (pB HB) hb)
                (try clear hb)
                (try clear hb2)
                (try clear hk)
                (try clear hi)
                (try clear ho0)
                obtain ⟨Ao157, co157, eo157⟩ := Kd.R_slice HO231.out
                (first | subst eo157 | (injection eo157 with f1_ f2_ f3_; have f4_ := f1_.symm; have f5_ := f3_.symm; clear f1_ f2_ f3_; subst f4_; subst f5_))
                obtain ⟨Ao158, co158, eo158⟩ := Kd.R_slice HO235.out
                (first | subst eo158 | (injection eo158 with f1_ f2_ f3_; have f4_ := f1_.symm; have f5_ := f3_.symm; clear f1_ f2_ f3_; subst f4_; subst f5_))
                refine hK.out _ _ ⟨(blk_cell BK175.out 0).trans rfl, (blk_cell BK175.out 1).trans rfl, (blk_cell BK176.out 0).trans rfl, (blk_cell BK176.out 1).trans rfl⟩ (fun hHeld => ?_)
                clear hK K
                refine norm_ (a' := ?_) ?_ ?_
                rotate_left
                ·show Act.put _ (some 98) _ = _
                 simp only [Act.put, List.setIfInBounds_toArray, List.set_cons_zero, List.set_cons_succ, i64_w, i32_w]
                 rfl
                refine one_ (i := 4) (N := some 99) #[true, true, true, true, true, false, false, false, true, false, false] rfl rfl (one_of HT_.out (by kernel_rfl)) (by decide) (fun K hK => ?_)
                refine goes_ Try.func22 (by kernel_rfl) rfl #[.agg #[.int .i64 t228, .slice Ao157 t229.length co157], .agg #[.int .i64 t232, .slice Ao158 t233.length co158]] (by rfl) rfl rfl (by (try simp only [List.map_toArray, List.map_cons, List.map_nil]); first | done | rfl | (simp only [List.length_drop, List.length_take]; rfl)) ?_
                with_reducible refine (impl_BelowLadder.calls kj97 t228 (fun k_ => some k_ = (.slice Ao157 t229.length co157 : Value).ownBlock) _ _ t229 t232 (fun k_ => some k_ = (.slice Ao158 t233.length co158 : Value).ownBlock) _ _ t233 t236 t237 t240 _ ?side1 ?side2 A142.out).mono ?_
                (case side1 => exact Kd.R_V (Kd.R_tight rfl (Kd.R_types (Kd.R_types (Kd.R_types (Kd.R_types (Kd.R_types (Kd.R_types (Kd.R_types (HO231.out) BK175.out (by decide)) BK176.out (by decide)) BK192.out (by decide)) BK197.out (by decide)) BK202.out (by decide)) BK208.out (by decide)) BK241.out (by decide))))
                (case side2 => exact Kd.R_V (Kd.R_tight rfl (Kd.R_types (Kd.R_types (Kd.R_types (Kd.R_types (Kd.R_types (Kd.R_types (Kd.R_types (HO235.out) BK175.out (by decide)) BK176.out (by decide)) BK192.out (by decide)) BK197.out (by decide)) BK202.out (by decide)) BK208.out (by decide)) BK241.out (by decide))))
                rintro e w159 ⟨v238, rfl, ho0, hb⟩
                refine ⟨_, rfl, ?_⟩
                have HO239 := Aside0.mk (Kd.R_lower (Kd.R_new' (Kd.R_new' (Kd.R_new' (Kd.R_new' (Kd.R_new' (Kd.R_new' (Kd.R_mono (ok' := fun k_ => True) ho0 (fun _ hk_ => trivial)) (Kd.R_lt (pR HO_193001))) (Kd.R_lt (pR HO_198001))) (Kd.R_lt (pR HO_203001))) (Kd.R_lt (pR HO_209001))) (Kd.R_lt (pR HO231))) (Kd.R_lt (pR HO235))) (below_size (pB HB)))
                replace HO_193001 := Aside0.mk (Kd.R_elder' (pR HO_193001) (Kd.R_base ho0) hb)
                replace HO_198001 := Aside0.mk (Kd.R_elder' (pR HO_198001) (Kd.R_base ho0) hb)
                replace HO_203001 := Aside0.mk (Kd.R_elder' (pR HO_203001) (Kd.R_base ho0) hb)
                replace HO_209001 := Aside0.mk (Kd.R_elder' (pR HO_209001) (Kd.R_base ho0) hb)
                replace HO231 := Aside0.mk (Kd.R_elder' (pR HO231) (Kd.R_base ho0) hb)
                replace HO235 := Aside0.mk (Kd.R_elder' (pR HO235) (Kd.R_base ho0) hb)
                replace BK175 := Aside0.mk (blk_below (pK BK175) hb)
                replace BK176 := Aside0.mk (blk_below (pK BK176) hb)
                replace BK192 := Aside0.mk (blk_below (pK BK192) hb)
                replace BK197 := Aside0.mk (blk_below (pK BK197) hb)
                replace BK202 := Aside0.mk (blk_below (pK BK202) hb)
                replace BK208 := Aside0.mk (blk_below (pK BK208) hb)
                replace BK241 := Aside0.mk (blk_below (pK BK241) hb)
                replace HB := Aside0.mk (below_step (pB HB) hb)
                (try clear hb)
                (try clear hb2)
                (try clear hk)
                (try clear hi)
                (try clear ho0)
                refine hK.out _ _ ⟨(blk_cell BK175.out 0).trans rfl, (blk_cell BK175.out 1).trans rfl, (blk_cell BK176.out 0).trans rfl, (blk_cell BK176.out 1).trans rfl⟩ (fun hHeld => ?_)
                clear hK K
                refine norm_ (a' := ?_) ?_ ?_
                rotate_left
                ·show Act.put _ (some 99) _ = _
                 simp only [Act.put, List.setIfInBounds_toArray, List.set_cons_zero, List.set_cons_succ, i64_w, i32_w]
                 rfl
                refine pure_ (i := 5) (N := some 94) (v := ?_) (a' := ?_) #[true, true, true, true, true, true, false, false, true, false, false] rfl rfl (any_of HT_.out (by kernel_rfl)) (fun _ _ _ h => h) (Or.inl ⟨by rfl, ?_⟩) ?_ ?_
                rotate_left
                ·intro w'
                 go_simp
                 with_reducible rfl
                rotate_left
                ·simp only [Act.put, List.setIfInBounds_toArray, List.set_cons_zero, List.set_cons_succ, i64_w, i32_w]
                 rfl
                refine pure_ (i := 6) (N := some 100) (v := ?_) (a' := ?_) #[true, true, true, true, true, true, true, false, true, false, false] rfl rfl (any_of HT_.out (by kernel_rfl)) (fun _ _ _ h => h) (Or.inl ⟨by rfl, ?_⟩) ?_ ?_
                rotate_left
                ·intro w'
                 go_simp
                 with_reducible rfl
                rotate_left
                ·simp only [Act.put, List.setIfInBounds_toArray, List.set_cons_zero, List.set_cons_succ, i64_w, i32_w]
                 rfl
                refine pure_ (i := 7) (N := some 101) (v := ?_) (a' := ?_) #[true, true, true, true, true, true, true, true, true, false, false] rfl rfl (any_of HT_.out (by kernel_rfl)) (fun _ _ _ h => h) (Or.inl ⟨by rfl, ?_⟩) ?_ ?_
                rotate_left
                ·intro w'
                 go_simp
                 with_reducible rfl
                rotate_left
                ·simp only [Act.put, List.setIfInBounds_toArray, List.set_cons_zero, List.set_cons_succ, i64_w, i32_w]
                 rfl
                exact norm_ (by simp only [putAll, Act.put, List.setIfInBounds_toArray, List.set_cons_zero, List.set_cons_succ]) (hCont (.slice Ao157 t229.length co157, .slice Ao158 t233.length co158, v238, gb241) _ ⟨hHeld, (by (with_reducible repeat (first | apply Kd.R_alloc | apply Kd.R_drewN | apply Kd.R_drew)); exact Kd.R_mono HO231.out (fun _ hk => ⟨hk.1.2, ⟨hk.2, ⟨hk.1.1.1.1.1.2, ⟨hk.1.1.1.1.2, ⟨hk.1.1.1.2, hk.1.1.2⟩⟩⟩⟩⟩)), (by (with_reducible repeat (first | apply Kd.R_alloc | apply Kd.R_drewN | apply Kd.R_drew)); exact Kd.R_mono HO235.out (fun _ hk => ⟨hk.1.2, ⟨hk.2, ⟨hk.1.1.1.1.1.2, ⟨hk.1.1.1.1.2, ⟨hk.1.1.1.2, hk.1.1.2⟩⟩⟩⟩⟩)), (by (with_reducible repeat (first | apply Kd.R_alloc | apply Kd.R_drewN | apply Kd.R_drew)); exact Kd.R_mono HO239.out (fun _ hk => ⟨hk.1.2, ⟨hk.2, ⟨hk.1.1.1.1.1.2, ⟨hk.1.1.1.1.2, ⟨hk.1.1.1.2, hk.1.1.2⟩⟩⟩⟩⟩)), (by (with_reducible repeat (first | apply Kd.R_alloc | apply Kd.R_drewN | apply Kd.R_drew)); exact Kd.R_mono HO_193001.out (fun _ hk => ⟨hk.1.1.2, ⟨hk.1.2, ⟨hk.2, ⟨hk.1.1.1.1, ⟨hk.1.1.1.2.1, hk.1.1.1.2.2⟩⟩⟩⟩⟩)), (by (with_reducible repeat (first | apply Kd.R_alloc | apply Kd.R_drewN | apply Kd.R_drew)); exact Kd.R_mono HO_198001.out (fun _ hk => ⟨hk.1.1.2, ⟨hk.1.2, ⟨hk.2, ⟨hk.1.1.1.1, ⟨hk.1.1.1.2.1, hk.1.1.1.2.2⟩⟩⟩⟩⟩)), (by (with_reducible repeat (first | apply Kd.R_alloc | apply Kd.R_drewN | apply Kd.R_drew)); exact Kd.R_mono HO_203001.out (fun _ hk => ⟨hk.1.1.2, ⟨hk.1.2, ⟨hk.2, ⟨hk.1.1.1.1, ⟨hk.1.1.1.2.1, hk.1.1.1.2.2⟩⟩⟩⟩⟩)), (by (with_reducible repeat (first | apply Kd.R_alloc | apply Kd.R_drewN | apply Kd.R_drew)); exact Kd.R_mono HO_209001.out (fun _ hk => ⟨hk.1.1.2, ⟨hk.1.2, ⟨hk.2, ⟨hk.1.1.1.1, ⟨hk.1.1.1.2.1, hk.1.1.1.2.2⟩⟩⟩⟩⟩)), (pK BK175), (pK BK176), (pK BK192), (pK BK197), (pK BK202), (pK BK208), (pK BK241), GW241.out, GE241.out, NB175_241.out, NB241_175.out, NB176_241.out, NB241_176.out, NB192_241.out, NB241_192.out, NB197_241.out, NB241_197.out, NB202_241.out, NB241_202.out, NB208_241.out, NB241_208.out, (pB HB)⟩)
              ·skip
               refine box_step ?hg (N := 15) ?hd (cs := #[.int .i64 0, .slice none 0 0]) (t := 35) ?hr ?_; (case hd => rfl); (case hg => rfl); (case hr => first | (go_simp; done) | (go_simp; rfl))
               intro gb241 hg w154 hbox hb
               have BK241 := Aside0.mk (hbox)
               have GW241 := Aside0.mk ((by rw [hg]; exact (below_size (pB HB)) : w.heap.size ≤ gb241))
               have GE241 := Aside0.mk ((by rw [hg]; exact (below_size (pB HB)) : w.heap.size ≤ gb241))
               have NB175_241 := Aside0.mk ((by rw [hg]; exact Nat.ne_of_lt (blk_lt (pK BK175)) : gb175 ≠ gb241))
               have NB241_175 := Aside0.mk ((by rw [hg]; exact Nat.ne_of_gt (blk_lt (pK BK175)) : gb241 ≠ gb175))
               have NB176_241 := Aside0.mk ((by rw [hg]; exact Nat.ne_of_lt (blk_lt (pK BK176)) : gb176 ≠ gb241))
               have NB241_176 := Aside0.mk ((by rw [hg]; exact Nat.ne_of_gt (blk_lt (pK BK176)) : gb241 ≠ gb176))
               have NB192_241 := Aside0.mk ((by rw [hg]; exact Nat.ne_of_lt (blk_lt (pK BK192)) : gb192 ≠ gb241))
               have NB241_192 := Aside0.mk ((by rw [hg]; exact Nat.ne_of_gt (blk_lt (pK BK192)) : gb241 ≠ gb192))
               have NB197_241 := Aside0.mk ((by rw [hg]; exact Nat.ne_of_lt (blk_lt (pK BK197)) : gb197 ≠ gb241))
               have NB241_197 := Aside0.mk ((by rw [hg]; exact Nat.ne_of_gt (blk_lt (pK BK197)) : gb241 ≠ gb197))
               have NB202_241 := Aside0.mk ((by rw [hg]; exact Nat.ne_of_lt (blk_lt (pK BK202)) : gb202 ≠ gb241))
               have NB241_202 := Aside0.mk ((by rw [hg]; exact Nat.ne_of_gt (blk_lt (pK BK202)) : gb241 ≠ gb202))
               have NB208_241 := Aside0.mk ((by rw [hg]; exact Nat.ne_of_lt (blk_lt (pK BK208)) : gb208 ≠ gb241))
               have NB241_208 := Aside0.mk ((by rw [hg]; exact Nat.ne_of_gt (blk_lt (pK BK208)) : gb241 ≠ gb208))
               replace HO_193001 := Aside0.mk (Kd.R_below (pR HO_193001) hb)
               replace HO_198001 := Aside0.mk (Kd.R_below (pR HO_198001) hb)
               replace HO_203001 := Aside0.mk (Kd.R_below (pR HO_203001) hb)
               replace HO_209001 := Aside0.mk (Kd.R_below (pR HO_209001) hb)
               replace BK175 := Aside0.mk (blk_below (pK BK175) hb)
               replace BK176 := Aside0.mk (blk_below (pK BK176) hb)
               replace BK192 := Aside0.mk (blk_below (pK BK192) hb)
               replace BK197 := Aside0.mk (blk_below (pK BK197) hb)
               replace BK202 := Aside0.mk (blk_below (pK BK202) hb)
               replace BK208 := Aside0.mk (blk_below (pK BK208) hb)
               replace HB := Aside0.mk (below_step (pB HB) hb)
               clear hb hbox hg
               refine hK.out _ _ ⟨(blk_cell BK175.out 0).trans rfl, (blk_cell BK175.out 1).trans rfl, (blk_cell BK176.out 0).trans rfl, (blk_cell BK176.out 1).trans rfl⟩ (fun hHeld => ?_)
               clear hK K
               refine norm_ (a' := ?_) ?_ ?_
               rotate_left
               ·show Act.put _ (some 15) _ = _
                simp only [Act.put, List.setIfInBounds_toArray, List.set_cons_zero, List.set_cons_succ, i64_w, i32_w]
                rfl
               refine one_ (i := 1) (N := some 96) #[true, true, true, false, false, false, false, false, true, false, false] rfl rfl (one_of HT_.out (by kernel_rfl)) (by decide) (fun K hK => ?_)
               refine goes_ Try.func21 (by kernel_rfl) rfl #[.agg #[.int .i64 a0_0, .slice A0_1 l0_1.length c0_1]] (by rfl) rfl rfl (by (try simp only [List.map_toArray, List.map_cons, List.map_nil]); first | done | rfl | (simp only [List.length_drop, List.length_take]; rfl)) ?_
               with_reducible refine (laws_toLadder.calls kj97 a0_0 _ _ l0_1 t228 t229 _ ?side1 ?side2 A140.out).mono ?_
               (case side1 => repeat (first | exact (Kd.C_below HR0_1.out HB.out) | (with_reducible refine Kd.C_alloc ?_ _) | (with_reducible refine Kd.C_drewN ?_ _) | (with_reducible refine Kd.C_drew ?_)))
               (case side2 => exact HC0_1.out)
               rintro e w155 ⟨v230, rfl, ho0, hb⟩
               refine ⟨_, rfl, ?_⟩
               have HO231 := Aside0.mk (Kd.R_lower (Kd.R_new' (Kd.R_new' (Kd.R_new' (Kd.R_new' ho0 (Kd.R_lt (pR HO_193001))) (Kd.R_lt (pR HO_198001))) (Kd.R_lt (pR HO_203001))) (Kd.R_lt (pR HO_209001))) (below_size (pB HB)))
               replace HO_193001 := Aside0.mk (Kd.R_elder' (pR HO_193001) (Kd.R_base ho0) hb)
               replace HO_198001 := Aside0.mk (Kd.R_elder' (pR HO_198001) (Kd.R_base ho0) hb)
               replace HO_203001 := Aside0.mk (Kd.R_elder' (pR HO_203001) (Kd.R_base ho0) hb)
               replace HO_209001 := Aside0.mk (Kd.R_elder' (pR HO_209001) (Kd.R_base ho0) hb)
               replace BK175 := Aside0.mk (blk_below (pK BK175) hb)
               replace BK176 := Aside0.mk (blk_below (pK BK176) hb)
               replace BK192 := Aside0.mk (blk_below (pK BK192) hb)
               replace BK197 := Aside0.mk (blk_below (pK BK197) hb)
               replace BK202 := Aside0.mk (blk_below (pK BK202) hb)
               replace BK208 := Aside0.mk (blk_below (pK BK208) hb)
               replace BK241 := Aside0.mk (blk_below (pK BK241) hb)
               replace HB := Aside0.mk (below_step (pB HB) hb)
               (try clear hb)
               (try clear hb2)
               (try clear hk)
               (try clear hi)
               (try clear ho0)
               refine hK.out _ _ ⟨(blk_cell BK175.out 0).trans rfl, (blk_cell BK175.out 1).trans rfl, (blk_cell BK176.out 0).trans rfl, (blk_cell BK176.out 1).trans rfl⟩ (fun hHeld => ?_)
               clear hK K
               refine norm_ (a' := ?_) ?_ ?_
               rotate_left
               ·show Act.put _ (some 96) _ = _
                simp only [Act.put, List.setIfInBounds_toArray, List.set_cons_zero, List.set_cons_succ, i64_w, i32_w]
                rfl
               refine one_ (i := 3) (N := some 98) #[true, true, true, true, false, false, false, false, true, false, false] rfl rfl (one_of HT_.out (by kernel_rfl)) (by decide) (fun K hK => ?_)
               refine goes_ Try.func21 (by kernel_rfl) rfl #[.agg #[.int .i64 a1_0, .slice A1_1 l1_1.length c1_1]] (by rfl) rfl rfl (by (try simp only [List.map_toArray, List.map_cons, List.map_nil]); first | done | rfl | (simp only [List.length_drop, List.length_take]; rfl)) ?_
               with_reducible refine (laws_toLadder.calls kj97 a1_0 _ _ l1_1 t232 t233 _ ?side1 ?side2 A141.out).mono ?_
               (case side1 => repeat (first | exact (Kd.C_below HR1_1.out HB.out) | (with_reducible refine Kd.C_alloc ?_ _) | (with_reducible refine Kd.C_drewN ?_ _) | (with_reducible refine Kd.C_drew ?_)))
               (case side2 => exact HC1_1.out)
               rintro e w156 ⟨v234, rfl, ho0, hb⟩
               refine ⟨_, rfl, ?_⟩
               have HO235 := Aside0.mk (Kd.R_lower (Kd.R_new' (Kd.R_new' (Kd.R_new' (Kd.R_new' (Kd.R_new' ho0 (Kd.R_lt (pR HO_193001))) (Kd.R_lt (pR HO_198001))) (Kd.R_lt (pR HO_203001))) (Kd.R_lt (pR HO_209001))) (Kd.R_lt (pR HO231))) (below_size (pB HB)))
               replace HO_193001 := Aside0.mk (Kd.R_elder' (pR HO_193001) (Kd.R_base ho0) hb)
               replace HO_198001 := Aside0.mk (Kd.R_elder' (pR HO_198001) (Kd.R_base ho0) hb)
               replace HO_203001 := Aside0.mk (Kd.R_elder' (pR HO_203001) (Kd.R_base ho0) hb)
               replace HO_209001 := Aside0.mk (Kd.R_elder' (pR HO_209001) (Kd.R_base ho0) hb)
               replace HO231 := Aside0.mk (Kd.R_elder' (pR HO231) (Kd.R_base ho0) hb)
               replace BK175 := Aside0.mk (blk_below (pK BK175) hb)
               replace BK176 := Aside0.mk (blk_below (pK BK176) hb)
               replace BK192 := Aside0.mk (blk_below (pK BK192) hb)
               replace BK197 := Aside0.mk (blk_below (pK BK197) hb)
               replace BK202 := Aside0.mk (blk_below (pK BK202) hb)
               replace BK208 := Aside0.mk (blk_below (pK BK208) hb)
               replace BK241 := Aside0.mk (blk_below (pK BK241) hb)
               replace HB := Aside0.mk (below_step (pB HB) hb)
               (try clear hb)
               (try clear hb2)
               (try clear hk)
               (try clear hi)
               (try clear ho0)
               obtain ⟨Ao157, co157, eo157⟩ := Kd.R_slice HO231.out
               (first | subst eo157 | (injection eo157 with f1_ f2_ f3_; have f4_ := f1_.symm; have f5_ := f3_.symm; clear f1_ f2_ f3_; subst f4_; subst f5_))
               obtain ⟨Ao158, co158, eo158⟩ := Kd.R_slice HO235.out
               (first | subst eo158 | (injection eo158 with f1_ f2_ f3_; have f4_ := f1_.symm; have f5_ := f3_.symm; clear f1_ f2_ f3_; subst f4_; subst f5_))
               refine hK.out _ _ ⟨(blk_cell BK175.out 0).trans rfl, (blk_cell BK175.out 1).trans rfl, (blk_cell BK176.out 0).trans rfl, (blk_cell BK176.out 1).trans rfl⟩ (fun hHeld => ?_)
               clear hK K
               refine norm_ (a' := ?_) ?_ ?_
               rotate_left
               ·show Act.put _ (some 98) _ = _
                simp only [Act.put, List.setIfInBounds_toArray, List.set_cons_zero, List.set_cons_succ, i64_w, i32_w]
                rfl
               refine one_ (i := 4) (N := some 99) #[true, true, true, true, true, false, false, false, true, false, false] rfl rfl (one_of HT_.out (by kernel_rfl)) (by decide) (fun K hK => ?_)
               refine goes_ Try.func22 (by kernel_rfl) rfl #[.agg #[.int .i64 t228, .slice Ao157 t229.length co157], .agg #[.int .i64 t232, .slice Ao158 t233.length co158]] (by rfl) rfl rfl (by (try simp only [List.map_toArray, List.map_cons, List.map_nil]); first | done | rfl | (simp only [List.length_drop, List.length_take]; rfl)) ?_
               with_reducible refine (impl_BelowLadder.calls kj97 t228 (fun k_ => some k_ = (.slice Ao157 t229.length co157 : Value).ownBlock) _ _ t229 t232 (fun k_ => some k_ = (.slice Ao158 t233.length co158 : Value).ownBlock) _ _ t233 t236 t237 t240 _ ?side1 ?side2 A142.out).mono ?_
               (case side1 => exact Kd.R_V (Kd.R_tight rfl (Kd.R_types (Kd.R_types (Kd.R_types (Kd.R_types (Kd.R_types (Kd.R_types (Kd.R_types (HO231.out) BK175.out (by decide)) BK176.out (by decide)) BK192.out (by decide)) BK197.out (by decide)) BK202.out (by decide)) BK208.out (by decide)) BK241.out (by decide))))
               (case side2 => exact Kd.R_V (Kd.R_tight rfl (Kd.R_types (Kd.R_types (Kd.R_types (Kd.R_types (Kd.R_types (Kd.R_types (Kd.R_types (HO235.out) BK175.out (by decide)) BK176.out (by decide)) BK192.out (by decide)) BK197.out (by decide)) BK202.out (by decide)) BK208.out (by decide)) BK241.out (by decide))))
               rintro e w159 ⟨v238, rfl, ho0, hb⟩
               refine ⟨_, rfl, ?_⟩
               have HO239 := Aside0.mk (Kd.R_lower (Kd.R_new' (Kd.R_new' (Kd.R_new' (Kd.R_new' (Kd.R_new' (Kd.R_new' (Kd.R_mono (ok' := fun k_ => True) ho0 (fun _ hk_ => trivial)) (Kd.R_lt (pR HO_193001))) (Kd.R_lt (pR HO_198001))) (Kd.R_lt (pR HO_203001))) (Kd.R_lt (pR HO_209001))) (Kd.R_lt (pR HO231))) (Kd.R_lt (pR HO235))) (below_size (pB HB)))
               replace HO_193001 := Aside0.mk (Kd.R_elder' (pR HO_193001) (Kd.R_base ho0) hb)
               replace HO_198001 := Aside0.mk (Kd.R_elder' (pR HO_198001) (Kd.R_base ho0) hb)
               replace HO_203001 := Aside0.mk (Kd.R_elder' (pR HO_203001) (Kd.R_base ho0) hb)
               replace HO_209001 := Aside0.mk (Kd.R_elder' (pR HO_209001) (Kd.R_base ho0) hb)
               replace HO231 := Aside0.mk (Kd.R_elder' (pR HO231) (Kd.R_base ho0) hb)
               replace HO235 := Aside0.mk (Kd.R_elder' (pR HO235) (Kd.R_base ho0) hb)
               replace BK175 := Aside0.mk (blk_below (pK BK175) hb)
               replace BK176 := Aside0.mk (blk_below (pK BK176) hb)
               replace BK192 := Aside0.mk (blk_below (pK BK192) hb)
               replace BK197 := Aside0.mk (blk_below (pK BK197) hb)
               replace BK202 := Aside0.mk (blk_below (pK BK202) hb)
               replace BK208 := Aside0.mk (blk_below (pK BK208) hb)
               replace BK241 := Aside0.mk (blk_below (pK BK241) hb)
               replace HB := Aside0.mk (below_step (pB HB) hb)
               (try clear hb)
               (try clear hb2)
               (try clear hk)
               (try clear hi)
               (try clear ho0)
               refine hK.out _ _ ⟨(blk_cell BK175.out 0).trans rfl, (blk_cell BK175.out 1).trans rfl, (blk_cell BK176.out 0).trans rfl, (blk_cell BK176.out 1).trans rfl⟩ (fun hHeld => ?_)
               clear hK K
               refine norm_ (a' := ?_) ?_ ?_
               rotate_left
               ·show Act.put _ (some 99) _ = _
                simp only [Act.put, List.setIfInBounds_toArray, List.set_cons_zero, List.set_cons_succ, i64_w, i32_w]
                rfl
               refine pure_ (i := 5) (N := some 94) (v := ?_) (a' := ?_) #[true, true, true, true, true, true, false, false, true, false, false] rfl rfl (any_of HT_.out (by kernel_rfl)) (fun _ _ _ h => h) (Or.inl ⟨by rfl, ?_⟩) ?_ ?_
               rotate_left
               ·intro w'
                go_simp
                with_reducible rfl
               rotate_left
               ·simp only [Act.put, List.setIfInBounds_toArray, List.set_cons_zero, List.set_cons_succ, i64_w, i32_w]
                rfl
               refine pure_ (i := 6) (N := some 100) (v := ?_) (a' := ?_) #[true, true, true, true, true, true, true, false, true, false, false] rfl rfl (any_of HT_.out (by kernel_rfl)) (fun _ _ _ h => h) (Or.inl ⟨by rfl, ?_⟩) ?_ ?_
               rotate_left
               ·intro w'
                go_simp
                with_reducible rfl
               rotate_left
               ·simp only [Act.put, List.setIfInBounds_toArray, List.set_cons_zero, List.set_cons_succ, i64_w, i32_w]
                rfl
               refine pure_ (i := 7) (N := some 101) (v := ?_) (a' := ?_) #[true, true, true, true, true, true, true, true, true, false, false] rfl rfl (any_of HT_.out (by kernel_rfl)) (fun _ _ _ h => h) (Or.inl ⟨by rfl, ?_⟩) ?_ ?_
               rotate_left
               ·intro w'
                go_simp
                with_reducible rfl
               rotate_left
               ·simp only [Act.put, List.setIfInBounds_toArray, List.set_cons_zero, List.set_cons_succ, i64_w, i32_w]
                rfl
               exact norm_ (by simp only [putAll, Act.put, List.setIfInBounds_toArray, List.set_cons_zero, List.set_cons_succ]) (hCont (.slice Ao157 t229.length co157, .slice Ao158 t233.length co158, v238, gb241) _ ⟨hHeld, (by (with_reducible repeat (first | apply Kd.R_alloc | apply Kd.R_drewN | apply Kd.R_drew)); exact Kd.R_mono HO231.out (fun _ hk => ⟨hk.1.2, ⟨hk.2, ⟨hk.1.1.1.1.1.2, ⟨hk.1.1.1.1.2, ⟨hk.1.1.1.2, hk.1.1.2⟩⟩⟩⟩⟩)), (by (with_reducible repeat (first | apply Kd.R_alloc | apply Kd.R_drewN | apply Kd.R_drew)); exact Kd.R_mono HO235.out (fun _ hk => ⟨hk.1.2, ⟨hk.2, ⟨hk.1.1.1.1.1.2, ⟨hk.1.1.1.1.2, ⟨hk.1.1.1.2, hk.1.1.2⟩⟩⟩⟩⟩)), (by (with_reducible repeat (first | apply Kd.R_alloc | apply Kd.R_drewN | apply Kd.R_drew)); exact Kd.R_mono HO239.out (fun _ hk => ⟨hk.1.2, ⟨hk.2, ⟨hk.1.1.1.1.1.2, ⟨hk.1.1.1.1.2, ⟨hk.1.1.1.2, hk.1.1.2⟩⟩⟩⟩⟩)), (by (with_reducible repeat (first | apply Kd.R_alloc | apply Kd.R_drewN | apply Kd.R_drew)); exact Kd.R_mono HO_193001.out (fun _ hk => ⟨hk.1.1.2, ⟨hk.1.2, ⟨hk.2, ⟨hk.1.1.1.1, ⟨hk.1.1.1.2.1, hk.1.1.1.2.2⟩⟩⟩⟩⟩)), (by (with_reducible repeat (first | apply Kd.R_alloc | apply Kd.R_drewN | apply Kd.R_drew)); exact Kd.R_mono HO_198001.out (fun _ hk => ⟨hk.1.1.2, ⟨hk.1.2, ⟨hk.2, ⟨hk.1.1.1.1, ⟨hk.1.1.1.2.1, hk.1.1.1.2.2⟩⟩⟩⟩⟩)), (by (with_reducible repeat (first | apply Kd.R_alloc | apply Kd.R_drewN | apply Kd.R_drew)); exact Kd.R_mono HO_203001.out (fun _ hk => ⟨hk.1.1.2, ⟨hk.1.2, ⟨hk.2, ⟨hk.1.1.1.1, ⟨hk.1.1.1.2.1, hk.1.1.1.2.2⟩⟩⟩⟩⟩)), (by (with_reducible repeat (first | apply Kd.R_alloc | apply Kd.R_drewN | apply Kd.R_drew)); exact Kd.R_mono HO_209001.out (fun _ hk => ⟨hk.1.1.2, ⟨hk.1.2, ⟨hk.2, ⟨hk.1.1.1.1, ⟨hk.1.1.1.2.1, hk.1.1.1.2.2⟩⟩⟩⟩⟩)), (pK BK175), (pK BK176), (pK BK192), (pK BK197), (pK BK202), (pK BK208), (pK BK241), GW241.out, GE241.out, NB175_241.out, NB241_175.out, NB176_241.out, NB241_176.out, NB192_241.out, NB241_192.out, NB197_241.out, NB241_197.out, NB202_241.out, NB241_202.out, NB208_241.out, NB241_208.out, (pB HB)⟩)
             rintro ⟨v230, v234, v238, gb241⟩ w160 ⟨hS_, h0_, h1_, h2_, h3_, h4_, h5_, h6_, h7_, h8_, h9_, h10_, h11_, h12_, h13_, h14_, h15_, h16_, h17_, h18_, h19_, h20_, h21_, h22_, h23_, h24_, h25_, h26_, h27_, h28_⟩
             have n0_ : Aside0 (Kd.R (Kd.int .i64) 3 w160 w.heap.size (fun k_ => some k_ ≠ (v234 : Value).ownBlock ∧ some k_ ≠ (v238 : Value).ownBlock ∧ some k_ ≠ (.slice Ao42 t188.length co42 : Value).ownBlock ∧ some k_ ≠ (.slice Ao52 t221.length co52 : Value).ownBlock ∧ some k_ ≠ (.slice Ao62 t223.length co62 : Value).ownBlock ∧ some k_ ≠ (.slice Ao74 t204.length co74 : Value).ownBlock) v230 t229) := ⟨h0_⟩
             have n1_ : Aside0 (Kd.R (Kd.int .i64) 3 w160 w.heap.size (fun k_ => some k_ ≠ (v230 : Value).ownBlock ∧ some k_ ≠ (v238 : Value).ownBlock ∧ some k_ ≠ (.slice Ao42 t188.length co42 : Value).ownBlock ∧ some k_ ≠ (.slice Ao52 t221.length co52 : Value).ownBlock ∧ some k_ ≠ (.slice Ao62 t223.length co62 : Value).ownBlock ∧ some k_ ≠ (.slice Ao74 t204.length co74 : Value).ownBlock) v234 t233) := ⟨h1_⟩
             have n2_ : Aside0 (Kd.R (Kd.int .i64) 3 w160 w.heap.size (fun k_ => some k_ ≠ (v230 : Value).ownBlock ∧ some k_ ≠ (v234 : Value).ownBlock ∧ some k_ ≠ (.slice Ao42 t188.length co42 : Value).ownBlock ∧ some k_ ≠ (.slice Ao52 t221.length co52 : Value).ownBlock ∧ some k_ ≠ (.slice Ao62 t223.length co62 : Value).ownBlock ∧ some k_ ≠ (.slice Ao74 t204.length co74 : Value).ownBlock) v238 t237) := ⟨h2_⟩
             have n3_ : Aside0 (Kd.R (Kd.int .i64) 3 w160 w.heap.size (fun k_ => some k_ ≠ (v230 : Value).ownBlock ∧ some k_ ≠ (v234 : Value).ownBlock ∧ some k_ ≠ (v238 : Value).ownBlock ∧ some k_ ≠ (.slice Ao52 t221.length co52 : Value).ownBlock ∧ some k_ ≠ (.slice Ao62 t223.length co62 : Value).ownBlock ∧ some k_ ≠ (.slice Ao74 t204.length co74 : Value).ownBlock) (.slice Ao42 t188.length co42) t188) := ⟨h3_⟩
             have n4_ : Aside0 (Kd.R (Kd.int .i64) 3 w160 w.heap.size (fun k_ => some k_ ≠ (v230 : Value).ownBlock ∧ some k_ ≠ (v234 : Value).ownBlock ∧ some k_ ≠ (v238 : Value).ownBlock ∧ some k_ ≠ (.slice Ao42 t188.length co42 : Value).ownBlock ∧ some k_ ≠ (.slice Ao62 t223.length co62 : Value).ownBlock ∧ some k_ ≠ (.slice Ao74 t204.length co74 : Value).ownBlock) (.slice Ao52 t221.length co52) t221) := ⟨h4_⟩
             have n5_ : Aside0 (Kd.R (Kd.int .i64) 3 w160 w.heap.size (fun k_ => some k_ ≠ (v230 : Value).ownBlock ∧ some k_ ≠ (v234 : Value).ownBlock ∧ some k_ ≠ (v238 : Value).ownBlock ∧ some k_ ≠ (.slice Ao42 t188.length co42 : Value).ownBlock ∧ some k_ ≠ (.slice Ao52 t221.length co52 : Value).ownBlock ∧ some k_ ≠ (.slice Ao74 t204.length co74 : Value).ownBlock) (.slice Ao62 t223.length co62) t223) := ⟨h5_⟩
             have n6_ : Aside0 (Kd.R (Kd.int .i64) 3 w160 w.heap.size (fun k_ => some k_ ≠ (v230 : Value).ownBlock ∧ some k_ ≠ (v234 : Value).ownBlock ∧ some k_ ≠ (v238 : Value).ownBlock ∧ some k_ ≠ (.slice Ao42 t188.length co42 : Value).ownBlock ∧ some k_ ≠ (.slice Ao52 t221.length co52 : Value).ownBlock ∧ some k_ ≠ (.slice Ao62 t223.length co62 : Value).ownBlock) (.slice Ao74 t204.length co74) t226) := ⟨h6_⟩
             have n7_ : Aside0 (w160.heap[gb175]? = some (.cells #[.int .i64 a0_0, .slice A0_1 l0_1.length c0_1] 33 (0, 0))) := ⟨h7_⟩
             have n8_ : Aside0 (w160.heap[gb176]? = some (.cells #[.int .i64 a1_0, .slice A1_1 l1_1.length c1_1] 33 (0, 0))) := ⟨h8_⟩
             have n9_ : Aside0 (w160.heap[gb192]? = some (.cells #[.int .i64 t187, .slice Ao42 t188.length co42] 35 (0, 0))) := ⟨h9_⟩
             have n10_ : Aside0 (w160.heap[gb197]? = some (.cells #[.int .i64 t193, .slice Ao52 t221.length co52] 35 (0, 0))) := ⟨h10_⟩
             have n11_ : Aside0 (w160.heap[gb202]? = some (.cells #[.int .i64 t198, .slice Ao62 t223.length co62] 35 (0, 0))) := ⟨h11_⟩
             have n12_ : Aside0 (w160.heap[gb208]? = some (.cells #[.int .i64 t203, .slice Ao74 t204.length co74] 35 (0, 0))) := ⟨h12_⟩
             have n13_ : Aside0 (w160.heap[gb241]? = some (.cells #[.int .i64 0, .slice none 0 0] 35 (0, 0))) := ⟨h13_⟩
             have n14_ : Aside0 (w.heap.size ≤ gb241) := ⟨h14_⟩
             have n15_ : Aside0 (w.heap.size ≤ gb241) := ⟨h15_⟩
             have n16_ : Aside0 (gb175 ≠ gb241) := ⟨h16_⟩
             have n17_ : Aside0 (gb241 ≠ gb175) := ⟨h17_⟩
             have n18_ : Aside0 (gb176 ≠ gb241) := ⟨h18_⟩
             have n19_ : Aside0 (gb241 ≠ gb176) := ⟨h19_⟩
             have n20_ : Aside0 (gb192 ≠ gb241) := ⟨h20_⟩
             have n21_ : Aside0 (gb241 ≠ gb192) := ⟨h21_⟩
             have n22_ : Aside0 (gb197 ≠ gb241) := ⟨h22_⟩
             have n23_ : Aside0 (gb241 ≠ gb197) := ⟨h23_⟩
             have n24_ : Aside0 (gb202 ≠ gb241) := ⟨h24_⟩
             have n25_ : Aside0 (gb241 ≠ gb202) := ⟨h25_⟩
             have n26_ : Aside0 (gb208 ≠ gb241) := ⟨h26_⟩
             have n27_ : Aside0 (gb241 ≠ gb208) := ⟨h27_⟩
             have n28_ : Aside0 (Below w.heap.size w w160) := ⟨h28_⟩
             clear HO_193001
             clear HO_198001
             clear HO_203001
             clear HO_209001
             clear BK175
             clear BK176
             clear BK192
             clear BK197
             clear BK202
             clear BK208
             clear HB
             clear h0_ h1_ h2_ h3_ h4_ h5_ h6_ h7_ h8_ h9_ h10_ h11_ h12_ h13_ h14_ h15_ h16_ h17_ h18_ h19_ h20_ h21_ h22_ h23_ h24_ h25_ h26_ h27_ h28_
             have HO231 := n0_
             have HO235 := n1_
             have HO239 := n2_
             have HO_193001 := n3_
             have HO_198001 := n4_
             have HO_203001 := n5_
             have HO_209001 := n6_
             have BK175 := n7_
             have BK176 := n8_
             have BK192 := n9_
             have BK197 := n10_
             have BK202 := n11_
             have BK208 := n12_
             have BK241 := n13_
             have GW241 := n14_
             have GE241 := n15_
             have NB175_241 := n16_
             have NB241_175 := n17_
             have NB176_241 := n18_
             have NB241_176 := n19_
             have NB192_241 := n20_
             have NB241_192 := n21_
             have NB197_241 := n22_
             have NB241_197 := n23_
             have NB202_241 := n24_
             have NB241_202 := n25_
             have NB208_241 := n26_
             have NB241_208 := n27_
             have HB := n28_
             clear n0_ n1_ n2_ n3_ n4_ n5_ n6_ n7_ n8_ n9_ n10_ n11_ n12_ n13_ n14_ n15_ n16_ n17_ n18_ n19_ n20_ n21_ n22_ n23_ n24_ n25_ n26_ n27_ n28_
             have hHeld : w160.cell? ⟨gb175, 0, none⟩ = some (.int .i64 a0_0) ∧ w160.cell? ⟨gb175, 1, none⟩ = some (.slice A0_1 l0_1.length c0_1) ∧ w160.cell? ⟨gb176, 0, none⟩ = some (.int .i64 a1_0) ∧ w160.cell? ⟨gb176, 1, none⟩ = some (.slice A1_1 l1_1.length c1_1) := hS_
             obtain ⟨Ao162, co162, eo162⟩ := Kd.R_slice HO239.out
             (first | subst eo162 | (injection eo162 with f1_ f2_ f3_; have f4_ := f1_.symm; have f5_ := f3_.symm; clear f1_ f2_ f3_; subst f4_; subst f5_))
             refine norm_ (a' := ?_) ?_ ?_
             rotate_left
             ·simp only [putAll, Act.put, List.setIfInBounds_toArray, List.set_cons_zero, List.set_cons_succ]
              rfl
             refine one_ (i := 9) (N := none) #[true, true, true, true, true, true, true, true, true, true, false] rfl rfl (one_of HT_.out (by kernel_rfl)) (by decide) (fun K hK => ?_)
             have hs161 : w160.cell? ⟨gb241, 0, none⟩ = some (.int .i64 0) := (blk_cell BK241.out 0).trans rfl
             have hfs161 := blk_frozen BK241.out 0
             have hns161_0 := NB175_241.out
             have hns161_1 := NB176_241.out
             have hns161_2 := NB192_241.out
             have hns161_3 := NB197_241.out
             have hns161_4 := NB202_241.out
             have hns161_5 := NB208_241.out
             have hms161_0 := NB241_175.out
             have hms161_1 := NB241_176.out
             have hms161_2 := NB241_192.out
             have hms161_3 := NB241_197.out
             have hms161_4 := NB241_202.out
             have hms161_5 := NB241_208.out
             have hs163 : w160.cell? ⟨gb241, 1, none⟩ = some (.slice none 0 0) := (blk_cell BK241.out 1).trans rfl
             have hfs163 := blk_frozen BK241.out 1
             have hns163_0 := NB175_241.out
             have hns163_1 := NB176_241.out
             have hns163_2 := NB192_241.out
             have hns163_3 := NB197_241.out
             have hns163_4 := NB202_241.out
             have hns163_5 := NB208_241.out
             have hms163_0 := NB241_175.out
             have hms163_1 := NB241_176.out
             have hms163_2 := NB241_192.out
             have hms163_3 := NB241_197.out
             have hms163_4 := NB241_202.out
             have hms163_5 := NB241_208.out
             refine skip_ (w1 := ?_) (by rfl) rfl ?_ ?_
             rotate_left
             ·go_simp
              rfl
             refine hK.out _ _ ⟨((cell_far (p := ⟨gb241, _, none⟩) NB175_241.out _).trans (((cell_far (p := ⟨gb241, _, none⟩) NB175_241.out _).trans (hHeld.1)))), ((cell_far (p := ⟨gb241, _, none⟩) NB175_241.out _).trans (((cell_far (p := ⟨gb241, _, none⟩) NB175_241.out _).trans (hHeld.2.1)))), ((cell_far (p := ⟨gb241, _, none⟩) NB176_241.out _).trans (((cell_far (p := ⟨gb241, _, none⟩) NB176_241.out _).trans (hHeld.2.2.1)))), ((cell_far (p := ⟨gb241, _, none⟩) NB176_241.out _).trans (((cell_far (p := ⟨gb241, _, none⟩) NB176_241.out _).trans (hHeld.2.2.2))))⟩ (fun hHeld => ?_)
             clear hK K
             refine pure_ (i := 10) (N := some 16) (v := ?_) (a' := ?_) #[true, true, true, true, true, true, true, true, true, true, true] rfl rfl (any_of HT_.out (by kernel_rfl)) (fun _ _ _ h => h) (Or.inl ⟨by rfl, ?_⟩) ?_ ?_
             rotate_left
             ·intro w'
              go_simp
              with_reducible rfl
             rotate_left
             ·simp only [Act.put, List.setIfInBounds_toArray, List.set_cons_zero, List.set_cons_succ, i64_w, i32_w]
              rfl
             refine done_ (done_of HT_.out (by kernel_rfl)) ?_
             go_upto_region 32 with (fail)
             go_cut [110] (fun v110 wc => ∃ (kq : Nat) (x110_142 : Bool), v110 = .bool x110_142 ∧ Aside0 (laws_FnExactBelowLadder.j2 kq t225 x110_142 t203 t226 = some true) ∧ Aside0 (kq ≤ kj97) ∧ Aside0 (Kd.R (Kd.int .i64) 3 wc w.heap.size (fun k_ => some k_ ≠ ((.slice Ao52 t221.length co52) : Value).ownBlock ∧ some k_ ≠ ((.slice Ao62 t223.length co62) : Value).ownBlock ∧ some k_ ≠ ((.slice Ao74 t204.length co74) : Value).ownBlock ∧ some k_ ≠ ((.slice Ao162 t237.length co162) : Value).ownBlock) (.slice Ao42 t188.length co42) t188) ∧ Aside0 (Kd.R (Kd.int .i64) 3 wc w.heap.size (fun k_ => some k_ ≠ ((.slice Ao42 t188.length co42) : Value).ownBlock ∧ some k_ ≠ ((.slice Ao62 t223.length co62) : Value).ownBlock ∧ some k_ ≠ ((.slice Ao74 t204.length co74) : Value).ownBlock ∧ some k_ ≠ ((.slice Ao162 t237.length co162) : Value).ownBlock) (.slice Ao52 t221.length co52) t221) ∧ Aside0 (Kd.R (Kd.int .i64) 3 wc w.heap.size (fun k_ => some k_ ≠ ((.slice Ao42 t188.length co42) : Value).ownBlock ∧ some k_ ≠ ((.slice Ao52 t221.length co52) : Value).ownBlock ∧ some k_ ≠ ((.slice Ao74 t204.length co74) : Value).ownBlock ∧ some k_ ≠ ((.slice Ao162 t237.length co162) : Value).ownBlock) (.slice Ao62 t223.length co62) t223) ∧ Aside0 (Kd.R (Kd.int .i64) 3 wc w.heap.size (fun k_ => some k_ ≠ ((.slice Ao42 t188.length co42) : Value).ownBlock ∧ some k_ ≠ ((.slice Ao52 t221.length co52) : Value).ownBlock ∧ some k_ ≠ ((.slice Ao62 t223.length co62) : Value).ownBlock ∧ some k_ ≠ ((.slice Ao162 t237.length co162) : Value).ownBlock) (.slice Ao74 t204.length co74) t226) ∧ Aside0 (Kd.R (Kd.int .i64) 3 wc w.heap.size (fun k_ => some k_ ≠ ((.slice Ao42 t188.length co42) : Value).ownBlock ∧ some k_ ≠ ((.slice Ao52 t221.length co52) : Value).ownBlock ∧ some k_ ≠ ((.slice Ao62 t223.length co62) : Value).ownBlock ∧ some k_ ≠ ((.slice Ao74 t204.length co74) : Value).ownBlock) (.slice Ao162 t237.length co162) t237) ∧ Aside0 (wc.heap[gb175]? = some (.cells #[.int .i64 a0_0, (.slice A0_1 l0_1.length c0_1)] 33 (0, 0))) ∧ Aside0 (wc.heap[gb176]? = some (.cells #[.int .i64 a1_0, (.slice A1_1 l1_1.length c1_1)] 33 (0, 0))) ∧ Aside0 (wc.heap[gb192]? = some (.cells #[.int .i64 t187, (.slice Ao42 t188.length co42)] 35 (0, 0))) ∧ Aside0 (wc.heap[gb197]? = some (.cells #[.int .i64 t193, (.slice Ao52 t221.length co52)] 35 (0, 0))) ∧ Aside0 (wc.heap[gb202]? = some (.cells #[.int .i64 t198, (.slice Ao62 t223.length co62)] 35 (0, 0))) ∧ Aside0 (wc.heap[gb208]? = some (.cells #[.int .i64 t203, (.slice Ao74 t204.length co74)] 35 (0, 0))) ∧ Aside0 (wc.heap[gb241]? = some (.cells #[.int .i64 t236, (.slice Ao162 t237.length co162)] 35 (0, 0))) ∧ Aside0 (Below w.heap.size w wc))
             case first =>
              have H := HC143.out
              clear HC143
              replace H := Option.bind_eq_some_iff.mp H
              obtain ⟨t242, A1640, H⟩ := H
              replace H : (if t242 = true then (laws_FnExactBelowLadder.j2 kj97 t225 (t240 != t191) t203 t226) else (laws_FnExactBelowLadder.j2 kj97 t225 true t203 t226)) = some true := H
              have A164 := Aside0.mk A1640
              clear A1640
              by_cases c165 : t242 = true
              ·subst c165
               have H1 : (laws_FnExactBelowLadder.j2 kj97 t225 (t240 != t191) t203 t226) = some true := by rw [if_pos rfl] at H; exact H
               clear H
               have H := H1
               clear H1
               have H' := Aside0.mk H
               clear H
               have hnb166 := NB241_175.out
               have hnc166 := NB175_241.out
               have hnb167 := NB241_176.out
               have hnc167 := NB176_241.out
               have hnb168 := NB241_192.out
               have hnc168 := NB192_241.out
               have hnb169 := NB241_197.out
               have hnc169 := NB197_241.out
               have hnb170 := NB241_202.out
               have hnc170 := NB202_241.out
               have hnb171 := NB241_208.out
               have hnc171 := NB208_241.out
               have hcz172_0 : w160.cell? ⟨gb241, 0, none⟩ = some (.int .i64 0) := (blk_cell BK241.out 0).trans rfl
               have hcz172_1 : w160.cell? ⟨gb241, 1, none⟩ = some (.slice none 0 0) := (blk_cell BK241.out 1).trans rfl
               have hfz172_0 := blk_frozen BK241.out 0
               have hfz172_1 := blk_frozen BK241.out 1
               have hnb173 := NB192_175.out
               have hnc173 := NB175_192.out
               have hnb174 := NB192_176.out
               have hnc174 := NB176_192.out
               have hnb175 := NB192_197.out
               have hnc175 := NB197_192.out
               have hnb176 := NB192_202.out
               have hnc176 := NB202_192.out
               have hnb177 := NB192_208.out
               have hnc177 := NB208_192.out
               have hcz178_0 : w160.cell? ⟨gb192, 0, none⟩ = some (.int .i64 t187) := (blk_cell BK192.out 0).trans rfl
               have hcz178_1 : w160.cell? ⟨gb192, 1, none⟩ = some (.slice Ao42 t188.length co42) := (blk_cell BK192.out 1).trans rfl
               have hfz178_0 := blk_frozen BK192.out 0
               have hfz178_1 := blk_frozen BK192.out 1
               go_wp2_with (first | ((with_reducible refine gate_callee (f := 23) rfl ?_); refine goesL_ (some 104) rfl rfl Try.func23 (by kernel_rfl) rfl #[.agg #[.int .i64 t236, .slice Ao162 t237.length co162], .agg #[.int .i64 t187, .slice Ao42 t188.length co42]] rfl (by (try simp only [List.map_toArray, List.map_cons, List.map_nil]); first | done | rfl | (simp only [List.length_drop, List.length_take]; rfl)) ?_; (with_reducible refine (laws_eqLadder.calls kj97 t236 _ _ t237 t187 _ _ t188 true _ ?side1 ?side2 ?side3 ?side4 A164.out).mono ?_); (case side1 => refine (Kd.R_reads' (e := 3) (base := w.heap.size) (ok := fun k_ => (some k_ ≠ (v230 : Value).ownBlock ∧ (some k_ ≠ (v234 : Value).ownBlock ∧ (some k_ ≠ (.slice Ao42 t188.length co42 : Value).ownBlock ∧ (some k_ ≠ (.slice Ao52 t221.length co52 : Value).ownBlock ∧ (some k_ ≠ (.slice Ao62 t223.length co62 : Value).ownBlock ∧ some k_ ≠ (.slice Ao74 t204.length co74 : Value).ownBlock)))))) (n := t237.length) (c := co162) ?_).2.2; exact (by (with_reducible repeat (first | apply Kd.R_alloc | apply Kd.R_drewN | apply Kd.R_drew)); exact (Kd.R_mono (Kd.R_far (p := ⟨gb241, 1, none⟩) (Kd.R_far (p := ⟨gb241, 0, none⟩) (Kd.R_types HO239.out BK241.out (by decide)) (fun _ hk => hk.2) (.int .i64 t236)) (fun _ hk => hk.2) (.slice Ao162 t237.length co162)) (fun _ h_ => h_.1)))); (case side2 => exact (Kd.R_reads' HO239.out).2.1); (case side3 => refine (Kd.R_reads' (e := 3) (base := w.heap.size) (ok := fun k_ => (some k_ ≠ (v230 : Value).ownBlock ∧ (some k_ ≠ (v234 : Value).ownBlock ∧ (some k_ ≠ (.slice Ao162 t237.length co162 : Value).ownBlock ∧ (some k_ ≠ (.slice Ao52 t221.length co52 : Value).ownBlock ∧ (some k_ ≠ (.slice Ao62 t223.length co62 : Value).ownBlock ∧ some k_ ≠ (.slice Ao74 t204.length co74 : Value).ownBlock)))))) (n := t188.length) (c := co42) ?_).2.2; exact (by (with_reducible repeat (first | apply Kd.R_alloc | apply Kd.R_drewN | apply Kd.R_drew)); exact (Kd.R_mono (Kd.R_far (p := ⟨gb241, 1, none⟩) (Kd.R_far (p := ⟨gb241, 0, none⟩) (Kd.R_types HO_193001.out BK241.out (by decide)) (fun _ hk => hk.2) (.int .i64 t236)) (fun _ hk => hk.2) (.slice Ao162 t237.length co162)) (fun _ h_ => h_.1)))); (case side4 => exact (Kd.R_reads' HO_193001.out).2.1); rintro e w179 ⟨rfl, hb⟩; refine ⟨_, rfl, ?_⟩; replace HO_193001 := Aside0.mk (Kd.R_below (by (with_reducible repeat (first | apply Kd.R_alloc | apply Kd.R_drewN | apply Kd.R_drew)); exact (Kd.R_mono (Kd.R_far (p := ⟨gb241, 1, none⟩) (Kd.R_far (p := ⟨gb241, 0, none⟩) (Kd.R_types HO_193001.out BK241.out (by decide)) (fun _ hk => hk.2) (.int .i64 t236)) (fun _ hk => hk.2) (.slice Ao162 t237.length co162)) (fun _ h_ => h_.1))) hb); replace HO_198001 := Aside0.mk (Kd.R_below (by (with_reducible repeat (first | apply Kd.R_alloc | apply Kd.R_drewN | apply Kd.R_drew)); exact (Kd.R_mono (Kd.R_far (p := ⟨gb241, 1, none⟩) (Kd.R_far (p := ⟨gb241, 0, none⟩) (Kd.R_types HO_198001.out BK241.out (by decide)) (fun _ hk => hk.2) (.int .i64 t236)) (fun _ hk => hk.2) (.slice Ao162 t237.length co162)) (fun _ h_ => h_.1))) hb); replace HO_203001 := Aside0.mk (Kd.R_below (by (with_reducible repeat (first | apply Kd.R_alloc | apply Kd.R_drewN | apply Kd.R_drew)); exact (Kd.R_mono (Kd.R_far (p := ⟨gb241, 1, none⟩) (Kd.R_far (p := ⟨gb241, 0, none⟩) (Kd.R_types HO_203001.out BK241.out (by decide)) (fun _ hk => hk.2) (.int .i64 t236)) (fun _ hk => hk.2) (.slice Ao162 t237.length co162)) (fun _ h_ => h_.1))) hb); replace HO_209001 := Aside0.mk (Kd.R_below (by (with_reducible repeat (first | apply Kd.R_alloc | apply Kd.R_drewN | apply Kd.R_drew)); exact (Kd.R_mono (Kd.R_far (p := ⟨gb241, 1, none⟩) (Kd.R_far (p := ⟨gb241, 0, none⟩) (Kd.R_types HO_209001.out BK241.out (by decide)) (fun _ hk => hk.2) (.int .i64 t236)) (fun _ hk => hk.2) (.slice Ao162 t237.length co162)) (fun _ h_ => h_.1))) hb); replace HO231 := Aside0.mk (Kd.R_below (by (with_reducible repeat (first | apply Kd.R_alloc | apply Kd.R_drewN | apply Kd.R_drew)); exact (Kd.R_mono (Kd.R_far (p := ⟨gb241, 1, none⟩) (Kd.R_far (p := ⟨gb241, 0, none⟩) (Kd.R_types HO231.out BK241.out (by decide)) (fun _ hk => hk.2) (.int .i64 t236)) (fun _ hk => hk.2) (.slice Ao162 t237.length co162)) (fun _ h_ => h_.1))) hb); replace HO235 := Aside0.mk (Kd.R_below (by (with_reducible repeat (first | apply Kd.R_alloc | apply Kd.R_drewN | apply Kd.R_drew)); exact (Kd.R_mono (Kd.R_far (p := ⟨gb241, 1, none⟩) (Kd.R_far (p := ⟨gb241, 0, none⟩) (Kd.R_types HO235.out BK241.out (by decide)) (fun _ hk => hk.2) (.int .i64 t236)) (fun _ hk => hk.2) (.slice Ao162 t237.length co162)) (fun _ h_ => h_.1))) hb); replace HO239 := Aside0.mk (Kd.R_below (by (with_reducible repeat (first | apply Kd.R_alloc | apply Kd.R_drewN | apply Kd.R_drew)); exact (Kd.R_mono (Kd.R_far (p := ⟨gb241, 1, none⟩) (Kd.R_far (p := ⟨gb241, 0, none⟩) (Kd.R_types HO239.out BK241.out (by decide)) (fun _ hk => hk.2) (.int .i64 t236)) (fun _ hk => hk.2) (.slice Ao162 t237.length co162)) (fun _ h_ => h_.1))) hb); replace BK175 := Aside0.mk (blk_below (g := gb175) (o := .cells #[.int .i64 a0_0, .slice A0_1 l0_1.length c0_1] 33 (0, 0)) (by (with_reducible repeat (first | refine blk_drewN ?_ _ | refine blk_drew ?_ | refine blk_alloc ?_ _)); refine blk_far ?_ NB175_241.out _; (with_reducible repeat (first | refine blk_drewN ?_ _ | refine blk_drew ?_ | refine blk_alloc ?_ _)); refine blk_far ?_ NB175_241.out _; (with_reducible repeat (first | refine blk_drewN ?_ _ | refine blk_drew ?_ | refine blk_alloc ?_ _)); exact BK175.out) hb); replace BK176 := Aside0.mk (blk_below (g := gb176) (o := .cells #[.int .i64 a1_0, .slice A1_1 l1_1.length c1_1] 33 (0, 0)) (by (with_reducible repeat (first | refine blk_drewN ?_ _ | refine blk_drew ?_ | refine blk_alloc ?_ _)); refine blk_far ?_ NB176_241.out _; (with_reducible repeat (first | refine blk_drewN ?_ _ | refine blk_drew ?_ | refine blk_alloc ?_ _)); refine blk_far ?_ NB176_241.out _; (with_reducible repeat (first | refine blk_drewN ?_ _ | refine blk_drew ?_ | refine blk_alloc ?_ _)); exact BK176.out) hb); replace BK192 := Aside0.mk (blk_below (g := gb192) (o := .cells #[.int .i64 t187, .slice Ao42 t188.length co42] 35 (0, 0)) (by (with_reducible repeat (first | refine blk_drewN ?_ _ | refine blk_drew ?_ | refine blk_alloc ?_ _)); refine blk_far ?_ NB192_241.out _; (with_reducible repeat (first | refine blk_drewN ?_ _ | refine blk_drew ?_ | refine blk_alloc ?_ _)); refine blk_far ?_ NB192_241.out _; (with_reducible repeat (first | refine blk_drewN ?_ _ | refine blk_drew ?_ | refine blk_alloc ?_ _)); exact BK192.out) hb); replace BK197 := Aside0.mk (blk_below (g := gb197) (o := .cells #[.int .i64 t193, .slice Ao52 t221.length co52] 35 (0, 0)) (by (with_reducible repeat (first | refine blk_drewN ?_ _ | refine blk_drew ?_ | refine blk_alloc ?_ _)); refine blk_far ?_ NB197_241.out _; (with_reducible repeat (first | refine blk_drewN ?_ _ | refine blk_drew ?_ | refine blk_alloc ?_ _)); refine blk_far ?_ NB197_241.out _; (with_reducible repeat (first | refine blk_drewN ?_ _ | refine blk_drew ?_ | refine blk_alloc ?_ _)); exact BK197.out) hb); replace BK202 := Aside0.mk (blk_below (g := gb202) (o := .cells #[.int .i64 t198, .slice Ao62 t223.length co62] 35 (0, 0)) (by (with_reducible repeat (first | refine blk_drewN ?_ _ | refine blk_drew ?_ | refine blk_alloc ?_ _)); refine blk_far ?_ NB202_241.out _; (with_reducible repeat (first | refine blk_drewN ?_ _ | refine blk_drew ?_ | refine blk_alloc ?_ _)); refine blk_far ?_ NB202_241.out _; (with_reducible repeat (first | refine blk_drewN ?_ _ | refine blk_drew ?_ | refine blk_alloc ?_ _)); exact BK202.out) hb); replace BK208 := Aside0.mk (blk_below (g := gb208) (o := .cells #[.int .i64 t203, .slice Ao74 t204.length co74] 35 (0, 0)) (by (with_reducible repeat (first | refine blk_drewN ?_ _ | refine blk_drew ?_ | refine blk_alloc ?_ _)); refine blk_far ?_ NB208_241.out _; (with_reducible repeat (first | refine blk_drewN ?_ _ | refine blk_drew ?_ | refine blk_alloc ?_ _)); refine blk_far ?_ NB208_241.out _; (with_reducible repeat (first | refine blk_drewN ?_ _ | refine blk_drew ?_ | refine blk_alloc ?_ _)); exact BK208.out) hb); replace BK241 := Aside0.mk (blk_below (g := gb241) (o := .cells #[.int .i64 t236, .slice Ao162 t237.length co162] 35 (0, 0)) (by (with_reducible repeat (first | refine blk_drewN ?_ _ | refine blk_drew ?_ | refine blk_alloc ?_ _)); refine blk_put (cs := #[.int .i64 t236, .slice none 0 0]) ?_ 1 _ rfl; (with_reducible repeat (first | refine blk_drewN ?_ _ | refine blk_drew ?_ | refine blk_alloc ?_ _)); refine blk_put (cs := #[.int .i64 0, .slice none 0 0]) ?_ 0 _ rfl; (with_reducible repeat (first | refine blk_drewN ?_ _ | refine blk_drew ?_ | refine blk_alloc ?_ _)); exact BK241.out) hb); replace HB := Aside0.mk (below_step (pB HB) hb); (try clear hb); (try clear hb2); (try clear hk); (try clear hi)))
               go_meet
               case rel => exact ⟨_, ((t240 != t191)), (by first | rfl | (simp; done) | (simp [*]; done)), H', ⟨by have := HJ24.out; have := HJ97.out; first | omega | exact Nat.le_refl _⟩, ⟨by (try simp only [hl198001_97]); (try simp only [hl203001_97]); (with_reducible repeat (first | apply Kd.R_alloc | apply Kd.R_drewN | apply Kd.R_drew)); exact Kd.R_mono HO_193001.out (fun _ hk => ⟨hk.2.2.2.1, ⟨hk.2.2.2.2.1, ⟨hk.2.2.2.2.2, hk.2.2.1⟩⟩⟩)⟩, ⟨by (try simp only [hl198001_97]); (try simp only [hl203001_97]); (with_reducible repeat (first | apply Kd.R_alloc | apply Kd.R_drewN | apply Kd.R_drew)); exact Kd.R_mono HO_198001.out (fun _ hk => ⟨hk.2.2.2.1, ⟨hk.2.2.2.2.1, ⟨hk.2.2.2.2.2, hk.2.2.1⟩⟩⟩)⟩, ⟨by (try simp only [hl198001_97]); (try simp only [hl203001_97]); (with_reducible repeat (first | apply Kd.R_alloc | apply Kd.R_drewN | apply Kd.R_drew)); exact Kd.R_mono HO_203001.out (fun _ hk => ⟨hk.2.2.2.1, ⟨hk.2.2.2.2.1, ⟨hk.2.2.2.2.2, hk.2.2.1⟩⟩⟩)⟩, ⟨by (try simp only [hl198001_97]); (try simp only [hl203001_97]); (with_reducible repeat (first | apply Kd.R_alloc | apply Kd.R_drewN | apply Kd.R_drew)); exact Kd.R_mono HO_209001.out (fun _ hk => ⟨hk.2.2.2.1, ⟨hk.2.2.2.2.1, ⟨hk.2.2.2.2.2, hk.2.2.1⟩⟩⟩)⟩, ⟨by (try simp only [hl198001_97]); (try simp only [hl203001_97]); (with_reducible repeat (first | apply Kd.R_alloc | apply Kd.R_drewN | apply Kd.R_drew)); exact Kd.R_mono HO239.out (fun _ hk => ⟨hk.2.2.1, ⟨hk.2.2.2.1, ⟨hk.2.2.2.2.1, hk.2.2.2.2.2⟩⟩⟩)⟩, ⟨by (try simp only [hl198001_97]); (try simp only [hl203001_97]); (with_reducible repeat (first | refine blk_drewN ?_ _ | refine blk_drew ?_ | refine blk_alloc ?_ _)); exact BK175.out⟩, ⟨by (try simp only [hl198001_97]); (try simp only [hl203001_97]); (with_reducible repeat (first | refine blk_drewN ?_ _ | refine blk_drew ?_ | refine blk_alloc ?_ _)); exact BK176.out⟩, ⟨by (try simp only [hl198001_97]); (try simp only [hl203001_97]); (with_reducible repeat (first | refine blk_drewN ?_ _ | refine blk_drew ?_ | refine blk_alloc ?_ _)); exact BK192.out⟩, ⟨by (try simp only [hl198001_97]); (try simp only [hl203001_97]); (with_reducible repeat (first | refine blk_drewN ?_ _ | refine blk_drew ?_ | refine blk_alloc ?_ _)); exact BK197.out⟩, ⟨by (try simp only [hl198001_97]); (try simp only [hl203001_97]); (with_reducible repeat (first | refine blk_drewN ?_ _ | refine blk_drew ?_ | refine blk_alloc ?_ _)); exact BK202.out⟩, ⟨by (try simp only [hl198001_97]); (try simp only [hl203001_97]); (with_reducible repeat (first | refine blk_drewN ?_ _ | refine blk_drew ?_ | refine blk_alloc ?_ _)); exact BK208.out⟩, ⟨by (try simp only [hl198001_97]); (try simp only [hl203001_97]); (with_reducible repeat (first | refine blk_drewN ?_ _ | refine blk_drew ?_ | refine blk_alloc ?_ _)); exact BK241.out⟩, ⟨by repeat (first | (with_reducible first | exact HB.out | apply below_alloc | apply pw_below_drewN | apply below_drew1 | refine below_set ?_ GE175.out | refine below_set ?_ GE176.out | refine below_set ?_ GE192.out | refine below_set ?_ GE197.out | refine below_set ?_ GE202.out | refine below_set ?_ GE208.out | refine below_set ?_ GE241.out) | exact HB.out)⟩⟩
              ·replace c165 := Bool.eq_false_iff.mpr c165
               subst c165
               have H1 : (laws_FnExactBelowLadder.j2 kj97 t225 true t203 t226) = some true := by rw [if_neg (show ¬ (false = true) by decide)] at H; exact H
               clear H
               have H := H1
               clear H1
               exfalso
               revert H
               cases kj97 <;> simp [laws_FnExactBelowLadder.j2]
             case rest =>
              clear HC143
              try clear c1
              try clear c2
              try clear p2
              try clear c16
              try clear c17
              try clear c21
              try clear c22
              try clear c23
              try clear c165
              try clear c166
              try clear c167
              try clear c168
              try clear c169
              try clear c170
              try clear c171
              try clear c173
              try clear c174
              try clear c175
              try clear c176
              try clear c177
              try clear hcz172_0
              try clear hcz172_1
              try clear hcz178_0
              try clear hcz178_1
              try clear hfz172_0
              try clear hfz172_1
              try clear hfz178_0
              try clear hfz178_1
              obtain ⟨kq, x110_142, rfl, HA, HJ142, HO_193001, HO_198001, HO_203001, HO_209001, HO_242001, BK175, BK176, BK192, BK197, BK202, BK208, BK241, HB⟩ := hcut
              have hl209001_142 := (Kd.R_reads' HO_209001.out).1
              rw [hl209001_142] at HO_209001
              (try simp only [hl209001_142])
              (try simp only [hl209001_142] at BK175)
              (try simp only [hl209001_142] at BK176)
              (try simp only [hl209001_142] at BK192)
              (try simp only [hl209001_142] at BK197)
              (try simp only [hl209001_142] at BK202)
              (try simp only [hl209001_142] at BK208)
              (try simp only [hl209001_142] at BK241)
              (try simp only [hl209001_142] at HO_193001)
              (try simp only [hl209001_142] at HO_198001)
              (try simp only [hl209001_142] at HO_203001)
              (try simp only [hl209001_142] at HO_242001)
              cases kq with
              | zero => exact absurd HA.out (by simp [laws_FnExactBelowLadder.j2])
              | succ kj142 =>
               have H := HA.out
               clear HA
               simp only [laws_FnExactBelowLadder.j2] at H
               by_cases c180 : x110_142 = true
               ·subst c180
                have H1 : (some false) = some true := by rw [if_pos rfl] at H; exact H
                clear H
                have H := H1
                clear H1
                exact absurd H (by simp)
               ·replace c180 := Bool.eq_false_iff.mpr c180
                subst c180
                have H1 : ((laws_heldLadder.f kj142 t203 t226 1).bind fun t243 => (if t243 < 0 then (some false) else (if t243 = t225 then (some true) else (some false)))) = some true := by rw [if_neg (show ¬ (false = true) by decide)] at H; exact H
                clear H
                have H := H1
                clear H1
                replace H := Option.bind_eq_some_iff.mp H
                obtain ⟨t243, A1810, H⟩ := H
                replace H : (if t243 < 0 then (some false) else (if t243 = t225 then (some true) else (some false))) = some true := H
                have A181 := Aside0.mk A1810
                clear A1810
                by_cases c182 : t243 < 0
                ·rw [if_pos c182] at H
                 have c182b0 : decide (t243 < 0) = true := decide_eq_true c182
                 clear c182
                 exact absurd H (by simp)
                ·rw [if_neg c182] at H
                 have c182b0 : decide (t243 < 0) = false := decide_eq_false c182
                 clear c182
                 by_cases c183 : t243 = t225
                 ·rw [if_pos c183] at H
                  have c183b0 : (t243 == t225) = true := beq_iff_eq.mpr c183
                  have c183b1 : (t243 != t225) = false := bne_eq_false_iff_eq.mpr c183
                  clear c183
                  clear H
                  have hnb184 := NB208_175.out
                  have hnc184 := NB175_208.out
                  have hnb185 := NB208_176.out
                  have hnc185 := NB176_208.out
                  have hnb186 := NB208_192.out
                  have hnc186 := NB192_208.out
                  have hnb187 := NB208_197.out
                  have hnc187 := NB197_208.out
                  have hnb188 := NB208_202.out
                  have hnc188 := NB202_208.out
                  have hnb189 := NB208_241.out
                  have hnc189 := NB241_208.out
                  have hcz190_0 : wc.cell? ⟨gb208, 0, none⟩ = some (.int .i64 t203) := (blk_cell BK208.out 0).trans rfl
                  have hcz190_1 : wc.cell? ⟨gb208, 1, none⟩ = some (.slice Ao74 t226.length co74) := (blk_cell BK208.out 1).trans rfl
                  have hfz190_0 := blk_frozen BK208.out 0
                  have hfz190_1 := blk_frozen BK208.out 1
                  go_wp2_with (first | ((with_reducible refine gate_callee (f := 25) rfl ?_); refine goesL_ (some 113) rfl rfl Try.func25 (by kernel_rfl) rfl #[.agg #[.int .i64 t203, .slice Ao74 t226.length co74], .int .i64 1] rfl (by (try simp only [List.map_toArray, List.map_cons, List.map_nil]); first | done | rfl | (simp only [List.length_drop, List.length_take]; rfl)) ?_; (with_reducible refine (laws_heldLadder.calls kj142 t203 _ _ t226 1 t243 _ ?side1 ?side2 A181.out).mono ?_); (case side1 => repeat (first | exact (Kd.R_reads' HO_209001.out).2.2 | (with_reducible refine Kd.C_alloc ?_ _) | (with_reducible refine Kd.C_drewN ?_ _) | (with_reducible refine Kd.C_drew ?_))); (case side2 => exact (Kd.R_reads' HO_209001.out).2.1); rintro e w191 ⟨rfl, hb⟩; refine ⟨_, rfl, ?_⟩; replace HO_193001 := Aside0.mk (Kd.R_below (pR HO_193001) hb); replace HO_198001 := Aside0.mk (Kd.R_below (pR HO_198001) hb); replace HO_203001 := Aside0.mk (Kd.R_below (pR HO_203001) hb); replace HO_209001 := Aside0.mk (Kd.R_below (pR HO_209001) hb); replace HO_242001 := Aside0.mk (Kd.R_below (pR HO_242001) hb); replace BK175 := Aside0.mk (blk_below (pK BK175) hb); replace BK176 := Aside0.mk (blk_below (pK BK176) hb); replace BK192 := Aside0.mk (blk_below (pK BK192) hb); replace BK197 := Aside0.mk (blk_below (pK BK197) hb); replace BK202 := Aside0.mk (blk_below (pK BK202) hb); replace BK208 := Aside0.mk (blk_below (pK BK208) hb); replace BK241 := Aside0.mk (blk_below (pK BK241) hb); replace HB := Aside0.mk (below_step (pB HB) hb); (try clear hb); (try clear hb2); (try clear hk); (try clear hi)))
                  go_ret
                  exact ⟨by first | rfl | (simp [errW_none, errW_some] <;> rfl) | (simp [*, errW_none, errW_some] <;> rfl), by repeat (first | (with_reducible first | exact HB.out | apply below_alloc | apply pw_below_drewN | apply below_drew1 | refine below_set ?_ GE175.out | refine below_set ?_ GE176.out | refine below_set ?_ GE192.out | refine below_set ?_ GE197.out | refine below_set ?_ GE202.out | refine below_set ?_ GE208.out | refine below_set ?_ GE241.out) | exact HB.out)⟩
                 ·rw [if_neg c183] at H
                  have c183b0 : (t243 == t225) = false := beq_eq_false_iff_ne.mpr c183
                  have c183b1 : (t243 != t225) = true := bne_iff_ne.mpr c183
                  exact absurd H (by simp)
            ·rw [if_neg c139] at H
             have c139b0 : (t227 == t225) = false := beq_eq_false_iff_ne.mpr c139
             have c139b1 : (t227 != t225) = true := bne_iff_ne.mpr c139
             exact absurd H (by simp)
       ·replace c95 := Bool.eq_false_iff.mpr c95
        subst c95
        have H1 : (some false) = some true := by rw [if_neg (show ¬ (false = true) by decide)] at H; exact H
        clear H
        have H := H1
        clear H1
        exact absurd H (by simp)
      ·replace c92 := Bool.eq_false_iff.mpr c92
       subst c92
       have H1 : (some false) = some true := by rw [if_neg (show ¬ (false = true) by decide)] at H; exact H
       clear H
       have H := H1
       clear H1
       exact absurd H (by simp)

/-- THE ONE PURE STATEMENT of laws_FnExactBelowLadder. -/
def laws_FnExactBelowLadder.Pure : Prop := ∀ (a0_0 : Int) (l0_1 : List Int) (a1_0 : Int) (l1_1 : List Int), (Lit.int .i64 a0_0).wf = true → l0_1.length ≤ maxLen → l0_1.length * 8 ≤ 140737488351232 → (∀ x ∈ l0_1, (Lit.int .i64 x).wf = true) → (Lit.int .i64 a1_0).wf = true → l1_1.length ≤ maxLen → l1_1.length * 8 ≤ 140737488351232 → (∀ x ∈ l1_1, (Lit.int .i64 x).wf = true) → ∃ k, laws_FnExactBelowLadder.f k a0_0 l0_1 a1_0 l1_1 = some true
theorem laws_FnExactBelowLadder.walk (P : laws_FnExactBelowLadder.Pure) (a0_0 : Int) (a0_1 : Option Addr) (len0_1 cap0_1 : Nat) (z0_1 : List Int) (a1_0 : Int) (a1_1 : Option Addr) (len1_1 cap1_1 : Nat) (z1_1 : List Int) (w : World) (w0_0 : (Lit.int .i64 a0_0).wf = true) (w0_1 : (a0_1 = none ∧ len0_1 = 0 ∧ cap0_1 = 0 ∧ z0_1 = []) ∨ ∃ x, a0_1 = some x ∧ len0_1 ≤ cap0_1 ∧ cap0_1 ≤ maxLen ∧ z0_1.length = cap0_1 ∧ (∀ i, i < z0_1.length → w.cell? (x.add i) = some (.int .i64 (z0_1.getD i 0))) ∧ ∀ n ∈ z0_1, (Lit.int .i64 n).wf = true) (y0_1 : len0_1 * 8 ≤ 140737488351232) (w1_0 : (Lit.int .i64 a1_0).wf = true) (w1_1 : (a1_1 = none ∧ len1_1 = 0 ∧ cap1_1 = 0 ∧ z1_1 = []) ∨ ∃ x, a1_1 = some x ∧ len1_1 ≤ cap1_1 ∧ cap1_1 ≤ maxLen ∧ z1_1.length = cap1_1 ∧ (∀ i, i < z1_1.length → w.cell? (x.add i) = some (.int .i64 (z1_1.getD i 0))) ∧ ∀ n ∈ z1_1, (Lit.int .i64 n).wf = true) (y1_1 : len1_1 * 8 ≤ 140737488351232) :
  Calls Try.prog 5 #[.agg #[.int .i64 a0_0, .slice a0_1 len0_1 cap0_1], .agg #[.int .i64 a1_0, .slice a1_1 len1_1 cap1_1]] w fun e w' => e = .returned (.bool true) ∧ Below w.heap.size w w' := by
 obtain ⟨l0_1, rfl, hr0_1, hm0_1, hw0_1, hc0_1⟩ := ReadsInt.ofRowC w0_1
 obtain ⟨l1_1, rfl, hr1_1, hm1_1, hw1_1, hc1_1⟩ := ReadsInt.ofRowC w1_1
 obtain ⟨k, h⟩ := P a0_0 l0_1 a1_0 l1_1 w0_0 hm0_1 y0_1 hw0_1 w1_0 hm1_1 y1_1 hw1_1
 refine (laws_FnExactBelowLadder.calls k a0_0 _ _ l0_1 a1_0 _ _ l1_1 w (Kd.C_of_reads (d := (0 : Int)) (h1 := fun _ => rfl) hr0_1) hc0_1 (Kd.C_of_reads (d := (0 : Int)) (h1 := fun _ => rfl) hr1_1) hc1_1 h).mono ?_
 rintro e w' ⟨rfl, hd⟩
 exact ⟨rfl, hd⟩

end
end Go.Proofs.Ytciboaihodoglaa.PBl
