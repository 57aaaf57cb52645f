-- Written for this claim by a program of this session (myprint.py) over the kit's printer.
import Derived.Test.YtldcjlpbodpmbaaDoorPMmx0
import Derived.Test.YtldcjlpbodpmbaaDoorPMmx1
import Derived.Test.YtldcjlpbodpmbaaDoorPMmx2
import Derived.Test.YtldcjlpbodpmbaaDoorPMmx7
import Derived.Test.YtldcjlpbodpmbaaDoorPMmx13
namespace Go.Proofs.YtldcjlpbodpmbaaDoor.PMm
noncomputable section
open Go.RowKit Go.Proofs.YtldcjlpbodpmbaaDoorW.PrintWords Go.Proofs.YtldcjlpbodpmbaaDoorW.PrintLast Go.Proofs.YtldcjlpbodpmbaaDoorW.PrintMore
attribute [local go_sem] max2_int min2_int max_two min_two max_three min_three max_four min_four   -- for this text's walks alone
open List (setIfInBounds_toArray set_cons_zero set_cons_succ)
set_option linter.unusedVariables false
set_option linter.unusedSimpArgs false
theorem pRq14 {α : Type} {d : Kd α} {e base : Nat} {ok : Nat → Prop} {v : Value} {xs : List α} {w W : World} (h0 : Aside0 (Kd.R d e w base ok v xs)) (hp : Kd.R d e W base ok v xs := by (with_reducible repeat (first | apply Kd.R_alloc | apply Kd.R_drewN | apply Kd.R_drew)); exact Aside0.out (by with_reducible assumption)) : Kd.R d e W base ok v xs := hp
theorem pKq14 {g : Nat} {o : Obj} {w W : World} (h0 : Aside0 (w.heap[g]? = some o)) (hp : W.heap[g]? = some o := by (with_reducible repeat (first | refine blk_drewN ?_ _ | refine blk_drew ?_ | refine blk_alloc ?_ _)); exact Aside0.out (by with_reducible assumption)) : W.heap[g]? = some o := hp
theorem pBq14 {b : Nat} {w0 w W : World} (h0 : Aside0 (Below b w0 w)) (hp : Below b w0 W := by repeat (first | (with_reducible first | exact Aside0.out (by assumption) | apply below_alloc | apply pw_below_drewN | apply below_drew1 | refine below_set ?_ (Aside0.out (by assumption))))) : Below b w0 W := hp
/-! ### laws_FnExactMakeMove: function 6 -/
mutual
def laws_FnExactMakeMove.j0 : Nat → ByteArray → Bool → Bool → Bool → Int → List Int → Int → List Int → Int → List Int → Int → List Int → Option (Bool)
 | 0, _, _, _, _, _, _, _, _, _, _, _, _ => none
 | k + 1, x1, x7, x10, x47, x329000, x329001, x340000, x340001, x345000, x345001, x351000, x351001 => if x47 = true then (some false) else ((laws_toLadder.f k x329000 x329001).bind fun bt352 => ((laws_eqLadder.f k x345000 x345001 bt352.1 bt352.2).bind fun t356 => (if t356 = true then ((laws_markLadder.f k x345000 x345001 1).bind fun bt357 => (if bt357.1 < 0 then (laws_FnExactMakeMove.j1 k x1 x7 true x329000 x329001 x340000 x340001 x351000 x351001) else ((laws_eqLadder.f k x351000 x351001 x340000 x340001).bind fun t359 => (if t359 = true then (laws_FnExactMakeMove.j1 k x1 x7 (x10 != x7) x329000 x329001 x340000 x340001 x351000 x351001) else (laws_FnExactMakeMove.j1 k x1 x7 true x329000 x329001 x340000 x340001 x351000 x351001))))) else (some false))))
def laws_FnExactMakeMove.j1 : Nat → ByteArray → Bool → Bool → Int → List Int → Int → List Int → Int → List Int → Option (Bool)
 | 0, _, _, _, _, _, _, _, _, _ => none
 | k + 1, x1, x7, x68, x329000, x329001, x340000, x340001, x351000, x351001 => if x68 = true then (some false) else ((laws_markLadder.f k x351000 x351001 1).bind fun bt360 => ((laws_heldLadder.f k x351000 bt360.2 1).bind fun t362 => (if t362 < 0 then (some false) else (if t362 = bt360.1 then ((laws_toLadder.f k x329000 x329001).bind fun bt363 => ((impl_MakeMove.f bt363.1 bt363.2 x1).bind fun bt367 => ((laws_eqLadder.f k bt367.1 bt367.2.1 x340000 x340001).bind fun t373 => (if t373 = true then (laws_FnExactMakeMove.j2 k bt360.1 (bt367.2.2 != x7) x351000 bt360.2) else (laws_FnExactMakeMove.j2 k bt360.1 true x351000 bt360.2))))) else (some false)))))
def laws_FnExactMakeMove.j2 : Nat → Int → Bool → Int → List Int → Option (Bool)
 | 0, _, _, _, _ => none
 | k + 1, x12, x95, x351000, x351001 => if x95 = true then (some false) else ((laws_heldLadder.f k x351000 x351001 1).bind fun t374 => (if t374 < 0 then (some false) else (if t374 = x12 then (some true) else (some false))))
end
def laws_FnExactMakeMove.f (k : Nat) (a0_0 : Int) (l0_1 : List Int) (a1 : ByteArray) : Option (Bool) := if (a1.size : Int) > 1048576 then (some true) else ((laws_szLadder.f a0_0 l0_1 1048576).bind fun t329 => (if t329 < 0 then (some true) else ((laws_toLadder.f k a0_0 l0_1).bind fun bt330 => ((spec_MakeMove.f k bt330.1 bt330.2 a1).bind fun bt334 => ((laws_toLadder.f k a0_0 l0_1).bind fun bt340 => ((impl_MakeMove.f bt340.1 bt340.2 a1).bind fun bt345 => ((laws_eqLadder.f k bt345.1 bt345.2.1 bt334.1 bt334.2.1).bind fun t351 => (if t351 = true then (laws_FnExactMakeMove.j0 k a1 bt334.2.2 bt345.2.2 (bt345.2.2 != bt334.2.2) a0_0 l0_1 bt334.1 bt334.2.1 bt340.1 bt340.2 bt345.1 bt345.2.1) else (laws_FnExactMakeMove.j0 k a1 bt334.2.2 bt345.2.2 true a0_0 l0_1 bt334.1 bt334.2.1 bt340.1 bt340.2 bt345.1 bt345.2.1)))))))))
theorem laws_FnExactMakeMove.mono_l : ∀ k, (∀ y0 y1 y2 y3 y4 y5 y6 y7 y8 y9 y10 y11, LeO (laws_FnExactMakeMove.j0 k y0 y1 y2 y3 y4 y5 y6 y7 y8 y9 y10 y11) (laws_FnExactMakeMove.j0 (k + 1) y0 y1 y2 y3 y4 y5 y6 y7 y8 y9 y10 y11)) ∧ (∀ y0 y1 y2 y3 y4 y5 y6 y7 y8, LeO (laws_FnExactMakeMove.j1 k y0 y1 y2 y3 y4 y5 y6 y7 y8) (laws_FnExactMakeMove.j1 (k + 1) y0 y1 y2 y3 y4 y5 y6 y7 y8)) ∧ (∀ y0 y1 y2 y3, LeO (laws_FnExactMakeMove.j2 k y0 y1 y2 y3) (laws_FnExactMakeMove.j2 (k + 1) y0 y1 y2 y3))
 | 0 => ⟨fun _ _ _ _ _ _ _ _ _ _ _ _ r h => by simp [laws_FnExactMakeMove.j0] at h, fun _ _ _ _ _ _ _ _ _ r h => by simp [laws_FnExactMakeMove.j1] at h, fun _ _ _ _ r h => by simp [laws_FnExactMakeMove.j2] at h⟩
 | k + 1 => by
  obtain ⟨ih0, ih1, ih2⟩ := laws_FnExactMakeMove.mono_l k
  refine ⟨?_, ?_, ?_⟩
  ·intro y0 y1 y2 y3 y4 y5 y6 y7 y8 y9 y10 y11
   unfold laws_FnExactMakeMove.j0
   repeat' first
   | (with_reducible exact ih0 _ _ _ _ _ _ _ _ _ _ _ _)
   | (with_reducible exact ih1 _ _ _ _ _ _ _ _ _)
   | (with_reducible exact ih2 _ _ _ _)
   | (with_reducible exact laws_eqLadder.mono _ _ _ _ _)
   | (with_reducible exact laws_heldLadder.mono _ _ _ _)
   | (with_reducible exact laws_markLadder.mono _ _ _ _)
   | (with_reducible exact laws_toLadder.mono _ _ _)
   | (with_reducible exact spec_MakeMove.mono _ _ _ _)
   | (with_reducible exact LeO.refl _)
   | (with_reducible exact LeO.none _)
   | (with_reducible refine LeO.ite ?_ ?_)
   | (with_reducible refine LeO.bind ?_ (fun _ => ?_))
   | exact ih0 _ _ _ _ _ _ _ _ _ _ _ _
   | exact ih1 _ _ _ _ _ _ _ _ _
   | exact ih2 _ _ _ _
   | exact laws_eqLadder.mono _ _ _ _ _
   | exact laws_heldLadder.mono _ _ _ _
   | exact laws_markLadder.mono _ _ _ _
   | exact laws_toLadder.mono _ _ _
   | exact spec_MakeMove.mono _ _ _ _
   | exact LeO.none _
   | refine LeO.ite ?_ ?_
   | refine LeO.bind ?_ (fun _ => ?_)
  ·intro y0 y1 y2 y3 y4 y5 y6 y7 y8
   unfold laws_FnExactMakeMove.j1
   repeat' first
   | (with_reducible exact ih0 _ _ _ _ _ _ _ _ _ _ _ _)
   | (with_reducible exact ih1 _ _ _ _ _ _ _ _ _)
   | (with_reducible exact ih2 _ _ _ _)
   | (with_reducible exact laws_eqLadder.mono _ _ _ _ _)
   | (with_reducible exact laws_heldLadder.mono _ _ _ _)
   | (with_reducible exact laws_markLadder.mono _ _ _ _)
   | (with_reducible exact laws_toLadder.mono _ _ _)
   | (with_reducible exact spec_MakeMove.mono _ _ _ _)
   | (with_reducible exact LeO.refl _)
   | (with_reducible exact LeO.none _)
   | (with_reducible refine LeO.ite ?_ ?_)
   | (with_reducible refine LeO.bind ?_ (fun _ => ?_))
   | exact ih0 _ _ _ _ _ _ _ _ _ _ _ _
   | exact ih1 _ _ _ _ _ _ _ _ _
   | exact ih2 _ _ _ _
   | exact laws_eqLadder.mono _ _ _ _ _
   | exact laws_heldLadder.mono _ _ _ _
   | exact laws_markLadder.mono _ _ _ _
   | exact laws_toLadder.mono _ _ _
   | exact spec_MakeMove.mono _ _ _ _
   | exact LeO.none _
   | refine LeO.ite ?_ ?_
   | refine LeO.bind ?_ (fun _ => ?_)
  ·intro y0 y1 y2 y3
   unfold laws_FnExactMakeMove.j2
   repeat' first
   | (with_reducible exact ih0 _ _ _ _ _ _ _ _ _ _ _ _)
   | (with_reducible exact ih1 _ _ _ _ _ _ _ _ _)
   | (with_reducible exact ih2 _ _ _ _)
   | (with_reducible exact laws_eqLadder.mono _ _ _ _ _)
   | (with_reducible exact laws_heldLadder.mono _ _ _ _)
   | (with_reducible exact laws_markLadder.mono _ _ _ _)
   | (with_reducible exact laws_toLadder.mono _ _ _)
   | (with_reducible exact spec_MakeMove.mono _ _ _ _)
   | (with_reducible exact LeO.refl _)
   | (with_reducible exact LeO.none _)
   | (with_reducible refine LeO.ite ?_ ?_)
   | (with_reducible refine LeO.bind ?_ (fun _ => ?_))
   | exact ih0 _ _ _ _ _ _ _ _ _ _ _ _
   | exact ih1 _ _ _ _ _ _ _ _ _
   | exact ih2 _ _ _ _
   | exact laws_eqLadder.mono _ _ _ _ _
   | exact laws_heldLadder.mono _ _ _ _
   | exact laws_markLadder.mono _ _ _ _
   | exact laws_toLadder.mono _ _ _
   | exact spec_MakeMove.mono _ _ _ _
   | exact LeO.none _
   | refine LeO.ite ?_ ?_
   | refine LeO.bind ?_ (fun _ => ?_)
theorem laws_FnExactMakeMove.mono : ∀ a0 a1 a2 k, LeO (laws_FnExactMakeMove.f k a0 a1 a2) (laws_FnExactMakeMove.f (k + 1) a0 a1 a2) := by
 intro a0 a1 a2 k
 obtain ⟨ih0, ih1, ih2⟩ := laws_FnExactMakeMove.mono_l k
 unfold laws_FnExactMakeMove.f
 repeat' first
   | (with_reducible exact ih0 _ _ _ _ _ _ _ _ _ _ _ _)
   | (with_reducible exact ih1 _ _ _ _ _ _ _ _ _)
   | (with_reducible exact ih2 _ _ _ _)
   | (with_reducible exact laws_eqLadder.mono _ _ _ _ _)
   | (with_reducible exact laws_heldLadder.mono _ _ _ _)
   | (with_reducible exact laws_markLadder.mono _ _ _ _)
   | (with_reducible exact laws_toLadder.mono _ _ _)
   | (with_reducible exact spec_MakeMove.mono _ _ _ _)
   | (with_reducible exact LeO.refl _)
   | (with_reducible exact LeO.none _)
   | (with_reducible refine LeO.ite ?_ ?_)
   | (with_reducible refine LeO.bind ?_ (fun _ => ?_))
   | exact ih0 _ _ _ _ _ _ _ _ _ _ _ _
   | exact ih1 _ _ _ _ _ _ _ _ _
   | exact ih2 _ _ _ _
   | exact laws_eqLadder.mono _ _ _ _ _
   | exact laws_heldLadder.mono _ _ _ _
   | exact laws_markLadder.mono _ _ _ _
   | exact laws_toLadder.mono _ _ _
   | exact spec_MakeMove.mono _ _ _ _
   | exact LeO.none _
   | refine LeO.ite ?_ ?_
   | refine LeO.bind ?_ (fun _ => ?_)
set_option maxHeartbeats 8000000 in
set_option maxRecDepth 100000 in
theorem laws_FnExactMakeMove.calls (k : Nat) (a0_0 : Int) (A0_1 : Option Addr) (c0_1 : Nat) (l0_1 : List Int) (a1 : ByteArray) (w : World) (HV : Aside0 (impl_readNumber.VOK w)) (hr0_1 : Kd.C (Kd.int .i64) w A0_1 l0_1.length l0_1) (hc0_1 : l0_1.length ≤ c0_1) (h : laws_FnExactMakeMove.f k a0_0 l0_1 a1 = some true) :
  Calls Tryd.prog 6 #[.agg #[.int .i64 a0_0, .slice A0_1 l0_1.length c0_1], .string a1] w fun e w' => e = .returned (.bool true) ∧ Below w.heap.size w w' := by
 have hu24 := Tryd.underlying24
 have hu28 := Tryd.underlying28
 have HR0_1 := Aside0.mk hr0_1
 have HC0_1 := Aside0.mk hc0_1
 clear hr0_1 hc0_1
 have HB := Aside0.mk (Below.refl w.heap.size w)
 have H : (if (a1.size : Int) > 1048576 then (some true) else ((laws_szLadder.f a0_0 l0_1 1048576).bind fun t329 => (if t329 < 0 then (some true) else ((laws_toLadder.f k a0_0 l0_1).bind fun bt330 => ((spec_MakeMove.f k bt330.1 bt330.2 a1).bind fun bt334 => ((laws_toLadder.f k a0_0 l0_1).bind fun bt340 => ((impl_MakeMove.f bt340.1 bt340.2 a1).bind fun bt345 => ((laws_eqLadder.f k bt345.1 bt345.2.1 bt334.1 bt334.2.1).bind fun t351 => (if t351 = true then (laws_FnExactMakeMove.j0 k a1 bt334.2.2 bt345.2.2 (bt345.2.2 != bt334.2.2) a0_0 l0_1 bt334.1 bt334.2.1 bt340.1 bt340.2 bt345.1 bt345.2.1) else (laws_FnExactMakeMove.j0 k a1 bt334.2.2 bt345.2.2 true a0_0 l0_1 bt334.1 bt334.2.1 bt340.1 bt340.2 bt345.1 bt345.2.1)))))))))) = some true := h
 clear h
 by_cases c3 : (a1.size : Int) > 1048576
 ·rw [if_pos c3] at H
  have c3b0 : decide (1048576 < (a1.size : Int)) = true := decide_eq_true c3
  have c3b1 : decide (1048576 < a1.size) = true := decide_eq_true (by omega)
  clear c3
  clear H
  go_enter Tryd.func6, Tryd.ntmps6
  go_wp2_with (first | ((with_reducible refine gate_dst (N := 2) rfl ?_); refine box_event ?hg (N := 2) ?hd (cs := #[.int .i64 a0_0, .slice A0_1 l0_1.length c0_1]) (t := 24) ?hr ?_; (case hd => rfl); (case hg => rfl); (case hr => first | (go_simp; done) | (go_simp; rfl)); intro gb328 hg w4 hbox hb; have BK328 := Aside0.mk (hbox); have GW328 := Aside0.mk ((by rw [hg]; exact (below_size (pBq14 HB)) : w.heap.size ≤ gb328)); have GE328 := Aside0.mk ((by rw [hg]; exact (below_size (pBq14 HB)) : w.heap.size ≤ gb328)); replace HB := Aside0.mk (below_step (pBq14 HB) hb); clear hb hbox hg))
  go_ret
  exact ⟨by first | rfl | (simp [errW_none, errW_some] <;> rfl) | (simp [*, errW_none, errW_some] <;> rfl), by repeat (first | (with_reducible first | exact HB.out | apply below_alloc | apply pw_below_drewN | apply below_drew1 | refine below_set ?_ GE328.out) | exact HB.out)⟩
 ·rw [if_neg c3] at H
  have c3b0 : decide (1048576 < (a1.size : Int)) = false := decide_eq_false c3
  have c3b1 : decide (1048576 < a1.size) = false := decide_eq_false (by omega)
  clear c3
  replace H := Option.bind_eq_some_iff.mp H
  obtain ⟨t329, A50, H⟩ := H
  replace H : (if t329 < 0 then (some true) else ((laws_toLadder.f k a0_0 l0_1).bind fun bt330 => ((spec_MakeMove.f k bt330.1 bt330.2 a1).bind fun bt334 => ((laws_toLadder.f k a0_0 l0_1).bind fun bt340 => ((impl_MakeMove.f bt340.1 bt340.2 a1).bind fun bt345 => ((laws_eqLadder.f k bt345.1 bt345.2.1 bt334.1 bt334.2.1).bind fun t351 => (if t351 = true then (laws_FnExactMakeMove.j0 k a1 bt334.2.2 bt345.2.2 (bt345.2.2 != bt334.2.2) a0_0 l0_1 bt334.1 bt334.2.1 bt340.1 bt340.2 bt345.1 bt345.2.1) else (laws_FnExactMakeMove.j0 k a1 bt334.2.2 bt345.2.2 true a0_0 l0_1 bt334.1 bt334.2.1 bt340.1 bt340.2 bt345.1 bt345.2.1)))))))) = some true := H
  have A5 := Aside0.mk A50
  clear A50
  by_cases c6 : t329 < 0
  ·rw [if_pos c6] at H
   have c6b0 : decide (t329 < 0) = true := decide_eq_true c6
   clear c6
   clear H
   go_enter Tryd.func6, Tryd.ntmps6
   go_wp2_with (first | ((with_reducible refine gate_dst (N := 2) rfl ?_); refine box_event ?hg (N := 2) ?hd (cs := #[.int .i64 a0_0, .slice A0_1 l0_1.length c0_1]) (t := 24) ?hr ?_; (case hd => rfl); (case hg => rfl); (case hr => first | (go_simp; done) | (go_simp; rfl)); intro gb328 hg w7 hbox hb; have BK328 := Aside0.mk (hbox); have GW328 := Aside0.mk ((by rw [hg]; exact (below_size (pBq14 HB)) : w.heap.size ≤ gb328)); have GE328 := Aside0.mk ((by rw [hg]; exact (below_size (pBq14 HB)) : w.heap.size ≤ gb328)); replace HB := Aside0.mk (below_step (pBq14 HB) hb); clear hb hbox hg; have hcz8_0 : w7.cell? ⟨gb328, 0, none⟩ = some (.int .i64 a0_0) := (blk_cell BK328.out 0).trans rfl; have hcz8_1 : w7.cell? ⟨gb328, 1, none⟩ = some (.slice A0_1 l0_1.length c0_1) := (blk_cell BK328.out 1).trans rfl; have hfz8_0 := blk_frozen BK328.out 0; have hfz8_1 := blk_frozen BK328.out 1) | ((with_reducible refine gate_callee (f := 7) rfl ?_); refine goesL_ (some 21) rfl rfl Tryd.func7 (by kernel_rfl) rfl #[.agg #[.int .i64 a0_0, .slice A0_1 l0_1.length c0_1], .int .i64 1048576] rfl (by (try simp only [List.map_toArray, List.map_cons, List.map_nil]); first | done | rfl | (simp only [List.length_drop, List.length_take]; rfl)) ?_; (with_reducible refine (laws_szLadder.calls a0_0 _ _ l0_1 1048576 t329 _ ?side1 ?side2 A5.out).mono ?_); (case side1 => repeat (first | exact (Kd.C_below HR0_1.out HB.out) | (with_reducible refine Kd.C_alloc ?_ _) | (with_reducible refine Kd.C_drewN ?_ _) | (with_reducible refine Kd.C_drew ?_))); (case side2 => exact HC0_1.out); rintro e w9 ⟨rfl, hb⟩; refine ⟨_, rfl, ?_⟩; replace BK328 := Aside0.mk (blk_below (pKq14 BK328) hb); replace HB := Aside0.mk (below_step (pBq14 HB) hb); (try clear hb); (try clear hb2); (try clear hk); (try clear hi)))
   go_ret
   exact ⟨by first | rfl | (simp [errW_none, errW_some] <;> rfl) | (simp [*, errW_none, errW_some] <;> rfl), by repeat (first | (with_reducible first | exact HB.out | apply below_alloc | apply pw_below_drewN | apply below_drew1 | refine below_set ?_ GE328.out) | exact HB.out)⟩
  ·rw [if_neg c6] at H
   have c6b0 : decide (t329 < 0) = false := decide_eq_false c6
   clear c6
   replace H := Option.bind_eq_some_iff.mp H
   obtain ⟨⟨t330, t331⟩, A100, H⟩ := H
   replace H : ((spec_MakeMove.f k t330 t331 a1).bind fun bt334 => ((laws_toLadder.f k a0_0 l0_1).bind fun bt340 => ((impl_MakeMove.f bt340.1 bt340.2 a1).bind fun bt345 => ((laws_eqLadder.f k bt345.1 bt345.2.1 bt334.1 bt334.2.1).bind fun t351 => (if t351 = true then (laws_FnExactMakeMove.j0 k a1 bt334.2.2 bt345.2.2 (bt345.2.2 != bt334.2.2) a0_0 l0_1 bt334.1 bt334.2.1 bt340.1 bt340.2 bt345.1 bt345.2.1) else (laws_FnExactMakeMove.j0 k a1 bt334.2.2 bt345.2.2 true a0_0 l0_1 bt334.1 bt334.2.1 bt340.1 bt340.2 bt345.1 bt345.2.1)))))) = some true := H
   have A10 := Aside0.mk A100
   clear A100
   replace H := Option.bind_eq_some_iff.mp H
   obtain ⟨⟨t334, t335, t338⟩, A110, H⟩ := H
   replace H : ((laws_toLadder.f k a0_0 l0_1).bind fun bt340 => ((impl_MakeMove.f bt340.1 bt340.2 a1).bind fun bt345 => ((laws_eqLadder.f k bt345.1 bt345.2.1 t334 t335).bind fun t351 => (if t351 = true then (laws_FnExactMakeMove.j0 k a1 t338 bt345.2.2 (bt345.2.2 != t338) a0_0 l0_1 t334 t335 bt340.1 bt340.2 bt345.1 bt345.2.1) else (laws_FnExactMakeMove.j0 k a1 t338 bt345.2.2 true a0_0 l0_1 t334 t335 bt340.1 bt340.2 bt345.1 bt345.2.1))))) = some true := H
   have A11 := Aside0.mk A110
   clear A110
   replace H := Option.bind_eq_some_iff.mp H
   obtain ⟨⟨t340, t341⟩, A120, H⟩ := H
   replace H : ((impl_MakeMove.f t340 t341 a1).bind fun bt345 => ((laws_eqLadder.f k bt345.1 bt345.2.1 t334 t335).bind fun t351 => (if t351 = true then (laws_FnExactMakeMove.j0 k a1 t338 bt345.2.2 (bt345.2.2 != t338) a0_0 l0_1 t334 t335 t340 t341 bt345.1 bt345.2.1) else (laws_FnExactMakeMove.j0 k a1 t338 bt345.2.2 true a0_0 l0_1 t334 t335 t340 t341 bt345.1 bt345.2.1)))) = some true := H
   have A12 := Aside0.mk A120
   clear A120
   replace H := Option.bind_eq_some_iff.mp H
   obtain ⟨⟨t345, t346, t349⟩, A130, H⟩ := H
   replace H : ((laws_eqLadder.f k t345 t346 t334 t335).bind fun t351 => (if t351 = true then (laws_FnExactMakeMove.j0 k a1 t338 t349 (t349 != t338) a0_0 l0_1 t334 t335 t340 t341 t345 t346) else (laws_FnExactMakeMove.j0 k a1 t338 t349 true a0_0 l0_1 t334 t335 t340 t341 t345 t346))) = some true := H
   have A13 := Aside0.mk A130
   clear A130
   have HC14 := Aside0.mk H
   clear H
   go_enter Tryd.func6, Tryd.ntmps6
   go_upto_region 10 with (first | ((with_reducible refine gate_dst (N := 2) rfl ?_); refine box_event ?hg (N := 2) ?hd (cs := #[.int .i64 a0_0, .slice A0_1 l0_1.length c0_1]) (t := 24) ?hr ?_; (case hd => rfl); (case hg => rfl); (case hr => first | (go_simp; done) | (go_simp; rfl)); intro gb328 hg w15 hbox hb; have BK328 := Aside0.mk (hbox); have GW328 := Aside0.mk ((by rw [hg]; exact (below_size (pBq14 HB)) : w.heap.size ≤ gb328)); have GE328 := Aside0.mk ((by rw [hg]; exact (below_size (pBq14 HB)) : w.heap.size ≤ gb328)); replace HB := Aside0.mk (below_step (pBq14 HB) hb); clear hb hbox hg; have hcz16_0 : w15.cell? ⟨gb328, 0, none⟩ = some (.int .i64 a0_0) := (blk_cell BK328.out 0).trans rfl; have hcz16_1 : w15.cell? ⟨gb328, 1, none⟩ = some (.slice A0_1 l0_1.length c0_1) := (blk_cell BK328.out 1).trans rfl; have hfz16_0 := blk_frozen BK328.out 0; have hfz16_1 := blk_frozen BK328.out 1) | ((with_reducible refine gate_callee (f := 7) rfl ?_); refine goesL_ (some 21) rfl rfl Tryd.func7 (by kernel_rfl) rfl #[.agg #[.int .i64 a0_0, .slice A0_1 l0_1.length c0_1], .int .i64 1048576] rfl (by (try simp only [List.map_toArray, List.map_cons, List.map_nil]); first | done | rfl | (simp only [List.length_drop, List.length_take]; rfl)) ?_; (with_reducible refine (laws_szLadder.calls a0_0 _ _ l0_1 1048576 t329 _ ?side1 ?side2 A5.out).mono ?_); (case side1 => repeat (first | exact (Kd.C_below HR0_1.out HB.out) | (with_reducible refine Kd.C_alloc ?_ _) | (with_reducible refine Kd.C_drewN ?_ _) | (with_reducible refine Kd.C_drew ?_))); (case side2 => exact HC0_1.out); rintro e w17 ⟨rfl, hb⟩; refine ⟨_, rfl, ?_⟩; replace BK328 := Aside0.mk (blk_below (pKq14 BK328) hb); replace HB := Aside0.mk (below_step (pBq14 HB) hb); (try clear hb); (try clear hb2); (try clear hk); (try clear hi); have hcz18_0 : w17.cell? ⟨gb328, 0, none⟩ = some (.int .i64 a0_0) := (blk_cell BK328.out 0).trans rfl; have hcz18_1 : w17.cell? ⟨gb328, 1, none⟩ = some (.slice A0_1 l0_1.length c0_1) := (blk_cell BK328.out 1).trans rfl; have hfz18_0 := blk_frozen BK328.out 0; have hfz18_1 := blk_frozen BK328.out 1) | ((with_reducible refine gate_callee (f := 9) rfl ?_); refine goesL_ (some 26) rfl rfl Tryd.func9 (by kernel_rfl) rfl #[.agg #[.int .i64 a0_0, .slice A0_1 l0_1.length c0_1]] rfl (by (try simp only [List.map_toArray, List.map_cons, List.map_nil]); first | done | rfl | (simp only [List.length_drop, List.length_take]; rfl)) ?_; (with_reducible refine (laws_toLadder.calls k a0_0 _ _ l0_1 t330 t331 _ ?side1 ?side2 A10.out).mono ?_); (case side1 => repeat (first | exact (Kd.C_below HR0_1.out HB.out) | (with_reducible refine Kd.C_alloc ?_ _) | (with_reducible refine Kd.C_drewN ?_ _) | (with_reducible refine Kd.C_drew ?_))); (case side2 => exact HC0_1.out); rintro e w19 ⟨v332, rfl, ho0, hb⟩; refine ⟨_, rfl, ?_⟩; have HO333 := Aside0.mk (Kd.R_lower ho0 (below_size (pBq14 HB))); replace BK328 := Aside0.mk (blk_below (pKq14 BK328) hb); replace HB := Aside0.mk (below_step (pBq14 HB) hb); (try clear hb); (try clear hb2); (try clear hk); (try clear hi); (try clear ho0); obtain ⟨Ao20, co20, eo20⟩ := Kd.R_slice HO333.out; subst eo20) | ((with_reducible refine gate_callee (f := 21) rfl ?_); refine goesL_ (some 28) rfl rfl Tryd.func21 (by kernel_rfl) rfl #[.agg #[.int .i64 t330, .slice Ao20 t331.length co20], .string a1] rfl (by (try simp only [List.map_toArray, List.map_cons, List.map_nil]); first | done | rfl | (simp only [List.length_drop, List.length_take]; rfl)) ?_; (with_reducible refine (spec_MakeMove.calls k t330 _ _ t331 a1 t334 t335 t338 _ ?side1 ?side2 A11.out).mono ?_); (case side1 => repeat (first | exact (Kd.R_reads' HO333.out).2.2 | (with_reducible refine Kd.C_alloc ?_ _) | (with_reducible refine Kd.C_drewN ?_ _) | (with_reducible refine Kd.C_drew ?_))); (case side2 => exact (Kd.R_reads' HO333.out).2.1); rintro e w21 ⟨v336, rfl, ho0, hb⟩; refine ⟨_, rfl, ?_⟩; have HO337 := Aside0.mk (Kd.R_lower (Kd.R_new' ho0 (Kd.R_lt (pRq14 HO333))) (below_size (pBq14 HB))); replace HO333 := Aside0.mk (Kd.R_elder' (pRq14 HO333) (Kd.R_base ho0) hb); replace BK328 := Aside0.mk (blk_below (pKq14 BK328) hb); replace HB := Aside0.mk (below_step (pBq14 HB) hb); (try clear hb); (try clear hb2); (try clear hk); (try clear hi); (try clear ho0)) | ((with_reducible refine gate_dst (N := 6) rfl ?_); refine box_event ?hg (N := 6) ?hd (cs := #[.int .i64 0, .slice none 0 0]) (t := 28) ?hr ?_; (case hd => rfl); (case hg => rfl); (case hr => first | (go_simp; done) | (go_simp; rfl)); intro gb339 hg w22 hbox hb; have BK339 := Aside0.mk (hbox); have GW339 := Aside0.mk ((by rw [hg]; exact (below_size (pBq14 HB)) : w.heap.size ≤ gb339)); have GE339 := Aside0.mk ((by rw [hg]; exact (below_size (pBq14 HB)) : w.heap.size ≤ gb339)); have NB328_339 := Aside0.mk ((by rw [hg]; exact Nat.ne_of_lt (blk_lt (pKq14 BK328)) : gb328 ≠ gb339)); have NB339_328 := Aside0.mk ((by rw [hg]; exact Nat.ne_of_gt (blk_lt (pKq14 BK328)) : gb339 ≠ gb328)); replace HO333 := Aside0.mk (Kd.R_below (pRq14 HO333) hb); replace HO337 := Aside0.mk (Kd.R_below (pRq14 HO337) hb); replace BK328 := Aside0.mk (blk_below (pKq14 BK328) hb); replace HB := Aside0.mk (below_step (pBq14 HB) hb); clear hb hbox hg; have hnb23 := NB339_328.out; have hnc23 := NB328_339.out; have hcz24_0 : w22.cell? ⟨gb339, 0, none⟩ = some (.int .i64 0) := (blk_cell BK339.out 0).trans rfl; have hcz24_1 : w22.cell? ⟨gb339, 1, none⟩ = some (.slice none 0 0) := (blk_cell BK339.out 1).trans rfl; have hfz24_0 := blk_frozen BK339.out 0; have hfz24_1 := blk_frozen BK339.out 1; obtain ⟨Ao25, co25, eo25⟩ := Kd.R_slice HO337.out; subst eo25; have hcz26_0 : w22.cell? ⟨gb328, 0, none⟩ = some (.int .i64 a0_0) := (blk_cell BK328.out 0).trans rfl; have hcz26_1 : w22.cell? ⟨gb328, 1, none⟩ = some (.slice A0_1 l0_1.length c0_1) := (blk_cell BK328.out 1).trans rfl; have hfz26_0 := blk_frozen BK328.out 0; have hfz26_1 := blk_frozen BK328.out 1) | ((with_reducible refine gate_callee (f := 9) rfl ?_); refine goesL_ (some 32) rfl rfl Tryd.func9 (by kernel_rfl) rfl #[.agg #[.int .i64 a0_0, .slice A0_1 l0_1.length c0_1]] rfl (by (try simp only [List.map_toArray, List.map_cons, List.map_nil]); first | done | rfl | (simp only [List.length_drop, List.length_take]; rfl)) ?_; (with_reducible refine (laws_toLadder.calls k a0_0 _ _ l0_1 t340 t341 _ ?side1 ?side2 A12.out).mono ?_); (case side1 => exact Kd.C_below HR0_1.out (pBq14 HB)); (case side2 => exact HC0_1.out); rintro e w27 ⟨v342, rfl, ho0, hb⟩; refine ⟨_, rfl, ?_⟩; have HO343 := Aside0.mk (Kd.R_lower (Kd.R_new' (Kd.R_new' ho0 (Kd.R_lt (by (with_reducible repeat (first | apply Kd.R_alloc | apply Kd.R_drewN | apply Kd.R_drew)); exact (Kd.R_mono (Kd.R_far (p := ⟨gb339, 1, none⟩) (Kd.R_far (p := ⟨gb339, 0, none⟩) (Kd.R_types HO333.out BK339.out (by decide)) (fun _ hk => hk.2) (.int .i64 t334)) (fun _ hk => hk.2) (.slice Ao25 t335.length co25)) (fun _ h_ => h_.1))))) (Kd.R_lt (by (with_reducible repeat (first | apply Kd.R_alloc | apply Kd.R_drewN | apply Kd.R_drew)); exact (Kd.R_mono (Kd.R_far (p := ⟨gb339, 1, none⟩) (Kd.R_far (p := ⟨gb339, 0, none⟩) (Kd.R_types HO337.out BK339.out (by decide)) (fun _ hk => hk.2) (.int .i64 t334)) (fun _ hk => hk.2) (.slice Ao25 t335.length co25)) (fun _ h_ => h_.1))))) (below_size (pBq14 HB))); replace HO333 := Aside0.mk (Kd.R_elder' (by (with_reducible repeat (first | apply Kd.R_alloc | apply Kd.R_drewN | apply Kd.R_drew)); exact (Kd.R_mono (Kd.R_far (p := ⟨gb339, 1, none⟩) (Kd.R_far (p := ⟨gb339, 0, none⟩) (Kd.R_types HO333.out BK339.out (by decide)) (fun _ hk => hk.2) (.int .i64 t334)) (fun _ hk => hk.2) (.slice Ao25 t335.length co25)) (fun _ h_ => h_.1))) (Kd.R_base ho0) hb); replace HO337 := Aside0.mk (Kd.R_elder' (by (with_reducible repeat (first | apply Kd.R_alloc | apply Kd.R_drewN | apply Kd.R_drew)); exact (Kd.R_mono (Kd.R_far (p := ⟨gb339, 1, none⟩) (Kd.R_far (p := ⟨gb339, 0, none⟩) (Kd.R_types HO337.out BK339.out (by decide)) (fun _ hk => hk.2) (.int .i64 t334)) (fun _ hk => hk.2) (.slice Ao25 t335.length co25)) (fun _ h_ => h_.1))) (Kd.R_base ho0) hb); replace BK328 := Aside0.mk (blk_below (g := gb328) (o := .cells #[.int .i64 a0_0, .slice A0_1 l0_1.length c0_1] 24 (0, 0)) (by (with_reducible repeat (first | refine blk_drewN ?_ _ | refine blk_drew ?_ | refine blk_alloc ?_ _)); refine blk_far ?_ NB328_339.out _; (with_reducible repeat (first | refine blk_drewN ?_ _ | refine blk_drew ?_ | refine blk_alloc ?_ _)); refine blk_far ?_ NB328_339.out _; (with_reducible repeat (first | refine blk_drewN ?_ _ | refine blk_drew ?_ | refine blk_alloc ?_ _)); exact BK328.out) hb); replace BK339 := Aside0.mk (blk_below (g := gb339) (o := .cells #[.int .i64 t334, .slice Ao25 t335.length co25] 28 (0, 0)) (by (with_reducible repeat (first | refine blk_drewN ?_ _ | refine blk_drew ?_ | refine blk_alloc ?_ _)); refine blk_put (cs := #[.int .i64 t334, .slice none 0 0]) ?_ 1 _ rfl; (with_reducible repeat (first | refine blk_drewN ?_ _ | refine blk_drew ?_ | refine blk_alloc ?_ _)); refine blk_put (cs := #[.int .i64 0, .slice none 0 0]) ?_ 0 _ rfl; (with_reducible repeat (first | refine blk_drewN ?_ _ | refine blk_drew ?_ | refine blk_alloc ?_ _)); exact BK339.out) hb); replace HB := Aside0.mk (below_step (pBq14 HB) hb); (try clear hb); (try clear hb2); (try clear hk); (try clear hi); (try clear ho0)) | ((with_reducible refine gate_dst (N := 8) rfl ?_); refine box_event ?hg (N := 8) ?hd (cs := #[.int .i64 0, .slice none 0 0]) (t := 28) ?hr ?_; (case hd => rfl); (case hg => rfl); (case hr => first | (go_simp; done) | (go_simp; rfl)); intro gb344 hg w28 hbox hb; have BK344 := Aside0.mk (hbox); have GW344 := Aside0.mk ((by rw [hg]; exact (below_size (pBq14 HB)) : w.heap.size ≤ gb344)); have GE344 := Aside0.mk ((by rw [hg]; exact (below_size (pBq14 HB)) : w.heap.size ≤ gb344)); have NB328_344 := Aside0.mk ((by rw [hg]; exact Nat.ne_of_lt (blk_lt (pKq14 BK328)) : gb328 ≠ gb344)); have NB344_328 := Aside0.mk ((by rw [hg]; exact Nat.ne_of_gt (blk_lt (pKq14 BK328)) : gb344 ≠ gb328)); have NB339_344 := Aside0.mk ((by rw [hg]; exact Nat.ne_of_lt (blk_lt (pKq14 BK339)) : gb339 ≠ gb344)); have NB344_339 := Aside0.mk ((by rw [hg]; exact Nat.ne_of_gt (blk_lt (pKq14 BK339)) : gb344 ≠ gb339)); replace HO333 := Aside0.mk (Kd.R_below (pRq14 HO333) hb); replace HO337 := Aside0.mk (Kd.R_below (pRq14 HO337) hb); replace HO343 := Aside0.mk (Kd.R_below (pRq14 HO343) hb); replace BK328 := Aside0.mk (blk_below (pKq14 BK328) hb); replace BK339 := Aside0.mk (blk_below (pKq14 BK339) hb); replace HB := Aside0.mk (below_step (pBq14 HB) hb); clear hb hbox hg; have hnb29 := NB344_328.out; have hnc29 := NB328_344.out; have hnb30 := NB344_339.out; have hnc30 := NB339_344.out; have hcz31_0 : w28.cell? ⟨gb344, 0, none⟩ = some (.int .i64 0) := (blk_cell BK344.out 0).trans rfl; have hcz31_1 : w28.cell? ⟨gb344, 1, none⟩ = some (.slice none 0 0) := (blk_cell BK344.out 1).trans rfl; have hfz31_0 := blk_frozen BK344.out 0; have hfz31_1 := blk_frozen BK344.out 1; obtain ⟨Ao32, co32, eo32⟩ := Kd.R_slice HO343.out; subst eo32) | ((with_reducible refine gate_callee (f := 22) rfl ?_); refine goesL_ (some 36) rfl rfl Tryd.func22 (by kernel_rfl) rfl #[.agg #[.int .i64 t340, .slice Ao32 t341.length co32], .string a1] rfl (by (try simp only [List.map_toArray, List.map_cons, List.map_nil]); first | done | rfl | (simp only [List.length_drop, List.length_take]; rfl)) ?_; (with_reducible refine (impl_MakeMove.calls t340 _ _ t341 a1 t345 t346 t349 _ (Aside0.mk (impl_readNumber.VOK.on HV.out (pBq14 HB))) ?side1 ?side2 A13.out).mono ?_); (case side1 => refine (Kd.R_reads' (e := 3) (base := w.heap.size) (ok := fun k_ => ((True ∧ some k_ ≠ (.slice Ao20 t331.length co20 : Value).ownBlock) ∧ some k_ ≠ (.slice Ao25 t335.length co25 : Value).ownBlock)) (n := t341.length) (c := co32) ?_).2.2; exact (by (with_reducible repeat (first | apply Kd.R_alloc | apply Kd.R_drewN | apply Kd.R_drew)); exact (Kd.R_mono (Kd.R_far (p := ⟨gb344, 1, none⟩) (Kd.R_far (p := ⟨gb344, 0, none⟩) (Kd.R_types HO343.out BK344.out (by decide)) (fun _ hk => hk.2) (.int .i64 t340)) (fun _ hk => hk.2) (.slice Ao32 t341.length co32)) (fun _ h_ => h_.1)))); (case side2 => exact (Kd.R_reads' HO343.out).2.1); rintro e w33 ⟨v347, rfl, ho0, hb⟩; refine ⟨_, rfl, ?_⟩; have HO348 := Aside0.mk (Kd.R_lower (Kd.R_new' (Kd.R_new' (Kd.R_new' ho0 (Kd.R_lt (by (with_reducible repeat (first | apply Kd.R_alloc | apply Kd.R_drewN | apply Kd.R_drew)); exact (Kd.R_mono (Kd.R_far (p := ⟨gb344, 1, none⟩) (Kd.R_far (p := ⟨gb344, 0, none⟩) (Kd.R_types HO333.out BK344.out (by decide)) (fun _ hk => hk.2) (.int .i64 t340)) (fun _ hk => hk.2) (.slice Ao32 t341.length co32)) (fun _ h_ => h_.1))))) (Kd.R_lt (by (with_reducible repeat (first | apply Kd.R_alloc | apply Kd.R_drewN | apply Kd.R_drew)); exact (Kd.R_mono (Kd.R_far (p := ⟨gb344, 1, none⟩) (Kd.R_far (p := ⟨gb344, 0, none⟩) (Kd.R_types HO337.out BK344.out (by decide)) (fun _ hk => hk.2) (.int .i64 t340)) (fun _ hk => hk.2) (.slice Ao32 t341.length co32)) (fun _ h_ => h_.1))))) (Kd.R_lt (by (with_reducible repeat (first | apply Kd.R_alloc | apply Kd.R_drewN | apply Kd.R_drew)); exact (Kd.R_mono (Kd.R_far (p := ⟨gb344, 1, none⟩) (Kd.R_far (p := ⟨gb344, 0, none⟩) (Kd.R_types HO343.out BK344.out (by decide)) (fun _ hk => hk.2) (.int .i64 t340)) (fun _ hk => hk.2) (.slice Ao32 t341.length co32)) (fun _ h_ => h_.1))))) (below_size (pBq14 HB))); replace HO333 := Aside0.mk (Kd.R_elder' (by (with_reducible repeat (first | apply Kd.R_alloc | apply Kd.R_drewN | apply Kd.R_drew)); exact (Kd.R_mono (Kd.R_far (p := ⟨gb344, 1, none⟩) (Kd.R_far (p := ⟨gb344, 0, none⟩) (Kd.R_types HO333.out BK344.out (by decide)) (fun _ hk => hk.2) (.int .i64 t340)) (fun _ hk => hk.2) (.slice Ao32 t341.length co32)) (fun _ h_ => h_.1))) (Kd.R_base ho0) hb); replace HO337 := Aside0.mk (Kd.R_elder' (by (with_reducible repeat (first | apply Kd.R_alloc | apply Kd.R_drewN | apply Kd.R_drew)); exact (Kd.R_mono (Kd.R_far (p := ⟨gb344, 1, none⟩) (Kd.R_far (p := ⟨gb344, 0, none⟩) (Kd.R_types HO337.out BK344.out (by decide)) (fun _ hk => hk.2) (.int .i64 t340)) (fun _ hk => hk.2) (.slice Ao32 t341.length co32)) (fun _ h_ => h_.1))) (Kd.R_base ho0) hb); replace HO343 := Aside0.mk (Kd.R_elder' (by (with_reducible repeat (first | apply Kd.R_alloc | apply Kd.R_drewN | apply Kd.R_drew)); exact (Kd.R_mono (Kd.R_far (p := ⟨gb344, 1, none⟩) (Kd.R_far (p := ⟨gb344, 0, none⟩) (Kd.R_types HO343.out BK344.out (by decide)) (fun _ hk => hk.2) (.int .i64 t340)) (fun _ hk => hk.2) (.slice Ao32 t341.length co32)) (fun _ h_ => h_.1))) (Kd.R_base ho0) hb); replace BK328 := Aside0.mk (blk_below (g := gb328) (o := .cells #[.int .i64 a0_0, .slice A0_1 l0_1.length c0_1] 24 (0, 0)) (by (with_reducible repeat (first | refine blk_drewN ?_ _ | refine blk_drew ?_ | refine blk_alloc ?_ _)); refine blk_far ?_ NB328_344.out _; (with_reducible repeat (first | refine blk_drewN ?_ _ | refine blk_drew ?_ | refine blk_alloc ?_ _)); refine blk_far ?_ NB328_344.out _; (with_reducible repeat (first | refine blk_drewN ?_ _ | refine blk_drew ?_ | refine blk_alloc ?_ _)); exact BK328.out) hb); replace BK339 := Aside0.mk (blk_below (g := gb339) (o := .cells #[.int .i64 t334, .slice Ao25 t335.length co25] 28 (0, 0)) (by (with_reducible repeat (first | refine blk_drewN ?_ _ | refine blk_drew ?_ | refine blk_alloc ?_ _)); refine blk_far ?_ NB339_344.out _; (with_reducible repeat (first | refine blk_drewN ?_ _ | refine blk_drew ?_ | refine blk_alloc ?_ _)); refine blk_far ?_ NB339_344.out _; (with_reducible repeat (first | refine blk_drewN ?_ _ | refine blk_drew ?_ | refine blk_alloc ?_ _)); exact BK339.out) hb); replace BK344 := Aside0.mk (blk_below (g := gb344) (o := .cells #[.int .i64 t340, .slice Ao32 t341.length co32] 28 (0, 0)) (by (with_reducible repeat (first | refine blk_drewN ?_ _ | refine blk_drew ?_ | refine blk_alloc ?_ _)); refine blk_put (cs := #[.int .i64 t340, .slice none 0 0]) ?_ 1 _ rfl; (with_reducible repeat (first | refine blk_drewN ?_ _ | refine blk_drew ?_ | refine blk_alloc ?_ _)); refine blk_put (cs := #[.int .i64 0, .slice none 0 0]) ?_ 0 _ rfl; (with_reducible repeat (first | refine blk_drewN ?_ _ | refine blk_drew ?_ | refine blk_alloc ?_ _)); exact BK344.out) hb); replace HB := Aside0.mk (below_step (pBq14 HB) hb); (try clear hb); (try clear hb2); (try clear hk); (try clear hi); (try clear ho0)) | ((with_reducible refine gate_dst (N := 9) rfl ?_); refine box_event ?hg (N := 9) ?hd (cs := #[.int .i64 0, .slice none 0 0]) (t := 28) ?hr ?_; (case hd => rfl); (case hg => rfl); (case hr => first | (go_simp; done) | (go_simp; rfl)); intro gb350 hg w34 hbox hb; have BK350 := Aside0.mk (hbox); have GW350 := Aside0.mk ((by rw [hg]; exact (below_size (pBq14 HB)) : w.heap.size ≤ gb350)); have GE350 := Aside0.mk ((by rw [hg]; exact (below_size (pBq14 HB)) : w.heap.size ≤ gb350)); have NB328_350 := Aside0.mk ((by rw [hg]; exact Nat.ne_of_lt (blk_lt (pKq14 BK328)) : gb328 ≠ gb350)); have NB350_328 := Aside0.mk ((by rw [hg]; exact Nat.ne_of_gt (blk_lt (pKq14 BK328)) : gb350 ≠ gb328)); have NB339_350 := Aside0.mk ((by rw [hg]; exact Nat.ne_of_lt (blk_lt (pKq14 BK339)) : gb339 ≠ gb350)); have NB350_339 := Aside0.mk ((by rw [hg]; exact Nat.ne_of_gt (blk_lt (pKq14 BK339)) : gb350 ≠ gb339)); have NB344_350 := Aside0.mk ((by rw [hg]; exact Nat.ne_of_lt (blk_lt (pKq14 BK344)) : gb344 ≠ gb350)); have NB350_344 := Aside0.mk ((by rw [hg]; exact Nat.ne_of_gt (blk_lt (pKq14 BK344)) : gb350 ≠ gb344)); replace HO333 := Aside0.mk (Kd.R_below (pRq14 HO333) hb); replace HO337 := Aside0.mk (Kd.R_below (pRq14 HO337) hb); replace HO343 := Aside0.mk (Kd.R_below (pRq14 HO343) hb); replace HO348 := Aside0.mk (Kd.R_below (pRq14 HO348) hb); replace BK328 := Aside0.mk (blk_below (pKq14 BK328) hb); replace BK339 := Aside0.mk (blk_below (pKq14 BK339) hb); replace BK344 := Aside0.mk (blk_below (pKq14 BK344) hb); replace HB := Aside0.mk (below_step (pBq14 HB) hb); clear hb hbox hg; have hnb35 := NB350_328.out; have hnc35 := NB328_350.out; have hnb36 := NB350_339.out; have hnc36 := NB339_350.out; have hnb37 := NB350_344.out; have hnc37 := NB344_350.out; have hcz38_0 : w34.cell? ⟨gb350, 0, none⟩ = some (.int .i64 0) := (blk_cell BK350.out 0).trans rfl; have hcz38_1 : w34.cell? ⟨gb350, 1, none⟩ = some (.slice none 0 0) := (blk_cell BK350.out 1).trans rfl; have hfz38_0 := blk_frozen BK350.out 0; have hfz38_1 := blk_frozen BK350.out 1; obtain ⟨Ao39, co39, eo39⟩ := Kd.R_slice HO348.out; subst eo39))
   (try simp only [Act.put, setIfInBounds_toArray, set_cons_zero, set_cons_succ])
   go_cut [47] (fun v47 wc => ∃ (kq : Nat) (x47_13 : Bool), v47 = .bool x47_13 ∧ Aside0 (laws_FnExactMakeMove.j0 kq a1 t338 t349 x47_13 a0_0 l0_1 t334 t335 t340 t341 t345 t346 = some true) ∧ Aside0 (kq ≤ k) ∧ Aside0 (Kd.R (Kd.int .i64) 3 wc w.heap.size (fun k_ => some k_ ≠ ((.slice Ao32 t341.length co32) : Value).ownBlock ∧ some k_ ≠ ((.slice Ao39 t346.length co39) : Value).ownBlock) (.slice Ao25 t335.length co25) t335) ∧ Aside0 (Kd.R (Kd.int .i64) 3 wc w.heap.size (fun k_ => some k_ ≠ ((.slice Ao25 t335.length co25) : Value).ownBlock ∧ some k_ ≠ ((.slice Ao39 t346.length co39) : Value).ownBlock) (.slice Ao32 t341.length co32) t341) ∧ Aside0 (Kd.R (Kd.int .i64) 3 wc w.heap.size (fun k_ => some k_ ≠ ((.slice Ao25 t335.length co25) : Value).ownBlock ∧ some k_ ≠ ((.slice Ao32 t341.length co32) : Value).ownBlock) (.slice Ao39 t346.length co39) t346) ∧ Aside0 (wc.heap[gb328]? = some (.cells #[.int .i64 a0_0, (.slice A0_1 l0_1.length c0_1)] 24 (0, 0))) ∧ Aside0 (wc.heap[gb339]? = some (.cells #[.int .i64 t334, (.slice Ao25 t335.length co25)] 28 (0, 0))) ∧ Aside0 (wc.heap[gb344]? = some (.cells #[.int .i64 t340, (.slice Ao32 t341.length co32)] 28 (0, 0))) ∧ Aside0 (wc.heap[gb350]? = some (.cells #[.int .i64 t345, (.slice Ao39 t346.length co39)] 28 (0, 0))) ∧ Aside0 (Below w.heap.size w wc))
   case first =>
    have H := HC14.out
    clear HC14
    replace H := Option.bind_eq_some_iff.mp H
    obtain ⟨t351, A400, H⟩ := H
    replace H : (if t351 = true then (laws_FnExactMakeMove.j0 k a1 t338 t349 (t349 != t338) a0_0 l0_1 t334 t335 t340 t341 t345 t346) else (laws_FnExactMakeMove.j0 k a1 t338 t349 true a0_0 l0_1 t334 t335 t340 t341 t345 t346)) = some true := H
    have A40 := Aside0.mk A400
    clear A400
    by_cases c41 : t351 = true
    ·subst c41
     have H1 : (laws_FnExactMakeMove.j0 k a1 t338 t349 (t349 != t338) a0_0 l0_1 t334 t335 t340 t341 t345 t346) = some true := by rw [if_pos rfl] at H; exact H
     clear H
     have H := H1
     clear H1
     have H' := Aside0.mk H
     clear H
     have hnb42 := NB350_328.out
     have hnc42 := NB328_350.out
     have hnb43 := NB350_339.out
     have hnc43 := NB339_350.out
     have hnb44 := NB350_344.out
     have hnc44 := NB344_350.out
     have hcz45_0 : w34.cell? ⟨gb350, 0, none⟩ = some (.int .i64 0) := (blk_cell BK350.out 0).trans rfl
     have hcz45_1 : w34.cell? ⟨gb350, 1, none⟩ = some (.slice none 0 0) := (blk_cell BK350.out 1).trans rfl
     have hfz45_0 := blk_frozen BK350.out 0
     have hfz45_1 := blk_frozen BK350.out 1
     have hnb46 := NB339_328.out
     have hnc46 := NB328_339.out
     have hnb47 := NB339_344.out
     have hnc47 := NB344_339.out
     have hcz48_0 : w34.cell? ⟨gb339, 0, none⟩ = some (.int .i64 t334) := (blk_cell BK339.out 0).trans rfl
     have hcz48_1 : w34.cell? ⟨gb339, 1, none⟩ = some (.slice Ao25 t335.length co25) := (blk_cell BK339.out 1).trans rfl
     have hfz48_0 := blk_frozen BK339.out 0
     have hfz48_1 := blk_frozen BK339.out 1
     go_wp2_with (first | ((with_reducible refine gate_callee (f := 11) rfl ?_); refine goesL_ (some 41) rfl rfl Tryd.func11 (by kernel_rfl) rfl #[.agg #[.int .i64 t345, .slice Ao39 t346.length co39], .agg #[.int .i64 t334, .slice Ao25 t335.length co25]] rfl (by (try simp only [List.map_toArray, List.map_cons, List.map_nil]); first | done | rfl | (simp only [List.length_drop, List.length_take]; rfl)) ?_; (with_reducible refine (laws_eqLadder.calls k t345 _ _ t346 t334 _ _ t335 true _ ?side1 ?side2 ?side3 ?side4 A40.out).mono ?_); (case side1 => refine (Kd.R_reads' (e := 3) (base := w.heap.size) (ok := fun k_ => (((True ∧ some k_ ≠ (.slice Ao20 t331.length co20 : Value).ownBlock) ∧ some k_ ≠ (.slice Ao25 t335.length co25 : Value).ownBlock) ∧ some k_ ≠ (.slice Ao32 t341.length co32 : Value).ownBlock)) (n := t346.length) (c := co39) ?_).2.2; exact (by (with_reducible repeat (first | apply Kd.R_alloc | apply Kd.R_drewN | apply Kd.R_drew)); exact (Kd.R_mono (Kd.R_far (p := ⟨gb350, 1, none⟩) (Kd.R_far (p := ⟨gb350, 0, none⟩) (Kd.R_types HO348.out BK350.out (by decide)) (fun _ hk => hk.2) (.int .i64 t345)) (fun _ hk => hk.2) (.slice Ao39 t346.length co39)) (fun _ h_ => h_.1)))); (case side2 => exact (Kd.R_reads' HO348.out).2.1); (case side3 => refine (Kd.R_reads' (e := 3) (base := w.heap.size) (ok := fun k_ => (((True ∧ some k_ ≠ (.slice Ao20 t331.length co20 : Value).ownBlock) ∧ some k_ ≠ (.slice Ao32 t341.length co32 : Value).ownBlock) ∧ some k_ ≠ (.slice Ao39 t346.length co39 : Value).ownBlock)) (n := t335.length) (c := co25) ?_).2.2; exact (by (with_reducible repeat (first | apply Kd.R_alloc | apply Kd.R_drewN | apply Kd.R_drew)); exact (Kd.R_mono (Kd.R_far (p := ⟨gb350, 1, none⟩) (Kd.R_far (p := ⟨gb350, 0, none⟩) (Kd.R_types HO337.out BK350.out (by decide)) (fun _ hk => hk.2) (.int .i64 t345)) (fun _ hk => hk.2) (.slice Ao39 t346.length co39)) (fun _ h_ => h_.1)))); (case side4 => exact (Kd.R_reads' HO337.out).2.1); rintro e w49 ⟨rfl, hb⟩; refine ⟨_, rfl, ?_⟩; replace HO333 := Aside0.mk (Kd.R_below (by (with_reducible repeat (first | apply Kd.R_alloc | apply Kd.R_drewN | apply Kd.R_drew)); exact (Kd.R_mono (Kd.R_far (p := ⟨gb350, 1, none⟩) (Kd.R_far (p := ⟨gb350, 0, none⟩) (Kd.R_types HO333.out BK350.out (by decide)) (fun _ hk => hk.2) (.int .i64 t345)) (fun _ hk => hk.2) (.slice Ao39 t346.length co39)) (fun _ h_ => h_.1))) hb); replace HO337 := Aside0.mk (Kd.R_below (by (with_reducible repeat (first | apply Kd.R_alloc | apply Kd.R_drewN | apply Kd.R_drew)); exact (Kd.R_mono (Kd.R_far (p := ⟨gb350, 1, none⟩) (Kd.R_far (p := ⟨gb350, 0, none⟩) (Kd.R_types HO337.out BK350.out (by decide)) (fun _ hk => hk.2) (.int .i64 t345)) (fun _ hk => hk.2) (.slice Ao39 t346.length co39)) (fun _ h_ => h_.1))) hb); replace HO343 := Aside0.mk (Kd.R_below (by (with_reducible repeat (first | apply Kd.R_alloc | apply Kd.R_drewN | apply Kd.R_drew)); exact (Kd.R_mono (Kd.R_far (p := ⟨gb350, 1, none⟩) (Kd.R_far (p := ⟨gb350, 0, none⟩) (Kd.R_types HO343.out BK350.out (by decide)) (fun _ hk => hk.2) (.int .i64 t345)) (fun _ hk => hk.2) (.slice Ao39 t346.length co39)) (fun _ h_ => h_.1))) hb); replace HO348 := Aside0.mk (Kd.R_below (by (with_reducible repeat (first | apply Kd.R_alloc | apply Kd.R_drewN | apply Kd.R_drew)); exact (Kd.R_mono (Kd.R_far (p := ⟨gb350, 1, none⟩) (Kd.R_far (p := ⟨gb350, 0, none⟩) (Kd.R_types HO348.out BK350.out (by decide)) (fun _ hk => hk.2) (.int .i64 t345)) (fun _ hk => hk.2) (.slice Ao39 t346.length co39)) (fun _ h_ => h_.1))) hb); replace BK328 := Aside0.mk (blk_below (g := gb328) (o := .cells #[.int .i64 a0_0, .slice A0_1 l0_1.length c0_1] 24 (0, 0)) (by (with_reducible repeat (first | refine blk_drewN ?_ _ | refine blk_drew ?_ | refine blk_alloc ?_ _)); refine blk_far ?_ NB328_350.out _; (with_reducible repeat (first | refine blk_drewN ?_ _ | refine blk_drew ?_ | refine blk_alloc ?_ _)); refine blk_far ?_ NB328_350.out _; (with_reducible repeat (first | refine blk_drewN ?_ _ | refine blk_drew ?_ | refine blk_alloc ?_ _)); exact BK328.out) hb); replace BK339 := Aside0.mk (blk_below (g := gb339) (o := .cells #[.int .i64 t334, .slice Ao25 t335.length co25] 28 (0, 0)) (by (with_reducible repeat (first | refine blk_drewN ?_ _ | refine blk_drew ?_ | refine blk_alloc ?_ _)); refine blk_far ?_ NB339_350.out _; (with_reducible repeat (first | refine blk_drewN ?_ _ | refine blk_drew ?_ | refine blk_alloc ?_ _)); refine blk_far ?_ NB339_350.out _; (with_reducible repeat (first | refine blk_drewN ?_ _ | refine blk_drew ?_ | refine blk_alloc ?_ _)); exact BK339.out) hb); replace BK344 := Aside0.mk (blk_below (g := gb344) (o := .cells #[.int .i64 t340, .slice Ao32 t341.length co32] 28 (0, 0)) (by (with_reducible repeat (first | refine blk_drewN ?_ _ | refine blk_drew ?_ | refine blk_alloc ?_ _)); refine blk_far ?_ NB344_350.out _; (with_reducible repeat (first | refine blk_drewN ?_ _ | refine blk_drew ?_ | refine blk_alloc ?_ _)); refine blk_far ?_ NB344_350.out _; (with_reducible repeat (first | refine blk_drewN ?_ _ | refine blk_drew ?_ | refine blk_alloc ?_ _)); exact BK344.out) hb); replace BK350 := Aside0.mk (blk_below (g := gb350) (o := .cells #[.int .i64 t345, .slice Ao39 t346.length co39] 28 (0, 0)) (by (with_reducible repeat (first | refine blk_drewN ?_ _ | refine blk_drew ?_ | refine blk_alloc ?_ _)); refine blk_put (cs := #[.int .i64 t345, .slice none 0 0]) ?_ 1 _ rfl; (with_reducible repeat (first | refine blk_drewN ?_ _ | refine blk_drew ?_ | refine blk_alloc ?_ _)); refine blk_put (cs := #[.int .i64 0, .slice none 0 0]) ?_ 0 _ rfl; (with_reducible repeat (first | refine blk_drewN ?_ _ | refine blk_drew ?_ | refine blk_alloc ?_ _)); exact BK350.out) hb); replace HB := Aside0.mk (below_step (pBq14 HB) hb); (try clear hb); (try clear hb2); (try clear hk); (try clear hi)))
     go_meet
     case rel => exact ⟨_, ((t349 != t338)), (by first | rfl | (simp; done) | (simp [*]; done)), H', ⟨by first | omega | exact Nat.le_refl _⟩, ⟨by (with_reducible repeat (first | apply Kd.R_alloc | apply Kd.R_drewN | apply Kd.R_drew)); exact Kd.R_mono HO337.out (fun _ hk => ⟨hk.1.2, hk.2⟩)⟩, ⟨by (with_reducible repeat (first | apply Kd.R_alloc | apply Kd.R_drewN | apply Kd.R_drew)); exact Kd.R_mono HO343.out (fun _ hk => ⟨hk.1.2, hk.2⟩)⟩, ⟨by (with_reducible repeat (first | apply Kd.R_alloc | apply Kd.R_drewN | apply Kd.R_drew)); exact Kd.R_mono HO348.out (fun _ hk => ⟨hk.1.2, hk.2⟩)⟩, ⟨by (with_reducible repeat (first | refine blk_drewN ?_ _ | refine blk_drew ?_ | refine blk_alloc ?_ _)); exact BK328.out⟩, ⟨by (with_reducible repeat (first | refine blk_drewN ?_ _ | refine blk_drew ?_ | refine blk_alloc ?_ _)); exact BK339.out⟩, ⟨by (with_reducible repeat (first | refine blk_drewN ?_ _ | refine blk_drew ?_ | refine blk_alloc ?_ _)); exact BK344.out⟩, ⟨by (with_reducible repeat (first | refine blk_drewN ?_ _ | refine blk_drew ?_ | refine blk_alloc ?_ _)); exact BK350.out⟩, ⟨by repeat (first | (with_reducible first | exact HB.out | apply below_alloc | apply pw_below_drewN | apply below_drew1 | refine below_set ?_ GE328.out | refine below_set ?_ GE339.out | refine below_set ?_ GE344.out | refine below_set ?_ GE350.out) | exact HB.out)⟩⟩
    ·replace c41 := Bool.eq_false_iff.mpr c41
     subst c41
     have H1 : (laws_FnExactMakeMove.j0 k a1 t338 t349 true a0_0 l0_1 t334 t335 t340 t341 t345 t346) = some true := by rw [if_neg (show ¬ (false = true) by decide)] at H; exact H
     clear H
     have H := H1
     clear H1
     exfalso
     revert H
     cases k <;> simp [laws_FnExactMakeMove.j0]
   case rest =>
    clear HC14
    try clear c1
    try clear c2
    try clear p2
    try clear c3
    try clear c3b0
    try clear c3b1
    try clear c4
    try clear c6
    try clear c6b0
    try clear c7
    try clear c9
    try clear c11
    try clear c21
    try clear c22
    try clear c23
    try clear c29
    try clear c30
    try clear c35
    try clear c36
    try clear c37
    try clear c41
    try clear c42
    try clear c43
    try clear c44
    try clear c46
    try clear c47
    try clear hcz16_0
    try clear hcz16_1
    try clear hcz18_0
    try clear hcz18_1
    try clear hcz24_0
    try clear hcz24_1
    try clear hcz26_0
    try clear hcz26_1
    try clear hcz31_0
    try clear hcz31_1
    try clear hcz38_0
    try clear hcz38_1
    try clear hcz45_0
    try clear hcz45_1
    try clear hcz48_0
    try clear hcz48_1
    try clear hcz8_0
    try clear hcz8_1
    try clear hfz16_0
    try clear hfz16_1
    try clear hfz18_0
    try clear hfz18_1
    try clear hfz24_0
    try clear hfz24_1
    try clear hfz26_0
    try clear hfz26_1
    try clear hfz31_0
    try clear hfz31_1
    try clear hfz38_0
    try clear hfz38_1
    try clear hfz45_0
    try clear hfz45_1
    try clear hfz48_0
    try clear hfz48_1
    try clear hfz8_0
    try clear hfz8_1
    obtain ⟨kq, x47_13, rfl, HA, HJ13, HO_340001, HO_345001, HO_351001, BK328, BK339, BK344, BK350, HB⟩ := hcut
    cases kq with
    | zero => exact absurd HA.out (by simp [laws_FnExactMakeMove.j0])
    | succ kj13 =>
     have H := HA.out
     clear HA
     simp only [laws_FnExactMakeMove.j0] at H
     by_cases c50 : x47_13 = true
     ·subst c50
      have H1 : (some false) = some true := by rw [if_pos rfl] at H; exact H
      clear H
      have H := H1
      clear H1
      exact absurd H (by simp)
     ·replace c50 := Bool.eq_false_iff.mpr c50
      subst c50
      have H1 : ((laws_toLadder.f kj13 a0_0 l0_1).bind fun bt352 => ((laws_eqLadder.f kj13 t340 t341 bt352.1 bt352.2).bind fun t356 => (if t356 = true then ((laws_markLadder.f kj13 t340 t341 1).bind fun bt357 => (if bt357.1 < 0 then (laws_FnExactMakeMove.j1 kj13 a1 t338 true a0_0 l0_1 t334 t335 t345 t346) else ((laws_eqLadder.f kj13 t345 t346 t334 t335).bind fun t359 => (if t359 = true then (laws_FnExactMakeMove.j1 kj13 a1 t338 (t349 != t338) a0_0 l0_1 t334 t335 t345 t346) else (laws_FnExactMakeMove.j1 kj13 a1 t338 true a0_0 l0_1 t334 t335 t345 t346))))) else (some false)))) = some true := by rw [if_neg (show ¬ (false = true) by decide)] at H; exact H
      clear H
      have H := H1
      clear H1
      replace H := Option.bind_eq_some_iff.mp H
      obtain ⟨⟨t352, t353⟩, A510, H⟩ := H
      replace H : ((laws_eqLadder.f kj13 t340 t341 t352 t353).bind fun t356 => (if t356 = true then ((laws_markLadder.f kj13 t340 t341 1).bind fun bt357 => (if bt357.1 < 0 then (laws_FnExactMakeMove.j1 kj13 a1 t338 true a0_0 l0_1 t334 t335 t345 t346) else ((laws_eqLadder.f kj13 t345 t346 t334 t335).bind fun t359 => (if t359 = true then (laws_FnExactMakeMove.j1 kj13 a1 t338 (t349 != t338) a0_0 l0_1 t334 t335 t345 t346) else (laws_FnExactMakeMove.j1 kj13 a1 t338 true a0_0 l0_1 t334 t335 t345 t346))))) else (some false))) = some true := H
      have A51 := Aside0.mk A510
      clear A510
      replace H := Option.bind_eq_some_iff.mp H
      obtain ⟨t356, A520, H⟩ := H
      replace H : (if t356 = true then ((laws_markLadder.f kj13 t340 t341 1).bind fun bt357 => (if bt357.1 < 0 then (laws_FnExactMakeMove.j1 kj13 a1 t338 true a0_0 l0_1 t334 t335 t345 t346) else ((laws_eqLadder.f kj13 t345 t346 t334 t335).bind fun t359 => (if t359 = true then (laws_FnExactMakeMove.j1 kj13 a1 t338 (t349 != t338) a0_0 l0_1 t334 t335 t345 t346) else (laws_FnExactMakeMove.j1 kj13 a1 t338 true a0_0 l0_1 t334 t335 t345 t346))))) else (some false)) = some true := H
      have A52 := Aside0.mk A520
      clear A520
      by_cases c53 : t356 = true
      ·subst c53
       have H1 : ((laws_markLadder.f kj13 t340 t341 1).bind fun bt357 => (if bt357.1 < 0 then (laws_FnExactMakeMove.j1 kj13 a1 t338 true a0_0 l0_1 t334 t335 t345 t346) else ((laws_eqLadder.f kj13 t345 t346 t334 t335).bind fun t359 => (if t359 = true then (laws_FnExactMakeMove.j1 kj13 a1 t338 (t349 != t338) a0_0 l0_1 t334 t335 t345 t346) else (laws_FnExactMakeMove.j1 kj13 a1 t338 true a0_0 l0_1 t334 t335 t345 t346))))) = some true := by rw [if_pos rfl] at H; exact H
       clear H
       have H := H1
       clear H1
       replace H := Option.bind_eq_some_iff.mp H
       obtain ⟨⟨t357, t358⟩, A540, H⟩ := H
       replace H : (if t357 < 0 then (laws_FnExactMakeMove.j1 kj13 a1 t338 true a0_0 l0_1 t334 t335 t345 t346) else ((laws_eqLadder.f kj13 t345 t346 t334 t335).bind fun t359 => (if t359 = true then (laws_FnExactMakeMove.j1 kj13 a1 t338 (t349 != t338) a0_0 l0_1 t334 t335 t345 t346) else (laws_FnExactMakeMove.j1 kj13 a1 t338 true a0_0 l0_1 t334 t335 t345 t346)))) = some true := H
       have A54 := Aside0.mk A540
       clear A540
       have HC55 := Aside0.mk H
       clear H
       try go_wp2
       replace HO_340001 := Aside0.mk (Kd.R_drew HO_340001.out)
       replace HO_345001 := Aside0.mk (Kd.R_drew HO_345001.out)
       replace HO_351001 := Aside0.mk (Kd.R_drew HO_351001.out)
       replace BK328 := Aside0.mk (blk_drew BK328.out)
       replace BK339 := Aside0.mk (blk_drew BK339.out)
       replace BK344 := Aside0.mk (blk_drew BK344.out)
       replace BK350 := Aside0.mk (blk_drew BK350.out)
       replace HB := Aside0.mk (below_drew1 HB.out)
       refine start_ (n := 5) (S := fun w' => w'.cell? ⟨gb344, 0, none⟩ = some (.int .i64 t340) ∧ w'.cell? ⟨gb344, 1, none⟩ = some (.slice Ao32 t341.length co32) ∧ w'.cell? ⟨gb328, 0, none⟩ = some (.int .i64 a0_0) ∧ w'.cell? ⟨gb328, 1, none⟩ = some (.slice A0_1 l0_1.length c0_1)) (ds := []) #[false, false, false, false, false] (by kernel_rfl) rfl rfl ⟨(blk_cell BK344.out 0).trans rfl, (blk_cell BK344.out 1).trans rfl, (blk_cell BK328.out 0).trans rfl, (blk_cell BK328.out 1).trans rfl⟩ (fun hHeld => ?_)
       generalize wc.drew = w56 at HO_340001 HO_345001 HO_351001 BK328 BK339 BK344 BK350 HB hHeld ⊢
       refine take_ (i := 0) (N := some 48) (v := ?_) (a' := ?_) #[true, false, false, false, false] rfl rfl (by kernel_rfl) (fun _ _ _ h => h) (Or.inl ⟨by rfl, ?_⟩) hHeld ?_ ?_
       rotate_left
       ·rintro w' ⟨s0, s1, s2, s3⟩
        go_simp
        with_reducible rfl
       rotate_left
       ·simp only [Act.put, setIfInBounds_toArray, set_cons_zero, set_cons_succ, i64_w, i32_w]
        rfl
       refine take_ (i := 1) (N := some 49) (v := ?_) (a' := ?_) #[true, true, false, false, false] rfl rfl (by kernel_rfl) (fun _ _ _ h => h) (Or.inl ⟨by rfl, ?_⟩) hHeld ?_ ?_
       rotate_left
       ·rintro w' ⟨s0, s1, s2, s3⟩
        go_simp
        with_reducible rfl
       rotate_left
       ·simp only [Act.put, setIfInBounds_toArray, set_cons_zero, set_cons_succ, i64_w, i32_w]
        rfl
       refine one_ (i := 2) (N := some 50) #[true, true, true, false, false] rfl rfl (by kernel_rfl) (by decide) (fun K hK => ?_)
       refine goes_ Tryd.func9 (by kernel_rfl) rfl #[.agg #[.int .i64 a0_0, .slice A0_1 l0_1.length c0_1]] (by rfl) rfl rfl (by (try simp only [List.map_toArray, List.map_cons, List.map_nil]); first | done | rfl | (simp only [List.length_drop, List.length_take]; rfl)) ?_
       with_reducible refine (laws_toLadder.calls kj13 a0_0 _ _ l0_1 t352 t353 _ ?side1 ?side2 A51.out).mono ?_
       (case side1 => repeat (first | exact (Kd.C_below HR0_1.out HB.out) | (with_reducible refine Kd.C_alloc ?_ _) | (with_reducible refine Kd.C_drewN ?_ _) | (with_reducible refine Kd.C_drew ?_)))
       (case side2 => exact HC0_1.out)
       rintro e w57 ⟨v354, rfl, ho0, hb⟩
       refine ⟨_, rfl, ?_⟩
       have HO355 := Aside0.mk (Kd.R_lower (Kd.R_new' (Kd.R_new' (Kd.R_new' ho0 (Kd.R_lt (pRq14 HO_340001))) (Kd.R_lt (pRq14 HO_345001))) (Kd.R_lt (pRq14 HO_351001))) (below_size (pBq14 HB)))
       replace HO_340001 := Aside0.mk (Kd.R_elder' (pRq14 HO_340001) (Kd.R_base ho0) hb)
       replace HO_345001 := Aside0.mk (Kd.R_elder' (pRq14 HO_345001) (Kd.R_base ho0) hb)
       replace HO_351001 := Aside0.mk (Kd.R_elder' (pRq14 HO_351001) (Kd.R_base ho0) hb)
       replace BK328 := Aside0.mk (blk_below (pKq14 BK328) hb)
       replace BK339 := Aside0.mk (blk_below (pKq14 BK339) hb)
       replace BK344 := Aside0.mk (blk_below (pKq14 BK344) hb)
       replace BK350 := Aside0.mk (blk_below (pKq14 BK350) hb)
       replace HB := Aside0.mk (below_step (pBq14 HB) hb)
       (try clear hb)
       (try clear hb2)
       (try clear hk)
       (try clear hi)
       (try clear ho0)
       obtain ⟨Ao58, co58, eo58⟩ := Kd.R_slice HO355.out
       (first | subst eo58 | (injection eo58 with f1_ f2_ f3_; have f4_ := f1_.symm; have f5_ := f3_.symm; clear f1_ f2_ f3_; subst f4_; subst f5_))
       refine hK.out _ _ ⟨(blk_cell BK344.out 0).trans rfl, (blk_cell BK344.out 1).trans rfl, (blk_cell BK328.out 0).trans rfl, (blk_cell BK328.out 1).trans rfl⟩ (fun hHeld => ?_)
       clear hK K
       refine norm_ (a' := ?_) ?_ ?_
       rotate_left
       ·show Act.put _ (some 50) _ = _
        simp only [Act.put, setIfInBounds_toArray, set_cons_zero, set_cons_succ, i64_w, i32_w]
        rfl
       refine one_ (i := 3) (N := some 51) #[true, true, true, true, false] rfl rfl (by kernel_rfl) (by decide) (fun K hK => ?_)
       refine goes_ Tryd.func11 (by kernel_rfl) rfl #[.agg #[.int .i64 t340, .slice Ao32 t341.length co32], .agg #[.int .i64 t352, .slice Ao58 t353.length co58]] (by rfl) rfl rfl (by (try simp only [List.map_toArray, List.map_cons, List.map_nil]); first | done | rfl | (simp only [List.length_drop, List.length_take]; rfl)) ?_
       with_reducible refine (laws_eqLadder.calls kj13 t340 _ _ t341 t352 _ _ t353 true _ ?side1 ?side2 ?side3 ?side4 A52.out).mono ?_
       (case side1 => repeat (first | exact (Kd.R_reads' HO_345001.out).2.2 | (with_reducible refine Kd.C_alloc ?_ _) | (with_reducible refine Kd.C_drewN ?_ _) | (with_reducible refine Kd.C_drew ?_)))
       (case side2 => exact (Kd.R_reads' HO_345001.out).2.1)
       (case side3 => repeat (first | exact (Kd.R_reads' HO355.out).2.2 | (with_reducible refine Kd.C_alloc ?_ _) | (with_reducible refine Kd.C_drewN ?_ _) | (with_reducible refine Kd.C_drew ?_)))
       (case side4 => exact (Kd.R_reads' HO355.out).2.1)
       rintro e w59 ⟨rfl, hb⟩
       refine ⟨_, rfl, ?_⟩
       replace HO_340001 := Aside0.mk (Kd.R_below (pRq14 HO_340001) hb)
       replace HO_345001 := Aside0.mk (Kd.R_below (pRq14 HO_345001) hb)
       replace HO_351001 := Aside0.mk (Kd.R_below (pRq14 HO_351001) hb)
       replace HO355 := Aside0.mk (Kd.R_below (pRq14 HO355) hb)
       replace BK328 := Aside0.mk (blk_below (pKq14 BK328) hb)
       replace BK339 := Aside0.mk (blk_below (pKq14 BK339) hb)
       replace BK344 := Aside0.mk (blk_below (pKq14 BK344) hb)
       replace BK350 := Aside0.mk (blk_below (pKq14 BK350) hb)
       replace HB := Aside0.mk (below_step (pBq14 HB) hb)
       (try clear hb)
       (try clear hb2)
       (try clear hk)
       (try clear hi)
       refine hK.out _ _ ⟨(blk_cell BK344.out 0).trans rfl, (blk_cell BK344.out 1).trans rfl, (blk_cell BK328.out 0).trans rfl, (blk_cell BK328.out 1).trans rfl⟩ (fun hHeld => ?_)
       clear hK K
       refine norm_ (a' := ?_) ?_ ?_
       rotate_left
       ·show Act.put _ (some 51) _ = _
        simp only [Act.put, setIfInBounds_toArray, set_cons_zero, set_cons_succ, i64_w, i32_w]
        rfl
       refine pure_ (i := 4) (N := some 52) (v := ?_) (a' := ?_) #[true, true, true, true, true] rfl rfl (by kernel_rfl) (fun _ _ _ h => h) (Or.inl ⟨by rfl, ?_⟩) ?_ ?_
       rotate_left
       ·intro w'
        go_simp
        with_reducible rfl
       rotate_left
       ·simp only [Act.put, setIfInBounds_toArray, set_cons_zero, set_cons_succ, i64_w, i32_w]
        rfl
       refine done_ (by kernel_rfl) ?_
       have hnb60 := NB344_328.out
       have hnc60 := NB328_344.out
       have hnb61 := NB344_339.out
       have hnc61 := NB339_344.out
       have hnb62 := NB344_350.out
       have hnc62 := NB350_344.out
       have hcz63_0 : w59.cell? ⟨gb344, 0, none⟩ = some (.int .i64 t340) := (blk_cell BK344.out 0).trans rfl
       have hcz63_1 : w59.cell? ⟨gb344, 1, none⟩ = some (.slice Ao32 t341.length co32) := (blk_cell BK344.out 1).trans rfl
       have hfz63_0 := blk_frozen BK344.out 0
       have hfz63_1 := blk_frozen BK344.out 1
       go_upto_region 16 with (first | ((with_reducible refine gate_callee (f := 15) rfl ?_); refine goesL_ (some 55) rfl rfl Tryd.func15 (by kernel_rfl) rfl #[.agg #[.int .i64 t340, .slice Ao32 t341.length co32], .int .i64 1] rfl (by (try simp only [List.map_toArray, List.map_cons, List.map_nil]); first | done | rfl | (simp only [List.length_drop, List.length_take]; rfl)) ?_; (with_reducible refine (laws_markLadder.calls kj13 t340 (fun k_ => some k_ = (.slice Ao32 t341.length co32 : Value).ownBlock) (.slice Ao32 t341.length co32) t341 1 t357 t358 w _ ?side1 ?side2 A54.out).mono ?_); (case side1 => repeat (first | (with_reducible first | exact HB.out | apply below_alloc | apply pw_below_drewN | apply below_drew1 | refine below_set ?_ GE328.out | refine below_set ?_ GE339.out | refine below_set ?_ GE344.out | refine below_set ?_ GE350.out) | exact HB.out)); (case side2 => exact Kd.R_tight rfl HO_345001.out); rintro e w64 ⟨rfl, hy0, hb, hkp⟩; refine ⟨_, rfl, ?_⟩; replace HO_340001 := Aside0.mk (Kd.R_mono (ok' := fun k_ => some k_ ≠ (.slice Ao32 t341.length co32 : Value).ownBlock ∧ some k_ ≠ (.slice Ao39 t346.length co39 : Value).ownBlock ∧ some k_ ≠ (.slice Ao58 t353.length co58 : Value).ownBlock) (Kd.R_keptB (HO_340001.out) hkp (fun k_ hk_ hs_ => (hk_.1.1) hs_)) (fun k_ hk_ => ⟨hk_.1.1.1, hk_.1.1.2, hk_.1.2⟩)); replace HO_351001 := Aside0.mk (Kd.R_mono (ok' := fun k_ => some k_ ≠ (.slice Ao25 t335.length co25 : Value).ownBlock ∧ some k_ ≠ (.slice Ao32 t341.length co32 : Value).ownBlock ∧ some k_ ≠ (.slice Ao58 t353.length co58 : Value).ownBlock) (Kd.R_keptB (HO_351001.out) hkp (fun k_ hk_ hs_ => (hk_.1.2) hs_)) (fun k_ hk_ => ⟨hk_.1.1.1, hk_.1.1.2, hk_.1.2⟩)); replace BK328 := Aside0.mk (blk_kept (pKq14 BK328) hkp (fun hs_ => (fun e_ => (Kd.R_ne HO_345001.out BK328.out (by decide)) e_) hs_)); replace BK339 := Aside0.mk (blk_kept (pKq14 BK339) hkp (fun hs_ => (fun e_ => (Kd.R_ne HO_345001.out BK339.out (by decide)) e_) hs_)); replace BK344 := Aside0.mk (blk_kept (pKq14 BK344) hkp (fun hs_ => (fun e_ => (Kd.R_ne HO_345001.out BK344.out (by decide)) e_) hs_)); replace BK350 := Aside0.mk (blk_kept (pKq14 BK350) hkp (fun hs_ => (fun e_ => (Kd.R_ne HO_345001.out BK350.out (by decide)) e_) hs_)); replace HO_345001 := Aside0.mk (Kd.R_reok rfl hy0 (fun k_ e_ => HO_345001.out.1 k_ e_)); replace HO355 := Aside0.mk (Kd.R_mono (ok' := fun k_ => some k_ ≠ (.slice Ao25 t335.length co25 : Value).ownBlock ∧ some k_ ≠ (.slice Ao32 t341.length co32 : Value).ownBlock ∧ some k_ ≠ (.slice Ao39 t346.length co39 : Value).ownBlock) (Kd.R_keptB (HO355.out) hkp (fun k_ hk_ hs_ => (hk_.1.2) hs_)) (fun k_ hk_ => ⟨hk_.1.1.1.2, hk_.1.1.2, hk_.1.2⟩)); replace HB := Aside0.mk (hb); (try clear hb); (try clear hkp); (try clear hy0)))
       (try simp only [Act.put, setIfInBounds_toArray, set_cons_zero, set_cons_succ])
       go_cut [68] (fun v68 wc => ∃ (kq : Nat) (x68_54 : Bool), v68 = .bool x68_54 ∧ Aside0 (laws_FnExactMakeMove.j1 kq a1 t338 x68_54 a0_0 l0_1 t334 t335 t345 t346 = some true) ∧ Aside0 (kq ≤ kj13) ∧ Aside0 (Kd.R (Kd.int .i64) 3 wc w.heap.size (fun k_ => some k_ ≠ ((.slice Ao32 t341.length co32) : Value).ownBlock ∧ some k_ ≠ ((.slice Ao39 t346.length co39) : Value).ownBlock) (.slice Ao25 t335.length co25) t335) ∧ Aside0 (Kd.R (Kd.int .i64) 3 wc w.heap.size (fun k_ => some k_ ≠ ((.slice Ao25 t335.length co25) : Value).ownBlock ∧ some k_ ≠ ((.slice Ao39 t346.length co39) : Value).ownBlock) (.slice Ao32 t341.length co32) t358) ∧ Aside0 (Kd.R (Kd.int .i64) 3 wc w.heap.size (fun k_ => some k_ ≠ ((.slice Ao25 t335.length co25) : Value).ownBlock ∧ some k_ ≠ ((.slice Ao32 t341.length co32) : Value).ownBlock) (.slice Ao39 t346.length co39) t346) ∧ Aside0 (wc.heap[gb328]? = some (.cells #[.int .i64 a0_0, (.slice A0_1 l0_1.length c0_1)] 24 (0, 0))) ∧ Aside0 (wc.heap[gb339]? = some (.cells #[.int .i64 t334, (.slice Ao25 t335.length co25)] 28 (0, 0))) ∧ Aside0 (wc.heap[gb344]? = some (.cells #[.int .i64 t340, (.slice Ao32 t341.length co32)] 28 (0, 0))) ∧ Aside0 (wc.heap[gb350]? = some (.cells #[.int .i64 t345, (.slice Ao39 t346.length co39)] 28 (0, 0))) ∧ Aside0 (Below w.heap.size w wc))
       case first =>
        have H := HC55.out
        clear HC55
        by_cases c65 : t357 < 0
        ·rw [if_pos c65] at H
         have c65b0 : decide (t357 < 0) = true := decide_eq_true c65
         clear c65
         (first | rw [c65b0] | (simp only [i64_w, i32_w]; rw [c65b0]) | skip)
         exfalso
         revert H
         cases kj13 <;> simp [laws_FnExactMakeMove.j1]
        ·rw [if_neg c65] at H
         have c65b0 : decide (t357 < 0) = false := decide_eq_false c65
         clear c65
         (first | rw [c65b0] | (simp only [i64_w, i32_w]; rw [c65b0]) | skip)
         replace H := Option.bind_eq_some_iff.mp H
         obtain ⟨t359, A660, H⟩ := H
         replace H : (if t359 = true then (laws_FnExactMakeMove.j1 kj13 a1 t338 (t349 != t338) a0_0 l0_1 t334 t335 t345 t346) else (laws_FnExactMakeMove.j1 kj13 a1 t338 true a0_0 l0_1 t334 t335 t345 t346)) = some true := H
         have A66 := Aside0.mk A660
         clear A660
         by_cases c67 : t359 = true
         ·subst c67
          have H1 : (laws_FnExactMakeMove.j1 kj13 a1 t338 (t349 != t338) a0_0 l0_1 t334 t335 t345 t346) = some true := by rw [if_pos rfl] at H; exact H
          clear H
          have H := H1
          clear H1
          have H' := Aside0.mk H
          clear H
          have hnb68 := NB350_328.out
          have hnc68 := NB328_350.out
          have hnb69 := NB350_339.out
          have hnc69 := NB339_350.out
          have hnb70 := NB350_344.out
          have hnc70 := NB344_350.out
          have hcz71_0 : w64.cell? ⟨gb350, 0, none⟩ = some (.int .i64 t345) := (blk_cell BK350.out 0).trans rfl
          have hcz71_1 : w64.cell? ⟨gb350, 1, none⟩ = some (.slice Ao39 t346.length co39) := (blk_cell BK350.out 1).trans rfl
          have hfz71_0 := blk_frozen BK350.out 0
          have hfz71_1 := blk_frozen BK350.out 1
          have hnb72 := NB339_328.out
          have hnc72 := NB328_339.out
          have hnb73 := NB339_344.out
          have hnc73 := NB344_339.out
          have hcz74_0 : w64.cell? ⟨gb339, 0, none⟩ = some (.int .i64 t334) := (blk_cell BK339.out 0).trans rfl
          have hcz74_1 : w64.cell? ⟨gb339, 1, none⟩ = some (.slice Ao25 t335.length co25) := (blk_cell BK339.out 1).trans rfl
          have hfz74_0 := blk_frozen BK339.out 0
          have hfz74_1 := blk_frozen BK339.out 1
          go_wp2_with (first | (go_at_call 11; (with_reducible refine (laws_eqLadder.calls kj13 t345 _ _ t346 t334 _ _ t335 true _ ?side1 ?side2 ?side3 ?side4 A66.out).mono ?_); (case side1 => repeat (first | exact (Kd.R_reads' HO_351001.out).2.2 | (with_reducible refine Kd.C_alloc ?_ _) | (with_reducible refine Kd.C_drewN ?_ _) | (with_reducible refine Kd.C_drew ?_))); (case side2 => exact (Kd.R_reads' HO_351001.out).2.1); (case side3 => repeat (first | exact (Kd.R_reads' HO_340001.out).2.2 | (with_reducible refine Kd.C_alloc ?_ _) | (with_reducible refine Kd.C_drewN ?_ _) | (with_reducible refine Kd.C_drew ?_))); (case side4 => exact (Kd.R_reads' HO_340001.out).2.1); rintro e w75 ⟨rfl, hb⟩; replace HO_340001 := Aside0.mk (Kd.R_below (pRq14 HO_340001) hb); replace HO_345001 := Aside0.mk (Kd.R_below (pRq14 HO_345001) hb); replace HO_351001 := Aside0.mk (Kd.R_below (pRq14 HO_351001) hb); replace HO355 := Aside0.mk (Kd.R_below (pRq14 HO355) hb); replace BK328 := Aside0.mk (blk_below (pKq14 BK328) hb); replace BK339 := Aside0.mk (blk_below (pKq14 BK339) hb); replace BK344 := Aside0.mk (blk_below (pKq14 BK344) hb); replace BK350 := Aside0.mk (blk_below (pKq14 BK350) hb); replace HB := Aside0.mk (below_step (pBq14 HB) hb); (try clear hb); (try clear hb2); (try clear hk); (try clear hi)))
          go_meet
          case rel => exact ⟨_, ((t349 != t338)), (by first | rfl | (simp; done) | (simp [*]; done)), H', ⟨by have := HJ13.out; first | omega | exact Nat.le_refl _⟩, ⟨by (with_reducible repeat (first | apply Kd.R_alloc | apply Kd.R_drewN | apply Kd.R_drew)); exact Kd.R_mono HO_340001.out (fun _ hk => ⟨hk.1, hk.2.1⟩)⟩, ⟨by (with_reducible repeat (first | apply Kd.R_alloc | apply Kd.R_drewN | apply Kd.R_drew)); exact Kd.R_mono HO_345001.out (fun _ hk => ⟨hk.1.1, hk.1.2⟩)⟩, ⟨by (with_reducible repeat (first | apply Kd.R_alloc | apply Kd.R_drewN | apply Kd.R_drew)); exact Kd.R_mono HO_351001.out (fun _ hk => ⟨hk.1, hk.2.1⟩)⟩, ⟨by (with_reducible repeat (first | refine blk_drewN ?_ _ | refine blk_drew ?_ | refine blk_alloc ?_ _)); exact BK328.out⟩, ⟨by (with_reducible repeat (first | refine blk_drewN ?_ _ | refine blk_drew ?_ | refine blk_alloc ?_ _)); exact BK339.out⟩, ⟨by (with_reducible repeat (first | refine blk_drewN ?_ _ | refine blk_drew ?_ | refine blk_alloc ?_ _)); exact BK344.out⟩, ⟨by (with_reducible repeat (first | refine blk_drewN ?_ _ | refine blk_drew ?_ | refine blk_alloc ?_ _)); exact BK350.out⟩, ⟨by repeat (first | (with_reducible first | exact HB.out | apply below_alloc | apply pw_below_drewN | apply below_drew1 | refine below_set ?_ GE328.out | refine below_set ?_ GE339.out | refine below_set ?_ GE344.out | refine below_set ?_ GE350.out) | exact HB.out)⟩⟩
         ·replace c67 := Bool.eq_false_iff.mpr c67
          subst c67
          have H1 : (laws_FnExactMakeMove.j1 kj13 a1 t338 true a0_0 l0_1 t334 t335 t345 t346) = some true := by rw [if_neg (show ¬ (false = true) by decide)] at H; exact H
          clear H
          have H := H1
          clear H1
          exfalso
          revert H
          cases kj13 <;> simp [laws_FnExactMakeMove.j1]
       case rest =>
        clear HC55
        try clear c1
        try clear c2
        try clear p2
        try clear c3
        try clear c3b0
        try clear c3b1
        try clear c4
        try clear c5
        try clear c6
        try clear c6b0
        try clear c7
        try clear c9
        try clear c11
        try clear c15
        try clear c21
        try clear c22
        try clear c23
        try clear c29
        try clear c30
        try clear c35
        try clear c36
        try clear c37
        try clear c41
        try clear c42
        try clear c43
        try clear c44
        try clear c46
        try clear c47
        try clear c50
        try clear c53
        try clear c60
        try clear c61
        try clear c62
        try clear c65
        try clear c65b0
        try clear c67
        try clear c68
        try clear c69
        try clear c70
        try clear c72
        try clear c73
        try clear hcz16_0
        try clear hcz16_1
        try clear hcz18_0
        try clear hcz18_1
        try clear hcz24_0
        try clear hcz24_1
        try clear hcz26_0
        try clear hcz26_1
        try clear hcz31_0
        try clear hcz31_1
        try clear hcz38_0
        try clear hcz38_1
        try clear hcz45_0
        try clear hcz45_1
        try clear hcz48_0
        try clear hcz48_1
        try clear hcz63_0
        try clear hcz63_1
        try clear hcz71_0
        try clear hcz71_1
        try clear hcz74_0
        try clear hcz74_1
        try clear hcz8_0
        try clear hcz8_1
        try clear hfz16_0
        try clear hfz16_1
        try clear hfz18_0
        try clear hfz18_1
        try clear hfz24_0
        try clear hfz24_1
        try clear hfz26_0
        try clear hfz26_1
        try clear hfz31_0
        try clear hfz31_1
        try clear hfz38_0
        try clear hfz38_1
        try clear hfz45_0
        try clear hfz45_1
        try clear hfz48_0
        try clear hfz48_1
        try clear hfz63_0
        try clear hfz63_1
        try clear hfz71_0
        try clear hfz71_1
        try clear hfz74_0
        try clear hfz74_1
        try clear hfz8_0
        try clear hfz8_1
        try clear p2
        obtain ⟨kq, x68_54, rfl, HA, HJ54, HO_340001, HO_345001, HO_351001, BK328, BK339, BK344, BK350, HB⟩ := hcut
        have hl345001_54 := (Kd.R_reads' HO_345001.out).1
        rw [hl345001_54] at HO_345001
        (try simp only [hl345001_54])
        (try simp only [hl345001_54] at BK328)
        (try simp only [hl345001_54] at BK339)
        (try simp only [hl345001_54] at BK344)
        (try simp only [hl345001_54] at BK350)
        (try simp only [hl345001_54] at HO_340001)
        (try simp only [hl345001_54] at HO_351001)
        cases kq with
        | zero => exact absurd HA.out (by simp [laws_FnExactMakeMove.j1])
        | succ kj54 =>
         have H := HA.out
         clear HA
         simp only [laws_FnExactMakeMove.j1] at H
         by_cases c76 : x68_54 = true
         ·subst c76
          have H1 : (some false) = some true := by rw [if_pos rfl] at H; exact H
          clear H
          have H := H1
          clear H1
          exact absurd H (by simp)
         ·replace c76 := Bool.eq_false_iff.mpr c76
          subst c76
          have H1 : ((laws_markLadder.f kj54 t345 t346 1).bind fun bt360 => ((laws_heldLadder.f kj54 t345 bt360.2 1).bind fun t362 => (if t362 < 0 then (some false) else (if t362 = bt360.1 then ((laws_toLadder.f kj54 a0_0 l0_1).bind fun bt363 => ((impl_MakeMove.f bt363.1 bt363.2 a1).bind fun bt367 => ((laws_eqLadder.f kj54 bt367.1 bt367.2.1 t334 t335).bind fun t373 => (if t373 = true then (laws_FnExactMakeMove.j2 kj54 bt360.1 (bt367.2.2 != t338) t345 bt360.2) else (laws_FnExactMakeMove.j2 kj54 bt360.1 true t345 bt360.2))))) else (some false))))) = some true := by rw [if_neg (show ¬ (false = true) by decide)] at H; exact H
          clear H
          have H := H1
          clear H1
          replace H := Option.bind_eq_some_iff.mp H
          obtain ⟨⟨t360, t361⟩, A770, H⟩ := H
          replace H : ((laws_heldLadder.f kj54 t345 t361 1).bind fun t362 => (if t362 < 0 then (some false) else (if t362 = t360 then ((laws_toLadder.f kj54 a0_0 l0_1).bind fun bt363 => ((impl_MakeMove.f bt363.1 bt363.2 a1).bind fun bt367 => ((laws_eqLadder.f kj54 bt367.1 bt367.2.1 t334 t335).bind fun t373 => (if t373 = true then (laws_FnExactMakeMove.j2 kj54 t360 (bt367.2.2 != t338) t345 t361) else (laws_FnExactMakeMove.j2 kj54 t360 true t345 t361))))) else (some false)))) = some true := H
          have A77 := Aside0.mk A770
          clear A770
          replace H := Option.bind_eq_some_iff.mp H
          obtain ⟨t362, A780, H⟩ := H
          replace H : (if t362 < 0 then (some false) else (if t362 = t360 then ((laws_toLadder.f kj54 a0_0 l0_1).bind fun bt363 => ((impl_MakeMove.f bt363.1 bt363.2 a1).bind fun bt367 => ((laws_eqLadder.f kj54 bt367.1 bt367.2.1 t334 t335).bind fun t373 => (if t373 = true then (laws_FnExactMakeMove.j2 kj54 t360 (bt367.2.2 != t338) t345 t361) else (laws_FnExactMakeMove.j2 kj54 t360 true t345 t361))))) else (some false))) = some true := H
          have A78 := Aside0.mk A780
          clear A780
          by_cases c79 : t362 < 0
          ·rw [if_pos c79] at H
           have c79b0 : decide (t362 < 0) = true := decide_eq_true c79
           clear c79
           exact absurd H (by simp)
          ·rw [if_neg c79] at H
           have c79b0 : decide (t362 < 0) = false := decide_eq_false c79
           clear c79
           by_cases c80 : t362 = t360
           ·rw [if_pos c80] at H
            have c80b0 : (t362 == t360) = true := beq_iff_eq.mpr c80
            have c80b1 : (t362 != t360) = false := bne_eq_false_iff_eq.mpr c80
            clear c80
            replace H := Option.bind_eq_some_iff.mp H
            obtain ⟨⟨t363, t364⟩, A810, H⟩ := H
            replace H : ((impl_MakeMove.f t363 t364 a1).bind fun bt367 => ((laws_eqLadder.f kj54 bt367.1 bt367.2.1 t334 t335).bind fun t373 => (if t373 = true then (laws_FnExactMakeMove.j2 kj54 t360 (bt367.2.2 != t338) t345 t361) else (laws_FnExactMakeMove.j2 kj54 t360 true t345 t361)))) = some true := H
            have A81 := Aside0.mk A810
            clear A810
            replace H := Option.bind_eq_some_iff.mp H
            obtain ⟨⟨t367, t368, t371⟩, A820, H⟩ := H
            replace H : ((laws_eqLadder.f kj54 t367 t368 t334 t335).bind fun t373 => (if t373 = true then (laws_FnExactMakeMove.j2 kj54 t360 (t371 != t338) t345 t361) else (laws_FnExactMakeMove.j2 kj54 t360 true t345 t361))) = some true := H
            have A82 := Aside0.mk A820
            clear A820
            have HC83 := Aside0.mk H
            clear H
            have hnb84 := NB350_328.out
            have hnc84 := NB328_350.out
            have hnb85 := NB350_339.out
            have hnc85 := NB339_350.out
            have hnb86 := NB350_344.out
            have hnc86 := NB344_350.out
            have hcz87_0 : wc.cell? ⟨gb350, 0, none⟩ = some (.int .i64 t345) := (blk_cell BK350.out 0).trans rfl
            have hcz87_1 : wc.cell? ⟨gb350, 1, none⟩ = some (.slice Ao39 t346.length co39) := (blk_cell BK350.out 1).trans rfl
            have hfz87_0 := blk_frozen BK350.out 0
            have hfz87_1 := blk_frozen BK350.out 1
            go_upto_region 27 with (first | ((with_reducible refine gate_callee (f := 15) rfl ?_); refine goesL_ (some 71) rfl rfl Tryd.func15 (by kernel_rfl) rfl #[.agg #[.int .i64 t345, .slice Ao39 t346.length co39], .int .i64 1] rfl (by (try simp only [List.map_toArray, List.map_cons, List.map_nil]); first | done | rfl | (simp only [List.length_drop, List.length_take]; rfl)) ?_; (with_reducible refine (laws_markLadder.calls kj54 t345 (fun k_ => some k_ = (.slice Ao39 t346.length co39 : Value).ownBlock) (.slice Ao39 t346.length co39) t346 1 t360 t361 w _ ?side1 ?side2 A77.out).mono ?_); (case side1 => repeat (first | (with_reducible first | exact HB.out | apply below_alloc | apply pw_below_drewN | apply below_drew1 | refine below_set ?_ GE328.out | refine below_set ?_ GE339.out | refine below_set ?_ GE344.out | refine below_set ?_ GE350.out) | exact HB.out)); (case side2 => exact Kd.R_tight rfl HO_351001.out); rintro e w88 ⟨rfl, hy0, hb, hkp⟩; refine ⟨_, rfl, ?_⟩; replace HO_340001 := Aside0.mk (Kd.R_mono (ok' := fun k_ => some k_ ≠ (.slice Ao32 t358.length co32 : Value).ownBlock ∧ some k_ ≠ (.slice Ao39 t346.length co39 : Value).ownBlock) (Kd.R_keptB (HO_340001.out) hkp (fun k_ hk_ hs_ => (hk_.2) hs_)) (fun k_ hk_ => ⟨hk_.1.1, hk_.1.2⟩)); replace HO_345001 := Aside0.mk (Kd.R_mono (ok' := fun k_ => some k_ ≠ (.slice Ao25 t335.length co25 : Value).ownBlock ∧ some k_ ≠ (.slice Ao39 t346.length co39 : Value).ownBlock) (Kd.R_keptB (HO_345001.out) hkp (fun k_ hk_ hs_ => (hk_.2) hs_)) (fun k_ hk_ => ⟨hk_.1.1, hk_.1.2⟩)); replace BK328 := Aside0.mk (blk_kept (pKq14 BK328) hkp (fun hs_ => (fun e_ => (Kd.R_ne HO_351001.out BK328.out (by decide)) e_) hs_)); replace BK339 := Aside0.mk (blk_kept (pKq14 BK339) hkp (fun hs_ => (fun e_ => (Kd.R_ne HO_351001.out BK339.out (by decide)) e_) hs_)); replace BK344 := Aside0.mk (blk_kept (pKq14 BK344) hkp (fun hs_ => (fun e_ => (Kd.R_ne HO_351001.out BK344.out (by decide)) e_) hs_)); replace BK350 := Aside0.mk (blk_kept (pKq14 BK350) hkp (fun hs_ => (fun e_ => (Kd.R_ne HO_351001.out BK350.out (by decide)) e_) hs_)); replace HO_351001 := Aside0.mk (Kd.R_reok rfl hy0 (fun k_ e_ => HO_351001.out.1 k_ e_)); replace HB := Aside0.mk (hb); (try clear hb); (try clear hkp); (try clear hy0); have hcz89_0 : w88.cell? ⟨gb350, 0, none⟩ = some (.int .i64 t345) := (blk_cell BK350.out 0).trans rfl; have hcz89_1 : w88.cell? ⟨gb350, 1, none⟩ = some (.slice Ao39 t346.length co39) := (blk_cell BK350.out 1).trans rfl; have hfz89_0 := blk_frozen BK350.out 0; have hfz89_1 := blk_frozen BK350.out 1) | ((with_reducible refine gate_callee (f := 20) rfl ?_); refine goesL_ (some 74) rfl rfl Tryd.func20 (by kernel_rfl) rfl #[.agg #[.int .i64 t345, .slice Ao39 t361.length co39], .int .i64 1] rfl (by (try simp only [List.map_toArray, List.map_cons, List.map_nil]); first | done | (rw [show t361.length = t346.length from (Kd.R_reads' HO_351001.out).1.symm] <;> rfl) | rfl | (simp only [List.length_drop, List.length_take]; rfl)) ?_; (with_reducible refine (laws_heldLadder.calls kj54 t345 _ _ t361 1 t362 _ ?side1 ?side2 A78.out).mono ?_); (case side1 => repeat (first | exact (Kd.R_reads' HO_351001.out).2.2 | (with_reducible refine Kd.C_alloc ?_ _) | (with_reducible refine Kd.C_drewN ?_ _) | (with_reducible refine Kd.C_drew ?_))); (case side2 => rw [show t361.length = t346.length from (Kd.R_reads' HO_351001.out).1.symm]; exact (Kd.R_reads' HO_351001.out).2.1); rintro e w90 ⟨rfl, hb⟩; refine ⟨_, rfl, ?_⟩; replace HO_340001 := Aside0.mk (Kd.R_below (pRq14 HO_340001) hb); replace HO_345001 := Aside0.mk (Kd.R_below (pRq14 HO_345001) hb); replace HO_351001 := Aside0.mk (Kd.R_below (pRq14 HO_351001) hb); replace BK328 := Aside0.mk (blk_below (pKq14 BK328) hb); replace BK339 := Aside0.mk (blk_below (pKq14 BK339) hb); replace BK344 := Aside0.mk (blk_below (pKq14 BK344) hb); replace BK350 := Aside0.mk (blk_below (pKq14 BK350) hb); replace HB := Aside0.mk (below_step (pBq14 HB) hb); (try clear hb); (try clear hb2); (try clear hk); (try clear hi); have hnb91 := NB328_339.out; have hnc91 := NB339_328.out; have hnb92 := NB328_344.out; have hnc92 := NB344_328.out; have hcz93_0 : w90.cell? ⟨gb328, 0, none⟩ = some (.int .i64 a0_0) := (blk_cell BK328.out 0).trans rfl; have hcz93_1 : w90.cell? ⟨gb328, 1, none⟩ = some (.slice A0_1 l0_1.length c0_1) := (blk_cell BK328.out 1).trans rfl; have hfz93_0 := blk_frozen BK328.out 0; have hfz93_1 := blk_frozen BK328.out 1) | ((with_reducible refine gate_callee (f := 9) rfl ?_); refine goesL_ (some 82) rfl rfl Tryd.func9 (by kernel_rfl) rfl #[.agg #[.int .i64 a0_0, .slice A0_1 l0_1.length c0_1]] rfl (by (try simp only [List.map_toArray, List.map_cons, List.map_nil]); first | done | rfl | (simp only [List.length_drop, List.length_take]; rfl)) ?_; (with_reducible refine (laws_toLadder.calls kj54 a0_0 _ _ l0_1 t363 t364 _ ?side1 ?side2 A81.out).mono ?_); (case side1 => repeat (first | exact (Kd.C_below HR0_1.out HB.out) | (with_reducible refine Kd.C_alloc ?_ _) | (with_reducible refine Kd.C_drewN ?_ _) | (with_reducible refine Kd.C_drew ?_))); (case side2 => exact HC0_1.out); rintro e w94 ⟨v365, rfl, ho0, hb⟩; refine ⟨_, rfl, ?_⟩; have HO366 := Aside0.mk (Kd.R_lower (Kd.R_new' (Kd.R_new' (Kd.R_new' ho0 (Kd.R_lt (pRq14 HO_340001))) (Kd.R_lt (pRq14 HO_345001))) (Kd.R_lt (pRq14 HO_351001))) (below_size (pBq14 HB))); replace HO_340001 := Aside0.mk (Kd.R_elder' (pRq14 HO_340001) (Kd.R_base ho0) hb); replace HO_345001 := Aside0.mk (Kd.R_elder' (pRq14 HO_345001) (Kd.R_base ho0) hb); replace HO_351001 := Aside0.mk (Kd.R_elder' (pRq14 HO_351001) (Kd.R_base ho0) hb); replace BK328 := Aside0.mk (blk_below (pKq14 BK328) hb); replace BK339 := Aside0.mk (blk_below (pKq14 BK339) hb); replace BK344 := Aside0.mk (blk_below (pKq14 BK344) hb); replace BK350 := Aside0.mk (blk_below (pKq14 BK350) hb); replace HB := Aside0.mk (below_step (pBq14 HB) hb); (try clear hb); (try clear hb2); (try clear hk); (try clear hi); (try clear ho0); obtain ⟨Ao95, co95, eo95⟩ := Kd.R_slice HO366.out; subst eo95) | ((with_reducible refine gate_callee (f := 22) rfl ?_); refine goesL_ (some 84) rfl rfl Tryd.func22 (by kernel_rfl) rfl #[.agg #[.int .i64 t363, .slice Ao95 t364.length co95], .string a1] rfl (by (try simp only [List.map_toArray, List.map_cons, List.map_nil]); first | done | rfl | (simp only [List.length_drop, List.length_take]; rfl)) ?_; (with_reducible refine (impl_MakeMove.calls t363 _ _ t364 a1 t367 t368 t371 _ (Aside0.mk (impl_readNumber.VOK.on HV.out (pBq14 HB))) ?side1 ?side2 A82.out).mono ?_); (case side1 => repeat (first | exact (Kd.R_reads' HO366.out).2.2 | (with_reducible refine Kd.C_alloc ?_ _) | (with_reducible refine Kd.C_drewN ?_ _) | (with_reducible refine Kd.C_drew ?_))); (case side2 => exact (Kd.R_reads' HO366.out).2.1); rintro e w96 ⟨v369, rfl, ho0, hb⟩; refine ⟨_, rfl, ?_⟩; have HO370 := Aside0.mk (Kd.R_lower (Kd.R_new' (Kd.R_new' (Kd.R_new' (Kd.R_new' ho0 (Kd.R_lt (pRq14 HO_340001))) (Kd.R_lt (pRq14 HO_345001))) (Kd.R_lt (pRq14 HO_351001))) (Kd.R_lt (pRq14 HO366))) (below_size (pBq14 HB))); replace HO_340001 := Aside0.mk (Kd.R_elder' (pRq14 HO_340001) (Kd.R_base ho0) hb); replace HO_345001 := Aside0.mk (Kd.R_elder' (pRq14 HO_345001) (Kd.R_base ho0) hb); replace HO_351001 := Aside0.mk (Kd.R_elder' (pRq14 HO_351001) (Kd.R_base ho0) hb); replace HO366 := Aside0.mk (Kd.R_elder' (pRq14 HO366) (Kd.R_base ho0) hb); replace BK328 := Aside0.mk (blk_below (pKq14 BK328) hb); replace BK339 := Aside0.mk (blk_below (pKq14 BK339) hb); replace BK344 := Aside0.mk (blk_below (pKq14 BK344) hb); replace BK350 := Aside0.mk (blk_below (pKq14 BK350) hb); replace HB := Aside0.mk (below_step (pBq14 HB) hb); (try clear hb); (try clear hb2); (try clear hk); (try clear hi); (try clear ho0)) | ((with_reducible refine gate_dst (N := 14) rfl ?_); refine box_event ?hg (N := 14) ?hd (cs := #[.int .i64 0, .slice none 0 0]) (t := 28) ?hr ?_; (case hd => rfl); (case hg => rfl); (case hr => first | (go_simp; done) | (go_simp; rfl)); intro gb372 hg w97 hbox hb; have BK372 := Aside0.mk (hbox); have GW372 := Aside0.mk ((by rw [hg]; exact (below_size (pBq14 HB)) : w.heap.size ≤ gb372)); have GE372 := Aside0.mk ((by rw [hg]; exact (below_size (pBq14 HB)) : w.heap.size ≤ gb372)); have NB328_372 := Aside0.mk ((by rw [hg]; exact Nat.ne_of_lt (blk_lt (pKq14 BK328)) : gb328 ≠ gb372)); have NB372_328 := Aside0.mk ((by rw [hg]; exact Nat.ne_of_gt (blk_lt (pKq14 BK328)) : gb372 ≠ gb328)); have NB339_372 := Aside0.mk ((by rw [hg]; exact Nat.ne_of_lt (blk_lt (pKq14 BK339)) : gb339 ≠ gb372)); have NB372_339 := Aside0.mk ((by rw [hg]; exact Nat.ne_of_gt (blk_lt (pKq14 BK339)) : gb372 ≠ gb339)); have NB344_372 := Aside0.mk ((by rw [hg]; exact Nat.ne_of_lt (blk_lt (pKq14 BK344)) : gb344 ≠ gb372)); have NB372_344 := Aside0.mk ((by rw [hg]; exact Nat.ne_of_gt (blk_lt (pKq14 BK344)) : gb372 ≠ gb344)); have NB350_372 := Aside0.mk ((by rw [hg]; exact Nat.ne_of_lt (blk_lt (pKq14 BK350)) : gb350 ≠ gb372)); have NB372_350 := Aside0.mk ((by rw [hg]; exact Nat.ne_of_gt (blk_lt (pKq14 BK350)) : gb372 ≠ gb350)); replace HO_340001 := Aside0.mk (Kd.R_below (pRq14 HO_340001) hb); replace HO_345001 := Aside0.mk (Kd.R_below (pRq14 HO_345001) hb); replace HO_351001 := Aside0.mk (Kd.R_below (pRq14 HO_351001) hb); replace HO366 := Aside0.mk (Kd.R_below (pRq14 HO366) hb); replace HO370 := Aside0.mk (Kd.R_below (pRq14 HO370) hb); replace BK328 := Aside0.mk (blk_below (pKq14 BK328) hb); replace BK339 := Aside0.mk (blk_below (pKq14 BK339) hb); replace BK344 := Aside0.mk (blk_below (pKq14 BK344) hb); replace BK350 := Aside0.mk (blk_below (pKq14 BK350) hb); replace HB := Aside0.mk (below_step (pBq14 HB) hb); clear hb hbox hg; have hnb98 := NB372_328.out; have hnc98 := NB328_372.out; have hnb99 := NB372_339.out; have hnc99 := NB339_372.out; have hnb100 := NB372_344.out; have hnc100 := NB344_372.out; have hnb101 := NB372_350.out; have hnc101 := NB350_372.out; have hcz102_0 : w97.cell? ⟨gb372, 0, none⟩ = some (.int .i64 0) := (blk_cell BK372.out 0).trans rfl; have hcz102_1 : w97.cell? ⟨gb372, 1, none⟩ = some (.slice none 0 0) := (blk_cell BK372.out 1).trans rfl; have hfz102_0 := blk_frozen BK372.out 0; have hfz102_1 := blk_frozen BK372.out 1; obtain ⟨Ao103, co103, eo103⟩ := Kd.R_slice HO370.out; subst eo103))
            (try simp only [Act.put, setIfInBounds_toArray, set_cons_zero, set_cons_succ])
            go_cut [95] (fun v95 wc => ∃ (kq : Nat) (x95_82 : Bool), v95 = .bool x95_82 ∧ Aside0 (laws_FnExactMakeMove.j2 kq t360 x95_82 t345 t361 = some true) ∧ Aside0 (kq ≤ kj54) ∧ Aside0 (Kd.R (Kd.int .i64) 3 wc w.heap.size (fun k_ => some k_ ≠ ((.slice Ao32 t358.length co32) : Value).ownBlock ∧ some k_ ≠ ((.slice Ao39 t346.length co39) : Value).ownBlock ∧ some k_ ≠ ((.slice Ao103 t368.length co103) : Value).ownBlock) (.slice Ao25 t335.length co25) t335) ∧ Aside0 (Kd.R (Kd.int .i64) 3 wc w.heap.size (fun k_ => some k_ ≠ ((.slice Ao25 t335.length co25) : Value).ownBlock ∧ some k_ ≠ ((.slice Ao39 t346.length co39) : Value).ownBlock ∧ some k_ ≠ ((.slice Ao103 t368.length co103) : Value).ownBlock) (.slice Ao32 t358.length co32) t358) ∧ Aside0 (Kd.R (Kd.int .i64) 3 wc w.heap.size (fun k_ => some k_ ≠ ((.slice Ao25 t335.length co25) : Value).ownBlock ∧ some k_ ≠ ((.slice Ao32 t358.length co32) : Value).ownBlock ∧ some k_ ≠ ((.slice Ao103 t368.length co103) : Value).ownBlock) (.slice Ao39 t346.length co39) t361) ∧ Aside0 (Kd.R (Kd.int .i64) 3 wc w.heap.size (fun k_ => some k_ ≠ ((.slice Ao25 t335.length co25) : Value).ownBlock ∧ some k_ ≠ ((.slice Ao32 t358.length co32) : Value).ownBlock ∧ some k_ ≠ ((.slice Ao39 t346.length co39) : Value).ownBlock) (.slice Ao103 t368.length co103) t368) ∧ Aside0 (wc.heap[gb328]? = some (.cells #[.int .i64 a0_0, (.slice A0_1 l0_1.length c0_1)] 24 (0, 0))) ∧ Aside0 (wc.heap[gb339]? = some (.cells #[.int .i64 t334, (.slice Ao25 t335.length co25)] 28 (0, 0))) ∧ Aside0 (wc.heap[gb344]? = some (.cells #[.int .i64 t340, (.slice Ao32 t358.length co32)] 28 (0, 0))) ∧ Aside0 (wc.heap[gb350]? = some (.cells #[.int .i64 t345, (.slice Ao39 t346.length co39)] 28 (0, 0))) ∧ Aside0 (wc.heap[gb372]? = some (.cells #[.int .i64 t367, (.slice Ao103 t368.length co103)] 28 (0, 0))) ∧ Aside0 (Below w.heap.size w wc))
            case first =>
             have H := HC83.out
             clear HC83
             replace H := Option.bind_eq_some_iff.mp H
             obtain ⟨t373, A1040, H⟩ := H
             replace H : (if t373 = true then (laws_FnExactMakeMove.j2 kj54 t360 (t371 != t338) t345 t361) else (laws_FnExactMakeMove.j2 kj54 t360 true t345 t361)) = some true := H
             have A104 := Aside0.mk A1040
             clear A1040
             by_cases c105 : t373 = true
             ·subst c105
              have H1 : (laws_FnExactMakeMove.j2 kj54 t360 (t371 != t338) t345 t361) = some true := by rw [if_pos rfl] at H; exact H
              clear H
              have H := H1
              clear H1
              have H' := Aside0.mk H
              clear H
              have hnb106 := NB372_328.out
              have hnc106 := NB328_372.out
              have hnb107 := NB372_339.out
              have hnc107 := NB339_372.out
              have hnb108 := NB372_344.out
              have hnc108 := NB344_372.out
              have hnb109 := NB372_350.out
              have hnc109 := NB350_372.out
              have hcz110_0 : w97.cell? ⟨gb372, 0, none⟩ = some (.int .i64 0) := (blk_cell BK372.out 0).trans rfl
              have hcz110_1 : w97.cell? ⟨gb372, 1, none⟩ = some (.slice none 0 0) := (blk_cell BK372.out 1).trans rfl
              have hfz110_0 := blk_frozen BK372.out 0
              have hfz110_1 := blk_frozen BK372.out 1
              have hnb111 := NB339_328.out
              have hnc111 := NB328_339.out
              have hnb112 := NB339_344.out
              have hnc112 := NB344_339.out
              have hnb113 := NB339_350.out
              have hnc113 := NB350_339.out
              have hcz114_0 : w97.cell? ⟨gb339, 0, none⟩ = some (.int .i64 t334) := (blk_cell BK339.out 0).trans rfl
              have hcz114_1 : w97.cell? ⟨gb339, 1, none⟩ = some (.slice Ao25 t335.length co25) := (blk_cell BK339.out 1).trans rfl
              have hfz114_0 := blk_frozen BK339.out 0
              have hfz114_1 := blk_frozen BK339.out 1
              go_wp2_with (first | ((with_reducible refine gate_callee (f := 11) rfl ?_); refine goesL_ (some 89) rfl rfl Tryd.func11 (by kernel_rfl) rfl #[.agg #[.int .i64 t367, .slice Ao103 t368.length co103], .agg #[.int .i64 t334, .slice Ao25 t335.length co25]] rfl (by (try simp only [List.map_toArray, List.map_cons, List.map_nil]); first | done | rfl | (simp only [List.length_drop, List.length_take]; rfl)) ?_; (with_reducible refine (laws_eqLadder.calls kj54 t367 _ _ t368 t334 _ _ t335 true _ ?side1 ?side2 ?side3 ?side4 A104.out).mono ?_); (case side1 => refine (Kd.R_reads' (e := 3) (base := w.heap.size) (ok := fun k_ => ((((True ∧ some k_ ≠ (.slice Ao25 t335.length co25 : Value).ownBlock) ∧ some k_ ≠ (.slice Ao32 t358.length co32 : Value).ownBlock) ∧ some k_ ≠ (.slice Ao39 t346.length co39 : Value).ownBlock) ∧ some k_ ≠ (.slice Ao95 t364.length co95 : Value).ownBlock)) (n := t368.length) (c := co103) ?_).2.2; exact (by (with_reducible repeat (first | apply Kd.R_alloc | apply Kd.R_drewN | apply Kd.R_drew)); exact (Kd.R_mono (Kd.R_far (p := ⟨gb372, 1, none⟩) (Kd.R_far (p := ⟨gb372, 0, none⟩) (Kd.R_types HO370.out BK372.out (by decide)) (fun _ hk => hk.2) (.int .i64 t367)) (fun _ hk => hk.2) (.slice Ao103 t368.length co103)) (fun _ h_ => h_.1)))); (case side2 => exact (Kd.R_reads' HO370.out).2.1); (case side3 => refine (Kd.R_reads' (e := 3) (base := w.heap.size) (ok := fun k_ => (((some k_ ≠ (.slice Ao32 t358.length co32 : Value).ownBlock ∧ some k_ ≠ (.slice Ao39 t346.length co39 : Value).ownBlock) ∧ some k_ ≠ (.slice Ao95 t364.length co95 : Value).ownBlock) ∧ some k_ ≠ (.slice Ao103 t368.length co103 : Value).ownBlock)) (n := t335.length) (c := co25) ?_).2.2; exact (by (with_reducible repeat (first | apply Kd.R_alloc | apply Kd.R_drewN | apply Kd.R_drew)); exact (Kd.R_mono (Kd.R_far (p := ⟨gb372, 1, none⟩) (Kd.R_far (p := ⟨gb372, 0, none⟩) (Kd.R_types HO_340001.out BK372.out (by decide)) (fun _ hk => hk.2) (.int .i64 t367)) (fun _ hk => hk.2) (.slice Ao103 t368.length co103)) (fun _ h_ => h_.1)))); (case side4 => exact (Kd.R_reads' HO_340001.out).2.1); rintro e w115 ⟨rfl, hb⟩; refine ⟨_, rfl, ?_⟩; replace HO_340001 := Aside0.mk (Kd.R_below (by (with_reducible repeat (first | apply Kd.R_alloc | apply Kd.R_drewN | apply Kd.R_drew)); exact (Kd.R_mono (Kd.R_far (p := ⟨gb372, 1, none⟩) (Kd.R_far (p := ⟨gb372, 0, none⟩) (Kd.R_types HO_340001.out BK372.out (by decide)) (fun _ hk => hk.2) (.int .i64 t367)) (fun _ hk => hk.2) (.slice Ao103 t368.length co103)) (fun _ h_ => h_.1))) hb); replace HO_345001 := Aside0.mk (Kd.R_below (by (with_reducible repeat (first | apply Kd.R_alloc | apply Kd.R_drewN | apply Kd.R_drew)); exact (Kd.R_mono (Kd.R_far (p := ⟨gb372, 1, none⟩) (Kd.R_far (p := ⟨gb372, 0, none⟩) (Kd.R_types HO_345001.out BK372.out (by decide)) (fun _ hk => hk.2) (.int .i64 t367)) (fun _ hk => hk.2) (.slice Ao103 t368.length co103)) (fun _ h_ => h_.1))) hb); replace HO_351001 := Aside0.mk (Kd.R_below (by (with_reducible repeat (first | apply Kd.R_alloc | apply Kd.R_drewN | apply Kd.R_drew)); exact (Kd.R_mono (Kd.R_far (p := ⟨gb372, 1, none⟩) (Kd.R_far (p := ⟨gb372, 0, none⟩) (Kd.R_types HO_351001.out BK372.out (by decide)) (fun _ hk => hk.2) (.int .i64 t367)) (fun _ hk => hk.2) (.slice Ao103 t368.length co103)) (fun _ h_ => h_.1))) hb); replace HO366 := Aside0.mk (Kd.R_below (by (with_reducible repeat (first | apply Kd.R_alloc | apply Kd.R_drewN | apply Kd.R_drew)); exact (Kd.R_mono (Kd.R_far (p := ⟨gb372, 1, none⟩) (Kd.R_far (p := ⟨gb372, 0, none⟩) (Kd.R_types HO366.out BK372.out (by decide)) (fun _ hk => hk.2) (.int .i64 t367)) (fun _ hk => hk.2) (.slice Ao103 t368.length co103)) (fun _ h_ => h_.1))) hb); replace HO370 := Aside0.mk (Kd.R_below (by (with_reducible repeat (first | apply Kd.R_alloc | apply Kd.R_drewN | apply Kd.R_drew)); exact (Kd.R_mono (Kd.R_far (p := ⟨gb372, 1, none⟩) (Kd.R_far (p := ⟨gb372, 0, none⟩) (Kd.R_types HO370.out BK372.out (by decide)) (fun _ hk => hk.2) (.int .i64 t367)) (fun _ hk => hk.2) (.slice Ao103 t368.length co103)) (fun _ h_ => h_.1))) hb); replace BK328 := Aside0.mk (blk_below (g := gb328) (o := .cells #[.int .i64 a0_0, .slice A0_1 l0_1.length c0_1] 24 (0, 0)) (by (with_reducible repeat (first | refine blk_drewN ?_ _ | refine blk_drew ?_ | refine blk_alloc ?_ _)); refine blk_far ?_ NB328_372.out _; (with_reducible repeat (first | refine blk_drewN ?_ _ | refine blk_drew ?_ | refine blk_alloc ?_ _)); refine blk_far ?_ NB328_372.out _; (with_reducible repeat (first | refine blk_drewN ?_ _ | refine blk_drew ?_ | refine blk_alloc ?_ _)); exact BK328.out) hb); replace BK339 := Aside0.mk (blk_below (g := gb339) (o := .cells #[.int .i64 t334, .slice Ao25 t335.length co25] 28 (0, 0)) (by (with_reducible repeat (first | refine blk_drewN ?_ _ | refine blk_drew ?_ | refine blk_alloc ?_ _)); refine blk_far ?_ NB339_372.out _; (with_reducible repeat (first | refine blk_drewN ?_ _ | refine blk_drew ?_ | refine blk_alloc ?_ _)); refine blk_far ?_ NB339_372.out _; (with_reducible repeat (first | refine blk_drewN ?_ _ | refine blk_drew ?_ | refine blk_alloc ?_ _)); exact BK339.out) hb); replace BK344 := Aside0.mk (blk_below (g := gb344) (o := .cells #[.int .i64 t340, .slice Ao32 t358.length co32] 28 (0, 0)) (by (with_reducible repeat (first | refine blk_drewN ?_ _ | refine blk_drew ?_ | refine blk_alloc ?_ _)); refine blk_far ?_ NB344_372.out _; (with_reducible repeat (first | refine blk_drewN ?_ _ | refine blk_drew ?_ | refine blk_alloc ?_ _)); refine blk_far ?_ NB344_372.out _; (with_reducible repeat (first | refine blk_drewN ?_ _ | refine blk_drew ?_ | refine blk_alloc ?_ _)); exact BK344.out) hb); replace BK350 := Aside0.mk (blk_below (g := gb350) (o := .cells #[.int .i64 t345, .slice Ao39 t346.length co39] 28 (0, 0)) (by (with_reducible repeat (first | refine blk_drewN ?_ _ | refine blk_drew ?_ | refine blk_alloc ?_ _)); refine blk_far ?_ NB350_372.out _; (with_reducible repeat (first | refine blk_drewN ?_ _ | refine blk_drew ?_ | refine blk_alloc ?_ _)); refine blk_far ?_ NB350_372.out _; (with_reducible repeat (first | refine blk_drewN ?_ _ | refine blk_drew ?_ | refine blk_alloc ?_ _)); exact BK350.out) hb); replace BK372 := Aside0.mk (blk_below (g := gb372) (o := .cells #[.int .i64 t367, .slice Ao103 t368.length co103] 28 (0, 0)) (by (with_reducible repeat (first | refine blk_drewN ?_ _ | refine blk_drew ?_ | refine blk_alloc ?_ _)); refine blk_put (cs := #[.int .i64 t367, .slice none 0 0]) ?_ 1 _ rfl; (with_reducible repeat (first | refine blk_drewN ?_ _ | refine blk_drew ?_ | refine blk_alloc ?_ _)); refine blk_put (cs := #[.int .i64 0, .slice none 0 0]) ?_ 0 _ rfl; (with_reducible repeat (first | refine blk_drewN ?_ _ | refine blk_drew ?_ | refine blk_alloc ?_ _)); exact BK372.out) hb); replace HB := Aside0.mk (below_step (pBq14 HB) hb); (try clear hb); (try clear hb2); (try clear hk); (try clear hi)))
              go_meet
              case rel => exact ⟨_, ((t371 != t338)), (by first | rfl | (simp; done) | (simp [*]; done)), H', ⟨by have := HJ13.out; have := HJ54.out; first | omega | exact Nat.le_refl _⟩, ⟨by (try simp only [hl345001_54]); (with_reducible repeat (first | apply Kd.R_alloc | apply Kd.R_drewN | apply Kd.R_drew)); exact Kd.R_mono HO_340001.out (fun _ hk => ⟨hk.1.1.1, ⟨hk.1.1.2, hk.2⟩⟩)⟩, ⟨by (try simp only [hl345001_54]); (with_reducible repeat (first | apply Kd.R_alloc | apply Kd.R_drewN | apply Kd.R_drew)); exact Kd.R_mono HO_345001.out (fun _ hk => ⟨hk.1.1.1, ⟨hk.1.1.2, hk.2⟩⟩)⟩, ⟨by (try simp only [hl345001_54]); (with_reducible repeat (first | apply Kd.R_alloc | apply Kd.R_drewN | apply Kd.R_drew)); exact Kd.R_mono HO_351001.out (fun _ hk => ⟨hk.1.1.1, ⟨hk.1.1.2, hk.2⟩⟩)⟩, ⟨by (try simp only [hl345001_54]); (with_reducible repeat (first | apply Kd.R_alloc | apply Kd.R_drewN | apply Kd.R_drew)); exact Kd.R_mono HO370.out (fun _ hk => ⟨hk.1.1.1.2, ⟨hk.1.1.2, hk.1.2⟩⟩)⟩, ⟨by (try simp only [hl345001_54]); (with_reducible repeat (first | refine blk_drewN ?_ _ | refine blk_drew ?_ | refine blk_alloc ?_ _)); exact BK328.out⟩, ⟨by (try simp only [hl345001_54]); (with_reducible repeat (first | refine blk_drewN ?_ _ | refine blk_drew ?_ | refine blk_alloc ?_ _)); exact BK339.out⟩, ⟨by (try simp only [hl345001_54]); (with_reducible repeat (first | refine blk_drewN ?_ _ | refine blk_drew ?_ | refine blk_alloc ?_ _)); exact BK344.out⟩, ⟨by (try simp only [hl345001_54]); (with_reducible repeat (first | refine blk_drewN ?_ _ | refine blk_drew ?_ | refine blk_alloc ?_ _)); exact BK350.out⟩, ⟨by (try simp only [hl345001_54]); (with_reducible repeat (first | refine blk_drewN ?_ _ | refine blk_drew ?_ | refine blk_alloc ?_ _)); exact BK372.out⟩, ⟨by repeat (first | (with_reducible first | exact HB.out | apply below_alloc | apply pw_below_drewN | apply below_drew1 | refine below_set ?_ GE328.out | refine below_set ?_ GE339.out | refine below_set ?_ GE344.out | refine below_set ?_ GE350.out | refine below_set ?_ GE372.out) | exact HB.out)⟩⟩
             ·replace c105 := Bool.eq_false_iff.mpr c105
              subst c105
              have H1 : (laws_FnExactMakeMove.j2 kj54 t360 true t345 t361) = some true := by rw [if_neg (show ¬ (false = true) by decide)] at H; exact H
              clear H
              have H := H1
              clear H1
              exfalso
              revert H
              cases kj54 <;> simp [laws_FnExactMakeMove.j2]
            case rest =>
             clear HC83
             try clear c1
             try clear c2
             try clear p2
             try clear c3
             try clear c3b0
             try clear c3b1
             try clear c4
             try clear c5
             try clear c6
             try clear c6b0
             try clear c7
             try clear c8
             try clear c9
             try clear c10
             try clear c11
             try clear c15
             try clear c20
             try clear c21
             try clear c22
             try clear c23
             try clear c29
             try clear c30
             try clear c35
             try clear c36
             try clear c37
             try clear c41
             try clear c42
             try clear c43
             try clear c44
             try clear c46
             try clear c47
             try clear c50
             try clear c53
             try clear c60
             try clear c61
             try clear c62
             try clear c65
             try clear c65b0
             try clear c67
             try clear c68
             try clear c69
             try clear c70
             try clear c72
             try clear c73
             try clear c76
             try clear c79
             try clear c79b0
             try clear c80
             try clear c80b0
             try clear c80b1
             try clear c84
             try clear c85
             try clear c86
             try clear c91
             try clear c92
             try clear c98
             try clear c99
             try clear c100
             try clear c101
             try clear c105
             try clear c106
             try clear c107
             try clear c108
             try clear c109
             try clear c111
             try clear c112
             try clear c113
             try clear hcz102_0
             try clear hcz102_1
             try clear hcz110_0
             try clear hcz110_1
             try clear hcz114_0
             try clear hcz114_1
             try clear hcz16_0
             try clear hcz16_1
             try clear hcz18_0
             try clear hcz18_1
             try clear hcz24_0
             try clear hcz24_1
             try clear hcz26_0
             try clear hcz26_1
             try clear hcz31_0
             try clear hcz31_1
             try clear hcz38_0
             try clear hcz38_1
             try clear hcz45_0
             try clear hcz45_1
             try clear hcz48_0
             try clear hcz48_1
             try clear hcz63_0
             try clear hcz63_1
             try clear hcz71_0
             try clear hcz71_1
             try clear hcz74_0
             try clear hcz74_1
             try clear hcz87_0
             try clear hcz87_1
             try clear hcz89_0
             try clear hcz89_1
             try clear hcz8_0
             try clear hcz8_1
             try clear hcz93_0
             try clear hcz93_1
             try clear hfz102_0
             try clear hfz102_1
             try clear hfz110_0
             try clear hfz110_1
             try clear hfz114_0
             try clear hfz114_1
             try clear hfz16_0
             try clear hfz16_1
             try clear hfz18_0
             try clear hfz18_1
             try clear hfz24_0
             try clear hfz24_1
             try clear hfz26_0
             try clear hfz26_1
             try clear hfz31_0
             try clear hfz31_1
             try clear hfz38_0
             try clear hfz38_1
             try clear hfz45_0
             try clear hfz45_1
             try clear hfz48_0
             try clear hfz48_1
             try clear hfz63_0
             try clear hfz63_1
             try clear hfz71_0
             try clear hfz71_1
             try clear hfz74_0
             try clear hfz74_1
             try clear hfz87_0
             try clear hfz87_1
             try clear hfz89_0
             try clear hfz89_1
             try clear hfz8_0
             try clear hfz8_1
             try clear hfz93_0
             try clear hfz93_1
             try clear p2
             obtain ⟨kq, x95_82, rfl, HA, HJ82, HO_340001, HO_345001, HO_351001, HO_373001, BK328, BK339, BK344, BK350, BK372, HB⟩ := hcut
             have hl351001_82 := (Kd.R_reads' HO_351001.out).1
             rw [hl351001_82] at HO_351001
             (try simp only [hl351001_82])
             (try simp only [hl351001_82] at BK328)
             (try simp only [hl351001_82] at BK339)
             (try simp only [hl351001_82] at BK344)
             (try simp only [hl351001_82] at BK350)
             (try simp only [hl351001_82] at BK372)
             (try simp only [hl351001_82] at HO_340001)
             (try simp only [hl351001_82] at HO_345001)
             (try simp only [hl351001_82] at HO_373001)
             cases kq with
             | zero => exact absurd HA.out (by simp [laws_FnExactMakeMove.j2])
             | succ kj82 =>
              have H := HA.out
              clear HA
              simp only [laws_FnExactMakeMove.j2] at H
              by_cases c116 : x95_82 = true
              ·subst c116
               have H1 : (some false) = some true := by rw [if_pos rfl] at H; exact H
               clear H
               have H := H1
               clear H1
               exact absurd H (by simp)
              ·replace c116 := Bool.eq_false_iff.mpr c116
               subst c116
               have H1 : ((laws_heldLadder.f kj82 t345 t361 1).bind fun t374 => (if t374 < 0 then (some false) else (if t374 = t360 then (some true) else (some false)))) = some true := by rw [if_neg (show ¬ (false = true) by decide)] at H; exact H
               clear H
               have H := H1
               clear H1
               replace H := Option.bind_eq_some_iff.mp H
               obtain ⟨t374, A1170, H⟩ := H
               replace H : (if t374 < 0 then (some false) else (if t374 = t360 then (some true) else (some false))) = some true := H
               have A117 := Aside0.mk A1170
               clear A1170
               by_cases c118 : t374 < 0
               ·rw [if_pos c118] at H
                have c118b0 : decide (t374 < 0) = true := decide_eq_true c118
                clear c118
                exact absurd H (by simp)
               ·rw [if_neg c118] at H
                have c118b0 : decide (t374 < 0) = false := decide_eq_false c118
                clear c118
                by_cases c119 : t374 = t360
                ·rw [if_pos c119] at H
                 have c119b0 : (t374 == t360) = true := beq_iff_eq.mpr c119
                 have c119b1 : (t374 != t360) = false := bne_eq_false_iff_eq.mpr c119
                 clear c119
                 clear H
                 have hnb120 := NB350_328.out
                 have hnc120 := NB328_350.out
                 have hnb121 := NB350_339.out
                 have hnc121 := NB339_350.out
                 have hnb122 := NB350_344.out
                 have hnc122 := NB344_350.out
                 have hnb123 := NB350_372.out
                 have hnc123 := NB372_350.out
                 have hcz124_0 : wc.cell? ⟨gb350, 0, none⟩ = some (.int .i64 t345) := (blk_cell BK350.out 0).trans rfl
                 have hcz124_1 : wc.cell? ⟨gb350, 1, none⟩ = some (.slice Ao39 t361.length co39) := (blk_cell BK350.out 1).trans rfl
                 have hfz124_0 := blk_frozen BK350.out 0
                 have hfz124_1 := blk_frozen BK350.out 1
                 go_wp2_with (first | ((with_reducible refine gate_callee (f := 20) rfl ?_); refine goesL_ (some 98) rfl rfl Tryd.func20 (by kernel_rfl) rfl #[.agg #[.int .i64 t345, .slice Ao39 t361.length co39], .int .i64 1] rfl (by (try simp only [List.map_toArray, List.map_cons, List.map_nil]); first | done | rfl | (simp only [List.length_drop, List.length_take]; rfl)) ?_; (with_reducible refine (laws_heldLadder.calls kj82 t345 _ _ t361 1 t374 _ ?side1 ?side2 A117.out).mono ?_); (case side1 => repeat (first | exact (Kd.R_reads' HO_351001.out).2.2 | (with_reducible refine Kd.C_alloc ?_ _) | (with_reducible refine Kd.C_drewN ?_ _) | (with_reducible refine Kd.C_drew ?_))); (case side2 => exact (Kd.R_reads' HO_351001.out).2.1); rintro e w125 ⟨rfl, hb⟩; refine ⟨_, rfl, ?_⟩; replace HO_340001 := Aside0.mk (Kd.R_below (pRq14 HO_340001) hb); replace HO_345001 := Aside0.mk (Kd.R_below (pRq14 HO_345001) hb); replace HO_351001 := Aside0.mk (Kd.R_below (pRq14 HO_351001) hb); replace HO_373001 := Aside0.mk (Kd.R_below (pRq14 HO_373001) hb); replace BK328 := Aside0.mk (blk_below (pKq14 BK328) hb); replace BK339 := Aside0.mk (blk_below (pKq14 BK339) hb); replace BK344 := Aside0.mk (blk_below (pKq14 BK344) hb); replace BK350 := Aside0.mk (blk_below (pKq14 BK350) hb); replace BK372 := Aside0.mk (blk_below (pKq14 BK372) hb); replace HB := Aside0.mk (below_step (pBq14 HB) hb); (try clear hb); (try clear hb2); (try clear hk); (try clear hi)))
                 go_ret
                 exact ⟨by first | rfl | (simp [errW_none, errW_some] <;> rfl) | (simp [*, errW_none, errW_some] <;> rfl), by repeat (first | (with_reducible first | exact HB.out | apply below_alloc | apply pw_below_drewN | apply below_drew1 | refine below_set ?_ GE328.out | refine below_set ?_ GE339.out | refine below_set ?_ GE344.out | refine below_set ?_ GE350.out | refine below_set ?_ GE372.out) | exact HB.out)⟩
                ·rw [if_neg c119] at H
                 have c119b0 : (t374 == t360) = false := beq_eq_false_iff_ne.mpr c119
                 have c119b1 : (t374 != t360) = true := bne_iff_ne.mpr c119
                 exact absurd H (by simp)
           ·rw [if_neg c80] at H
            have c80b0 : (t362 == t360) = false := beq_eq_false_iff_ne.mpr c80
            have c80b1 : (t362 != t360) = true := bne_iff_ne.mpr c80
            exact absurd H (by simp)
      ·replace c53 := Bool.eq_false_iff.mpr c53
       subst c53
       have H1 : (some false) = some true := by rw [if_neg (show ¬ (false = true) by decide)] at H; exact H
       clear H
       have H := H1
       clear H1
       exact absurd H (by simp)
/-- THE ONE PURE STATEMENT of laws_FnExactMakeMove. -/
def laws_FnExactMakeMove.Pure : Prop := ∀ (a0_0 : Int) (l0_1 : List Int) (a1 : ByteArray), (Lit.int .i64 a0_0).wf = true → l0_1.length ≤ maxLen → l0_1.length * 8 ≤ 140737488351232 → (∀ x ∈ l0_1, (Lit.int .i64 x).wf = true) → a1.size ≤ 140737488351232 → ∃ k, laws_FnExactMakeMove.f k a0_0 l0_1 a1 = some true
theorem laws_FnExactMakeMove.walk (P : laws_FnExactMakeMove.Pure) (a0_0 : Int) (a0_1 : Option Addr) (len0_1 cap0_1 : Nat) (z0_1 : List Int) (a1 : ByteArray) (w : World) (HV : Aside0 (impl_readNumber.VOK w)) (w0_0 : (Lit.int .i64 a0_0).wf = true) (w0_1 : (a0_1 = none ∧ len0_1 = 0 ∧ cap0_1 = 0 ∧ z0_1 = []) ∨ ∃ x, a0_1 = some x ∧ len0_1 ≤ cap0_1 ∧ cap0_1 ≤ maxLen ∧ z0_1.length = cap0_1 ∧ (∀ i, i < z0_1.length → w.cell? (x.add i) = some (.int .i64 (z0_1.getD i 0))) ∧ ∀ n ∈ z0_1, (Lit.int .i64 n).wf = true) (y0_1 : len0_1 * 8 ≤ 140737488351232) (w1 : a1.size ≤ 140737488351232) :
  Calls Tryd.prog 6 #[.agg #[.int .i64 a0_0, .slice a0_1 len0_1 cap0_1], .string a1] w fun e w' => e = .returned (.bool true) ∧ Below w.heap.size w w' := by
 obtain ⟨l0_1, rfl, hr0_1, hm0_1, hw0_1, hc0_1⟩ := ReadsInt.ofRowC w0_1
 obtain ⟨k, h⟩ := P a0_0 l0_1 a1 w0_0 hm0_1 y0_1 hw0_1 w1
 refine (laws_FnExactMakeMove.calls k a0_0 _ _ l0_1 a1 w HV (Kd.C_of_reads (d := (0 : Int)) (h1 := fun _ => rfl) hr0_1) hc0_1 h).mono ?_
 rintro e w' ⟨rfl, hd⟩
 exact ⟨rfl, hd⟩
end
end Go.Proofs.YtldcjlpbodpmbaaDoor.PMm
