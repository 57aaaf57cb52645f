-- Written for this claim by a program of this session (myprint.py) over the kit's printer.
import Derived.Test.YtmoobmeihckaiaaPAllx0
import Derived.Test.YtmoobmeihckaiaaPAllx1
import Derived.Test.YtmoobmeihckaiaaPAllx2
import Derived.Test.YtmoobmeihckaiaaPAllx4
import Derived.Test.YtmoobmeihckaiaaPAllx5
import Derived.Test.YtmoobmeihckaiaaPAllx15
import Derived.Test.YtmoobmeihckaiaaPAllx16
namespace Go.Proofs.Ytmoobmeihckaiaa.PAll
open Go.RowKit Go.Proofs.YtmoobmeihckaiaaW.PrintWords Go.Proofs.YtmoobmeihckaiaaW.PrintLast Go.Proofs.YtmoobmeihckaiaaW.PrintMore
attribute [local go_sem] max2_int min2_int max_two min_two max_three min_three max_four min_four   -- for this text's walks alone
set_option linter.unusedVariables false
set_option linter.unusedSimpArgs false

/-! ### laws_FnExactReduceLadder: function 6 -/
mutual
def laws_FnExactReduceLadder.j0 : Nat → Bool → Bool → Bool → Int → List Int → Int → List Int → Int → List Int → Int → List Int → Option (Bool)
  | 0, _, _, _, _, _, _, _, _, _, _, _ => none
  | k + 1, x5, x8, x40, x435000, x435001, x446000, x446001, x451000, x451001, x457000, x457001 => if x40 = true then (some false) else ((laws_toLadder.f k x435000 x435001).bind fun bt458 => ((laws_eqLadder.f k x451000 x451001 bt458.1 bt458.2).bind fun t462 => (if t462 = true then ((laws_markLadder.f k x451000 x451001 1).bind fun bt463 => (if bt463.1 < 0 then (laws_FnExactReduceLadder.j1 k x5 true x435000 x435001 x446000 x446001 x457000 x457001) else ((laws_eqLadder.f k x457000 x457001 x446000 x446001).bind fun t465 => (if t465 = true then (laws_FnExactReduceLadder.j1 k x5 (x8 != x5) x435000 x435001 x446000 x446001 x457000 x457001) else (laws_FnExactReduceLadder.j1 k x5 true x435000 x435001 x446000 x446001 x457000 x457001))))) else (some false))))
def laws_FnExactReduceLadder.j1 : Nat → Bool → Bool → Int → List Int → Int → List Int → Int → List Int → Option (Bool)
  | 0, _, _, _, _, _, _, _, _ => none
  | k + 1, x5, x61, x435000, x435001, x446000, x446001, x457000, x457001 => if x61 = true then (some false) else ((laws_markLadder.f k x457000 x457001 1).bind fun bt466 => ((laws_heldLadder.f k x457000 bt466.2 1).bind fun t468 => (if t468 < 0 then (some false) else (if t468 = bt466.1 then ((laws_toLadder.f k x435000 x435001).bind fun bt469 => ((impl_ReduceLadder.f k bt469.1 bt469.2).bind fun bt473 => ((laws_eqLadder.f k bt473.1 bt473.2.1 x446000 x446001).bind fun t479 => (if t479 = true then (laws_FnExactReduceLadder.j2 k bt466.1 (bt473.2.2 != x5) x457000 bt466.2) else (laws_FnExactReduceLadder.j2 k bt466.1 true x457000 bt466.2))))) else (some false)))))
def laws_FnExactReduceLadder.j2 : Nat → Int → Bool → Int → List Int → Option (Bool)
  | 0, _, _, _, _ => none
  | k + 1, x10, x87, x457000, x457001 => if x87 = true then (some false) else ((laws_heldLadder.f k x457000 x457001 1).bind fun t480 => (if t480 < 0 then (some false) else (if t480 = x10 then (some true) else (some false))))
end
def laws_FnExactReduceLadder.f (k : Nat) (a0_0 : Int) (l0_1 : List Int) : Option (Bool) := (laws_szLadder.f a0_0 l0_1 1048576).bind fun t435 => (if t435 < 0 then (some true) else ((laws_toLadder.f k a0_0 l0_1).bind fun bt436 => ((spec_ReduceLadder.f k bt436.1 bt436.2).bind fun bt440 => ((laws_toLadder.f k a0_0 l0_1).bind fun bt446 => ((impl_ReduceLadder.f k bt446.1 bt446.2).bind fun bt451 => ((laws_eqLadder.f k bt451.1 bt451.2.1 bt440.1 bt440.2.1).bind fun t457 => (if t457 = true then (laws_FnExactReduceLadder.j0 k bt440.2.2 bt451.2.2 (bt451.2.2 != bt440.2.2) a0_0 l0_1 bt440.1 bt440.2.1 bt446.1 bt446.2 bt451.1 bt451.2.1) else (laws_FnExactReduceLadder.j0 k bt440.2.2 bt451.2.2 true a0_0 l0_1 bt440.1 bt440.2.1 bt446.1 bt446.2 bt451.1 bt451.2.1))))))))
theorem laws_FnExactReduceLadder.mono_l : ∀ k, (∀ y0 y1 y2 y3 y4 y5 y6 y7 y8 y9 y10, LeO (laws_FnExactReduceLadder.j0 k y0 y1 y2 y3 y4 y5 y6 y7 y8 y9 y10) (laws_FnExactReduceLadder.j0 (k + 1) y0 y1 y2 y3 y4 y5 y6 y7 y8 y9 y10)) ∧ (∀ y0 y1 y2 y3 y4 y5 y6 y7, LeO (laws_FnExactReduceLadder.j1 k y0 y1 y2 y3 y4 y5 y6 y7) (laws_FnExactReduceLadder.j1 (k + 1) y0 y1 y2 y3 y4 y5 y6 y7)) ∧ (∀ y0 y1 y2 y3, LeO (laws_FnExactReduceLadder.j2 k y0 y1 y2 y3) (laws_FnExactReduceLadder.j2 (k + 1) y0 y1 y2 y3))
  | 0 => ⟨fun _ _ _ _ _ _ _ _ _ _ _ r h => by simp [laws_FnExactReduceLadder.j0] at h, fun _ _ _ _ _ _ _ _ r h => by simp [laws_FnExactReduceLadder.j1] at h, fun _ _ _ _ r h => by simp [laws_FnExactReduceLadder.j2] at h⟩
  | k + 1 => by
    obtain ⟨ih0, ih1, ih2⟩ := laws_FnExactReduceLadder.mono_l k
    refine ⟨?_, ?_, ?_⟩
    · intro y0 y1 y2 y3 y4 y5 y6 y7 y8 y9 y10
      unfold laws_FnExactReduceLadder.j0
      repeat' first
      | (with_reducible exact ih0 _ _ _ _ _ _ _ _ _ _ _)
      | (with_reducible exact ih1 _ _ _ _ _ _ _ _)
      | (with_reducible exact ih2 _ _ _ _)
      | (with_reducible exact impl_ReduceLadder.mono _ _ _)
      | (with_reducible exact laws_eqLadder.mono _ _ _ _ _)
      | (with_reducible exact laws_heldLadder.mono _ _ _ _)
      | (with_reducible exact laws_markLadder.mono _ _ _ _)
      | (with_reducible exact laws_toLadder.mono _ _ _)
      | (with_reducible exact spec_ReduceLadder.mono _ _ _)
      | (with_reducible exact LeO.refl _)
      | (with_reducible exact LeO.none _)
      | (with_reducible refine LeO.ite ?_ ?_)
      | (with_reducible refine LeO.bind ?_ (fun _ => ?_))
      | exact ih0 _ _ _ _ _ _ _ _ _ _ _
      | exact ih1 _ _ _ _ _ _ _ _
      | exact ih2 _ _ _ _
      | exact impl_ReduceLadder.mono _ _ _
      | exact laws_eqLadder.mono _ _ _ _ _
      | exact laws_heldLadder.mono _ _ _ _
      | exact laws_markLadder.mono _ _ _ _
      | exact laws_toLadder.mono _ _ _
      | exact spec_ReduceLadder.mono _ _ _
      | exact LeO.none _
      | refine LeO.ite ?_ ?_
      | refine LeO.bind ?_ (fun _ => ?_)
    · intro y0 y1 y2 y3 y4 y5 y6 y7
      unfold laws_FnExactReduceLadder.j1
      repeat' first
      | (with_reducible exact ih0 _ _ _ _ _ _ _ _ _ _ _)
      | (with_reducible exact ih1 _ _ _ _ _ _ _ _)
      | (with_reducible exact ih2 _ _ _ _)
      | (with_reducible exact impl_ReduceLadder.mono _ _ _)
      | (with_reducible exact laws_eqLadder.mono _ _ _ _ _)
      | (with_reducible exact laws_heldLadder.mono _ _ _ _)
      | (with_reducible exact laws_markLadder.mono _ _ _ _)
      | (with_reducible exact laws_toLadder.mono _ _ _)
      | (with_reducible exact spec_ReduceLadder.mono _ _ _)
      | (with_reducible exact LeO.refl _)
      | (with_reducible exact LeO.none _)
      | (with_reducible refine LeO.ite ?_ ?_)
      | (with_reducible refine LeO.bind ?_ (fun _ => ?_))
      | exact ih0 _ _ _ _ _ _ _ _ _ _ _
      | exact ih1 _ _ _ _ _ _ _ _
      | exact ih2 _ _ _ _
      | exact impl_ReduceLadder.mono _ _ _
      | exact laws_eqLadder.mono _ _ _ _ _
      | exact laws_heldLadder.mono _ _ _ _
      | exact laws_markLadder.mono _ _ _ _
      | exact laws_toLadder.mono _ _ _
      | exact spec_ReduceLadder.mono _ _ _
      | exact LeO.none _
      | refine LeO.ite ?_ ?_
      | refine LeO.bind ?_ (fun _ => ?_)
    · intro y0 y1 y2 y3
      unfold laws_FnExactReduceLadder.j2
      repeat' first
      | (with_reducible exact ih0 _ _ _ _ _ _ _ _ _ _ _)
      | (with_reducible exact ih1 _ _ _ _ _ _ _ _)
      | (with_reducible exact ih2 _ _ _ _)
      | (with_reducible exact impl_ReduceLadder.mono _ _ _)
      | (with_reducible exact laws_eqLadder.mono _ _ _ _ _)
      | (with_reducible exact laws_heldLadder.mono _ _ _ _)
      | (with_reducible exact laws_markLadder.mono _ _ _ _)
      | (with_reducible exact laws_toLadder.mono _ _ _)
      | (with_reducible exact spec_ReduceLadder.mono _ _ _)
      | (with_reducible exact LeO.refl _)
      | (with_reducible exact LeO.none _)
      | (with_reducible refine LeO.ite ?_ ?_)
      | (with_reducible refine LeO.bind ?_ (fun _ => ?_))
      | exact ih0 _ _ _ _ _ _ _ _ _ _ _
      | exact ih1 _ _ _ _ _ _ _ _
      | exact ih2 _ _ _ _
      | exact impl_ReduceLadder.mono _ _ _
      | exact laws_eqLadder.mono _ _ _ _ _
      | exact laws_heldLadder.mono _ _ _ _
      | exact laws_markLadder.mono _ _ _ _
      | exact laws_toLadder.mono _ _ _
      | exact spec_ReduceLadder.mono _ _ _
      | exact LeO.none _
      | refine LeO.ite ?_ ?_
      | refine LeO.bind ?_ (fun _ => ?_)
theorem laws_FnExactReduceLadder.mono : ∀ a0 a1 k, LeO (laws_FnExactReduceLadder.f k a0 a1) (laws_FnExactReduceLadder.f (k + 1) a0 a1) := by
  intro a0 a1 k
  obtain ⟨ih0, ih1, ih2⟩ := laws_FnExactReduceLadder.mono_l k
  unfold laws_FnExactReduceLadder.f
  repeat' first
      | (with_reducible exact ih0 _ _ _ _ _ _ _ _ _ _ _)
      | (with_reducible exact ih1 _ _ _ _ _ _ _ _)
      | (with_reducible exact ih2 _ _ _ _)
      | (with_reducible exact impl_ReduceLadder.mono _ _ _)
      | (with_reducible exact laws_eqLadder.mono _ _ _ _ _)
      | (with_reducible exact laws_heldLadder.mono _ _ _ _)
      | (with_reducible exact laws_markLadder.mono _ _ _ _)
      | (with_reducible exact laws_toLadder.mono _ _ _)
      | (with_reducible exact spec_ReduceLadder.mono _ _ _)
      | (with_reducible exact LeO.refl _)
      | (with_reducible exact LeO.none _)
      | (with_reducible refine LeO.ite ?_ ?_)
      | (with_reducible refine LeO.bind ?_ (fun _ => ?_))
      | exact ih0 _ _ _ _ _ _ _ _ _ _ _
      | exact ih1 _ _ _ _ _ _ _ _
      | exact ih2 _ _ _ _
      | exact impl_ReduceLadder.mono _ _ _
      | exact laws_eqLadder.mono _ _ _ _ _
      | exact laws_heldLadder.mono _ _ _ _
      | exact laws_markLadder.mono _ _ _ _
      | exact laws_toLadder.mono _ _ _
      | exact spec_ReduceLadder.mono _ _ _
      | exact LeO.none _
      | refine LeO.ite ?_ ?_
      | refine LeO.bind ?_ (fun _ => ?_)
set_option maxHeartbeats 8000000 in
set_option maxRecDepth 100000 in
theorem laws_FnExactReduceLadder.calls (k : Nat) (a0_0 : Int) (A0_1 : Option Addr) (c0_1 : Nat) (l0_1 : List Int) (r : Bool) (w : World) (hr0_1 : Kd.C (Kd.int .i64) w A0_1 l0_1.length l0_1) (hc0_1 : l0_1.length ≤ c0_1) (h : laws_FnExactReduceLadder.f k a0_0 l0_1 = some r) :
    Calls Try.prog 6 #[.agg #[.int .i64 a0_0, .slice A0_1 l0_1.length c0_1]] w fun e w' => e = .returned (.bool r) ∧ Below w.heap.size w w' := by
  have hu24 := Try.underlying24
  have hu26 := Try.underlying26
  have HR0_1 := Aside0.mk hr0_1
  have HC0_1 := Aside0.mk hc0_1
  clear hr0_1 hc0_1
  have HB := Aside0.mk (Below.refl w.heap.size w)
  have H : ((laws_szLadder.f a0_0 l0_1 1048576).bind fun t435 => (if t435 < 0 then (some true) else ((laws_toLadder.f k a0_0 l0_1).bind fun bt436 => ((spec_ReduceLadder.f k bt436.1 bt436.2).bind fun bt440 => ((laws_toLadder.f k a0_0 l0_1).bind fun bt446 => ((impl_ReduceLadder.f k bt446.1 bt446.2).bind fun bt451 => ((laws_eqLadder.f k bt451.1 bt451.2.1 bt440.1 bt440.2.1).bind fun t457 => (if t457 = true then (laws_FnExactReduceLadder.j0 k bt440.2.2 bt451.2.2 (bt451.2.2 != bt440.2.2) a0_0 l0_1 bt440.1 bt440.2.1 bt446.1 bt446.2 bt451.1 bt451.2.1) else (laws_FnExactReduceLadder.j0 k bt440.2.2 bt451.2.2 true a0_0 l0_1 bt440.1 bt440.2.1 bt446.1 bt446.2 bt451.1 bt451.2.1))))))))) = some r := h
  clear h
  replace H := Option.bind_eq_some_iff.mp H
  obtain ⟨t435, A20, H⟩ := H
  replace H : (if t435 < 0 then (some true) else ((laws_toLadder.f k a0_0 l0_1).bind fun bt436 => ((spec_ReduceLadder.f k bt436.1 bt436.2).bind fun bt440 => ((laws_toLadder.f k a0_0 l0_1).bind fun bt446 => ((impl_ReduceLadder.f k bt446.1 bt446.2).bind fun bt451 => ((laws_eqLadder.f k bt451.1 bt451.2.1 bt440.1 bt440.2.1).bind fun t457 => (if t457 = true then (laws_FnExactReduceLadder.j0 k bt440.2.2 bt451.2.2 (bt451.2.2 != bt440.2.2) a0_0 l0_1 bt440.1 bt440.2.1 bt446.1 bt446.2 bt451.1 bt451.2.1) else (laws_FnExactReduceLadder.j0 k bt440.2.2 bt451.2.2 true a0_0 l0_1 bt440.1 bt440.2.1 bt446.1 bt446.2 bt451.1 bt451.2.1)))))))) = some r := H
  have A2 := Aside0.mk A20
  clear A20
  by_cases c3 : t435 < 0
  · rw [if_pos c3] at H
    have c3b0 : decide (t435 < 0) = true := decide_eq_true c3
    clear c3
    obtain rfl := Option.some.inj H
    go_enter Try.func6, Try.ntmps6
    go_wp2_with (first | ((with_reducible refine gate_dst (N := 1) rfl ?_); refine box_event ?hg (N := 1) ?hd (cs := #[.int .i64 a0_0, .slice A0_1 l0_1.length c0_1]) (t := 24) ?hr ?_; (case hd => rfl); (case hg => rfl); (case hr => first | (go_simp; done) | (go_simp; rfl)); intro gb434 hg w4 hbox hb; have n0_ := Aside0.mk (below_step (by repeat (first | (with_reducible first | exact HB.out | apply below_alloc | apply pw_below_drewN | apply below_drew1) | exact HB.out)) hb); have n1_ := Aside0.mk (hbox); have n2_ := Aside0.mk ((by rw [hg]; exact (below_size (by repeat (first | (with_reducible first | exact HB.out | apply below_alloc | apply pw_below_drewN | apply below_drew1) | exact HB.out))) : w.heap.size ≤ gb434)); have n3_ := Aside0.mk ((by rw [hg]; exact (below_size (by repeat (first | (with_reducible first | exact HB.out | apply below_alloc | apply pw_below_drewN | apply below_drew1) | exact HB.out))) : w.heap.size ≤ gb434)); clear HB; have HB := n0_; have BK434 := n1_; have GW434 := n2_; have GE434 := n3_; clear n0_ n1_ n2_ n3_; clear hb hbox hg; have hcz5_0 : w4.cell? ⟨gb434, 0, none⟩ = some (.int .i64 a0_0) := (blk_cell BK434.out 0).trans rfl; have hcz5_1 : w4.cell? ⟨gb434, 1, none⟩ = some (.slice A0_1 l0_1.length c0_1) := (blk_cell BK434.out 1).trans rfl; have hfz5_0 := blk_frozen BK434.out 0; have hfz5_1 := blk_frozen BK434.out 1) | ((with_reducible refine gate_callee (f := 14) rfl ?_); refine goesL_ (some 16) rfl rfl Try.func14 (by kernel_rfl) rfl #[.agg #[.int .i64 a0_0, .slice A0_1 l0_1.length c0_1], .int .i64 1048576] rfl (by (try simp only [List.map_toArray, List.map_cons, List.map_nil]); first | done | rfl | (simp only [List.length_drop, List.length_take]; rfl)) ?_; (with_reducible refine (laws_szLadder.calls a0_0 _ _ l0_1 1048576 t435 _ ?side1 ?side2 A2.out).mono ?_); (case side1 => repeat (first | exact (Kd.C_below HR0_1.out HB.out) | (with_reducible refine Kd.C_alloc ?_ _) | (with_reducible refine Kd.C_drewN ?_ _) | (with_reducible refine Kd.C_drew ?_))); (case side2 => exact HC0_1.out); rintro e w6 ⟨rfl, hb⟩; refine ⟨_, rfl, ?_⟩; have n0_ := Aside0.mk (blk_below (g := gb434) (o := .cells #[.int .i64 a0_0, .slice A0_1 l0_1.length c0_1] 24 (0, 0)) (by (with_reducible repeat (first | refine blk_drewN ?_ _ | refine blk_drew ?_ | refine blk_alloc ?_ _)); exact BK434.out) hb); have n1_ := Aside0.mk (below_step (by repeat (first | (with_reducible first | exact HB.out | apply below_alloc | apply pw_below_drewN | apply below_drew1 | refine below_set ?_ GE434.out) | exact HB.out)) hb); clear BK434; clear HB; have BK434 := n0_; have HB := n1_; clear n0_ n1_; (try clear hb); (try clear hb2); (try clear hk); (try clear hi)))
    go_ret
    exact ⟨by first | rfl | (simp [errW_none, errW_some] <;> rfl) | (simp [*, errW_none, errW_some] <;> rfl), by repeat (first | (with_reducible first | exact HB.out | apply below_alloc | apply pw_below_drewN | apply below_drew1 | refine below_set ?_ GE434.out) | exact HB.out)⟩
  · rw [if_neg c3] at H
    have c3b0 : decide (t435 < 0) = false := decide_eq_false c3
    clear c3
    replace H := Option.bind_eq_some_iff.mp H
    obtain ⟨⟨t436, t437⟩, A70, H⟩ := H
    replace H : ((spec_ReduceLadder.f k t436 t437).bind fun bt440 => ((laws_toLadder.f k a0_0 l0_1).bind fun bt446 => ((impl_ReduceLadder.f k bt446.1 bt446.2).bind fun bt451 => ((laws_eqLadder.f k bt451.1 bt451.2.1 bt440.1 bt440.2.1).bind fun t457 => (if t457 = true then (laws_FnExactReduceLadder.j0 k bt440.2.2 bt451.2.2 (bt451.2.2 != bt440.2.2) a0_0 l0_1 bt440.1 bt440.2.1 bt446.1 bt446.2 bt451.1 bt451.2.1) else (laws_FnExactReduceLadder.j0 k bt440.2.2 bt451.2.2 true a0_0 l0_1 bt440.1 bt440.2.1 bt446.1 bt446.2 bt451.1 bt451.2.1)))))) = some r := H
    have A7 := Aside0.mk A70
    clear A70
    replace H := Option.bind_eq_some_iff.mp H
    obtain ⟨⟨t440, t441, t444⟩, A80, H⟩ := H
    replace H : ((laws_toLadder.f k a0_0 l0_1).bind fun bt446 => ((impl_ReduceLadder.f k bt446.1 bt446.2).bind fun bt451 => ((laws_eqLadder.f k bt451.1 bt451.2.1 t440 t441).bind fun t457 => (if t457 = true then (laws_FnExactReduceLadder.j0 k t444 bt451.2.2 (bt451.2.2 != t444) a0_0 l0_1 t440 t441 bt446.1 bt446.2 bt451.1 bt451.2.1) else (laws_FnExactReduceLadder.j0 k t444 bt451.2.2 true a0_0 l0_1 t440 t441 bt446.1 bt446.2 bt451.1 bt451.2.1))))) = some r := H
    have A8 := Aside0.mk A80
    clear A80
    replace H := Option.bind_eq_some_iff.mp H
    obtain ⟨⟨t446, t447⟩, A90, H⟩ := H
    replace H : ((impl_ReduceLadder.f k t446 t447).bind fun bt451 => ((laws_eqLadder.f k bt451.1 bt451.2.1 t440 t441).bind fun t457 => (if t457 = true then (laws_FnExactReduceLadder.j0 k t444 bt451.2.2 (bt451.2.2 != t444) a0_0 l0_1 t440 t441 t446 t447 bt451.1 bt451.2.1) else (laws_FnExactReduceLadder.j0 k t444 bt451.2.2 true a0_0 l0_1 t440 t441 t446 t447 bt451.1 bt451.2.1)))) = some r := H
    have A9 := Aside0.mk A90
    clear A90
    replace H := Option.bind_eq_some_iff.mp H
    obtain ⟨⟨t451, t452, t455⟩, A100, H⟩ := H
    replace H : ((laws_eqLadder.f k t451 t452 t440 t441).bind fun t457 => (if t457 = true then (laws_FnExactReduceLadder.j0 k t444 t455 (t455 != t444) a0_0 l0_1 t440 t441 t446 t447 t451 t452) else (laws_FnExactReduceLadder.j0 k t444 t455 true a0_0 l0_1 t440 t441 t446 t447 t451 t452))) = some r := H
    have A10 := Aside0.mk A100
    clear A100
    have HC11 := Aside0.mk H
    clear H
    go_enter Try.func6, Try.ntmps6
    go_upto_region 8 with (first | ((with_reducible refine gate_dst (N := 1) rfl ?_); refine box_event ?hg (N := 1) ?hd (cs := #[.int .i64 a0_0, .slice A0_1 l0_1.length c0_1]) (t := 24) ?hr ?_; (case hd => rfl); (case hg => rfl); (case hr => first | (go_simp; done) | (go_simp; rfl)); intro gb434 hg w12 hbox hb; have n0_ := Aside0.mk (below_step (by repeat (first | (with_reducible first | exact HB.out | apply below_alloc | apply pw_below_drewN | apply below_drew1) | exact HB.out)) hb); have n1_ := Aside0.mk (hbox); have n2_ := Aside0.mk ((by rw [hg]; exact (below_size (by repeat (first | (with_reducible first | exact HB.out | apply below_alloc | apply pw_below_drewN | apply below_drew1) | exact HB.out))) : w.heap.size ≤ gb434)); have n3_ := Aside0.mk ((by rw [hg]; exact (below_size (by repeat (first | (with_reducible first | exact HB.out | apply below_alloc | apply pw_below_drewN | apply below_drew1) | exact HB.out))) : w.heap.size ≤ gb434)); clear HB; have HB := n0_; have BK434 := n1_; have GW434 := n2_; have GE434 := n3_; clear n0_ n1_ n2_ n3_; clear hb hbox hg; have hcz13_0 : w12.cell? ⟨gb434, 0, none⟩ = some (.int .i64 a0_0) := (blk_cell BK434.out 0).trans rfl; have hcz13_1 : w12.cell? ⟨gb434, 1, none⟩ = some (.slice A0_1 l0_1.length c0_1) := (blk_cell BK434.out 1).trans rfl; have hfz13_0 := blk_frozen BK434.out 0; have hfz13_1 := blk_frozen BK434.out 1) | ((with_reducible refine gate_callee (f := 14) rfl ?_); refine goesL_ (some 16) rfl rfl Try.func14 (by kernel_rfl) rfl #[.agg #[.int .i64 a0_0, .slice A0_1 l0_1.length c0_1], .int .i64 1048576] rfl (by (try simp only [List.map_toArray, List.map_cons, List.map_nil]); first | done | rfl | (simp only [List.length_drop, List.length_take]; rfl)) ?_; (with_reducible refine (laws_szLadder.calls a0_0 _ _ l0_1 1048576 t435 _ ?side1 ?side2 A2.out).mono ?_); (case side1 => repeat (first | exact (Kd.C_below HR0_1.out HB.out) | (with_reducible refine Kd.C_alloc ?_ _) | (with_reducible refine Kd.C_drewN ?_ _) | (with_reducible refine Kd.C_drew ?_))); (case side2 => exact HC0_1.out); rintro e w14 ⟨rfl, hb⟩; refine ⟨_, rfl, ?_⟩; have n0_ := Aside0.mk (blk_below (g := gb434) (o := .cells #[.int .i64 a0_0, .slice A0_1 l0_1.length c0_1] 24 (0, 0)) (by (with_reducible repeat (first | refine blk_drewN ?_ _ | refine blk_drew ?_ | refine blk_alloc ?_ _)); exact BK434.out) hb); have n1_ := Aside0.mk (below_step (by repeat (first | (with_reducible first | exact HB.out | apply below_alloc | apply pw_below_drewN | apply below_drew1 | refine below_set ?_ GE434.out) | exact HB.out)) hb); clear BK434; clear HB; have BK434 := n0_; have HB := n1_; clear n0_ n1_; (try clear hb); (try clear hb2); (try clear hk); (try clear hi); have hcz15_0 : w14.cell? ⟨gb434, 0, none⟩ = some (.int .i64 a0_0) := (blk_cell BK434.out 0).trans rfl; have hcz15_1 : w14.cell? ⟨gb434, 1, none⟩ = some (.slice A0_1 l0_1.length c0_1) := (blk_cell BK434.out 1).trans rfl; have hfz15_0 := blk_frozen BK434.out 0; have hfz15_1 := blk_frozen BK434.out 1) | ((with_reducible refine gate_callee (f := 16) rfl ?_); refine goesL_ (some 21) rfl rfl Try.func16 (by kernel_rfl) rfl #[.agg #[.int .i64 a0_0, .slice A0_1 l0_1.length c0_1]] rfl (by (try simp only [List.map_toArray, List.map_cons, List.map_nil]); first | done | rfl | (simp only [List.length_drop, List.length_take]; rfl)) ?_; (with_reducible refine (laws_toLadder.calls k a0_0 _ _ l0_1 t436 t437 _ ?side1 ?side2 A7.out).mono ?_); (case side1 => repeat (first | exact (Kd.C_below HR0_1.out HB.out) | (with_reducible refine Kd.C_alloc ?_ _) | (with_reducible refine Kd.C_drewN ?_ _) | (with_reducible refine Kd.C_drew ?_))); (case side2 => exact HC0_1.out); rintro e w16 ⟨v438, rfl, ho0, hb⟩; refine ⟨_, rfl, ?_⟩; have n0_ := Aside0.mk (Kd.R_lower ho0 (below_size (by repeat (first | (with_reducible first | exact HB.out | apply below_alloc | apply pw_below_drewN | apply below_drew1 | refine below_set ?_ GE434.out) | exact HB.out)))); have n1_ := Aside0.mk (blk_below (g := gb434) (o := .cells #[.int .i64 a0_0, .slice A0_1 l0_1.length c0_1] 24 (0, 0)) (by (with_reducible repeat (first | refine blk_drewN ?_ _ | refine blk_drew ?_ | refine blk_alloc ?_ _)); exact BK434.out) hb); have n2_ := Aside0.mk (below_step (by repeat (first | (with_reducible first | exact HB.out | apply below_alloc | apply pw_below_drewN | apply below_drew1 | refine below_set ?_ GE434.out) | exact HB.out)) hb); clear BK434; clear HB; have HO439 := n0_; have BK434 := n1_; have HB := n2_; clear n0_ n1_ n2_; (try clear hb); (try clear hb2); (try clear hk); (try clear hi); (try clear ho0); obtain ⟨Ao17, co17, eo17⟩ := Kd.R_slice HO439.out; subst eo17) | ((with_reducible refine gate_callee (f := 28) rfl ?_); refine goesL_ (some 22) rfl rfl Try.func28 (by kernel_rfl) rfl #[.agg #[.int .i64 t436, .slice Ao17 t437.length co17]] rfl (by (try simp only [List.map_toArray, List.map_cons, List.map_nil]); first | done | rfl | (simp only [List.length_drop, List.length_take]; rfl)) ?_; (with_reducible refine (spec_ReduceLadder.calls k t436 _ _ t437 t440 t441 t444 _ ?side1 ?side2 A8.out).mono ?_); (case side1 => repeat (first | exact (Kd.R_reads' HO439.out).2.2 | (with_reducible refine Kd.C_alloc ?_ _) | (with_reducible refine Kd.C_drewN ?_ _) | (with_reducible refine Kd.C_drew ?_))); (case side2 => exact (Kd.R_reads' HO439.out).2.1); rintro e w18 ⟨v442, rfl, ho0, hb⟩; refine ⟨_, rfl, ?_⟩; have n0_ := Aside0.mk (Kd.R_elder' (by (with_reducible repeat (first | apply Kd.R_alloc | apply Kd.R_drewN | apply Kd.R_drew)); exact HO439.out) (Kd.R_base ho0) hb); have n1_ := Aside0.mk (Kd.R_lower (Kd.R_new' ho0 (Kd.R_lt (by (with_reducible repeat (first | apply Kd.R_alloc | apply Kd.R_drewN | apply Kd.R_drew)); exact HO439.out))) (below_size (by repeat (first | (with_reducible first | exact HB.out | apply below_alloc | apply pw_below_drewN | apply below_drew1 | refine below_set ?_ GE434.out) | exact HB.out)))); have n2_ := Aside0.mk (blk_below (g := gb434) (o := .cells #[.int .i64 a0_0, .slice A0_1 l0_1.length c0_1] 24 (0, 0)) (by (with_reducible repeat (first | refine blk_drewN ?_ _ | refine blk_drew ?_ | refine blk_alloc ?_ _)); exact BK434.out) hb); have n3_ := Aside0.mk (below_step (by repeat (first | (with_reducible first | exact HB.out | apply below_alloc | apply pw_below_drewN | apply below_drew1 | refine below_set ?_ GE434.out) | exact HB.out)) hb); clear HO439; clear BK434; clear HB; have HO439 := n0_; have HO443 := n1_; have BK434 := n2_; have HB := n3_; clear n0_ n1_ n2_ n3_; (try clear hb); (try clear hb2); (try clear hk); (try clear hi); (try clear ho0)) | ((with_reducible refine gate_dst (N := 4) rfl ?_); refine box_event ?hg (N := 4) ?hd (cs := #[.int .i64 0, .slice none 0 0]) (t := 26) ?hr ?_; (case hd => rfl); (case hg => rfl); (case hr => first | (go_simp; done) | (go_simp; rfl)); intro gb445 hg w19 hbox hb; have n0_ := Aside0.mk (Kd.R_below (by (with_reducible repeat (first | apply Kd.R_alloc | apply Kd.R_drewN | apply Kd.R_drew)); exact HO439.out) hb); have n1_ := Aside0.mk (Kd.R_below (by (with_reducible repeat (first | apply Kd.R_alloc | apply Kd.R_drewN | apply Kd.R_drew)); exact HO443.out) hb); have n2_ := Aside0.mk (blk_below (g := gb434) (o := .cells #[.int .i64 a0_0, .slice A0_1 l0_1.length c0_1] 24 (0, 0)) (by (with_reducible repeat (first | refine blk_drewN ?_ _ | refine blk_drew ?_ | refine blk_alloc ?_ _)); exact BK434.out) hb); have n3_ := Aside0.mk (below_step (by repeat (first | (with_reducible first | exact HB.out | apply below_alloc | apply pw_below_drewN | apply below_drew1 | refine below_set ?_ GE434.out) | exact HB.out)) hb); have n4_ := Aside0.mk (hbox); have n5_ := Aside0.mk ((by rw [hg]; exact (below_size (by repeat (first | (with_reducible first | exact HB.out | apply below_alloc | apply pw_below_drewN | apply below_drew1 | refine below_set ?_ GE434.out) | exact HB.out))) : w.heap.size ≤ gb445)); have n6_ := Aside0.mk ((by rw [hg]; exact (below_size (by repeat (first | (with_reducible first | exact HB.out | apply below_alloc | apply pw_below_drewN | apply below_drew1 | refine below_set ?_ GE434.out) | exact HB.out))) : w.heap.size ≤ gb445)); have n7_ := Aside0.mk ((by rw [hg]; exact Nat.ne_of_lt (blk_lt (g := gb434) (o := .cells #[.int .i64 a0_0, .slice A0_1 l0_1.length c0_1] 24 (0, 0)) (by (with_reducible repeat (first | refine blk_drewN ?_ _ | refine blk_drew ?_ | refine blk_alloc ?_ _)); exact BK434.out)) : gb434 ≠ gb445)); have n8_ := Aside0.mk ((by rw [hg]; exact Nat.ne_of_gt (blk_lt (g := gb434) (o := .cells #[.int .i64 a0_0, .slice A0_1 l0_1.length c0_1] 24 (0, 0)) (by (with_reducible repeat (first | refine blk_drewN ?_ _ | refine blk_drew ?_ | refine blk_alloc ?_ _)); exact BK434.out)) : gb445 ≠ gb434)); clear HO439; clear HO443; clear BK434; clear HB; have HO439 := n0_; have HO443 := n1_; have BK434 := n2_; have HB := n3_; have BK445 := n4_; have GW445 := n5_; have GE445 := n6_; have NB434_445 := n7_; have NB445_434 := n8_; clear n0_ n1_ n2_ n3_ n4_ n5_ n6_ n7_ n8_; clear hb hbox hg; have hnb20 := NB445_434.out; have hnc20 := NB434_445.out; have hcz21_0 : w19.cell? ⟨gb445, 0, none⟩ = some (.int .i64 0) := (blk_cell BK445.out 0).trans rfl; have hcz21_1 : w19.cell? ⟨gb445, 1, none⟩ = some (.slice none 0 0) := (blk_cell BK445.out 1).trans rfl; have hfz21_0 := blk_frozen BK445.out 0; have hfz21_1 := blk_frozen BK445.out 1; obtain ⟨Ao22, co22, eo22⟩ := Kd.R_slice HO443.out; subst eo22; have hcz23_0 : w19.cell? ⟨gb434, 0, none⟩ = some (.int .i64 a0_0) := (blk_cell BK434.out 0).trans rfl; have hcz23_1 : w19.cell? ⟨gb434, 1, none⟩ = some (.slice A0_1 l0_1.length c0_1) := (blk_cell BK434.out 1).trans rfl; have hfz23_0 := blk_frozen BK434.out 0; have hfz23_1 := blk_frozen BK434.out 1) | ((with_reducible refine gate_callee (f := 16) rfl ?_); refine goesL_ (some 26) rfl rfl Try.func16 (by kernel_rfl) rfl #[.agg #[.int .i64 a0_0, .slice A0_1 l0_1.length c0_1]] rfl (by (try simp only [List.map_toArray, List.map_cons, List.map_nil]); first | done | rfl | (simp only [List.length_drop, List.length_take]; rfl)) ?_; (with_reducible refine (laws_toLadder.calls k a0_0 _ _ l0_1 t446 t447 _ ?side1 ?side2 A9.out).mono ?_); (case side1 => exact Kd.C_below HR0_1.out (by repeat (first | (with_reducible first | exact HB.out | apply below_alloc | apply pw_below_drewN | apply below_drew1 | refine below_set ?_ GE434.out | refine below_set ?_ GE445.out) | exact HB.out))); (case side2 => exact HC0_1.out); rintro e w24 ⟨v448, rfl, ho0, hb⟩; refine ⟨_, rfl, ?_⟩; have n0_ := Aside0.mk (Kd.R_elder' (by (with_reducible repeat (first | apply Kd.R_alloc | apply Kd.R_drewN | apply Kd.R_drew)); exact (Kd.R_mono (Kd.R_far (p := ⟨gb445, 1, none⟩) (Kd.R_far (p := ⟨gb445, 0, none⟩) (Kd.R_types HO439.out BK445.out (by decide)) (fun _ hk => hk.2) (.int .i64 t440)) (fun _ hk => hk.2) (.slice Ao22 t441.length co22)) (fun _ h_ => h_.1))) (Kd.R_base ho0) hb); have n1_ := Aside0.mk (Kd.R_elder' (by (with_reducible repeat (first | apply Kd.R_alloc | apply Kd.R_drewN | apply Kd.R_drew)); exact (Kd.R_mono (Kd.R_far (p := ⟨gb445, 1, none⟩) (Kd.R_far (p := ⟨gb445, 0, none⟩) (Kd.R_types HO443.out BK445.out (by decide)) (fun _ hk => hk.2) (.int .i64 t440)) (fun _ hk => hk.2) (.slice Ao22 t441.length co22)) (fun _ h_ => h_.1))) (Kd.R_base ho0) hb); have n2_ := Aside0.mk (Kd.R_lower (Kd.R_new' (Kd.R_new' ho0 (Kd.R_lt (by (with_reducible repeat (first | apply Kd.R_alloc | apply Kd.R_drewN | apply Kd.R_drew)); exact (Kd.R_mono (Kd.R_far (p := ⟨gb445, 1, none⟩) (Kd.R_far (p := ⟨gb445, 0, none⟩) (Kd.R_types HO439.out BK445.out (by decide)) (fun _ hk => hk.2) (.int .i64 t440)) (fun _ hk => hk.2) (.slice Ao22 t441.length co22)) (fun _ h_ => h_.1))))) (Kd.R_lt (by (with_reducible repeat (first | apply Kd.R_alloc | apply Kd.R_drewN | apply Kd.R_drew)); exact (Kd.R_mono (Kd.R_far (p := ⟨gb445, 1, none⟩) (Kd.R_far (p := ⟨gb445, 0, none⟩) (Kd.R_types HO443.out BK445.out (by decide)) (fun _ hk => hk.2) (.int .i64 t440)) (fun _ hk => hk.2) (.slice Ao22 t441.length co22)) (fun _ h_ => h_.1))))) (below_size (by repeat (first | (with_reducible first | exact HB.out | apply below_alloc | apply pw_below_drewN | apply below_drew1 | refine below_set ?_ GE434.out | refine below_set ?_ GE445.out) | exact HB.out)))); have n3_ := Aside0.mk (blk_below (g := gb434) (o := .cells #[.int .i64 a0_0, .slice A0_1 l0_1.length c0_1] 24 (0, 0)) (by (with_reducible repeat (first | refine blk_drewN ?_ _ | refine blk_drew ?_ | refine blk_alloc ?_ _)); refine blk_far ?_ NB434_445.out _; (with_reducible repeat (first | refine blk_drewN ?_ _ | refine blk_drew ?_ | refine blk_alloc ?_ _)); refine blk_far ?_ NB434_445.out _; (with_reducible repeat (first | refine blk_drewN ?_ _ | refine blk_drew ?_ | refine blk_alloc ?_ _)); exact BK434.out) hb); have n4_ := Aside0.mk (blk_below (g := gb445) (o := .cells #[.int .i64 t440, .slice Ao22 t441.length co22] 26 (0, 0)) (by (with_reducible repeat (first | refine blk_drewN ?_ _ | refine blk_drew ?_ | refine blk_alloc ?_ _)); refine blk_put (cs := #[.int .i64 t440, .slice none 0 0]) ?_ 1 _ rfl; (with_reducible repeat (first | refine blk_drewN ?_ _ | refine blk_drew ?_ | refine blk_alloc ?_ _)); refine blk_put (cs := #[.int .i64 0, .slice none 0 0]) ?_ 0 _ rfl; (with_reducible repeat (first | refine blk_drewN ?_ _ | refine blk_drew ?_ | refine blk_alloc ?_ _)); exact BK445.out) hb); have n5_ := Aside0.mk (below_step (by repeat (first | (with_reducible first | exact HB.out | apply below_alloc | apply pw_below_drewN | apply below_drew1 | refine below_set ?_ GE434.out | refine below_set ?_ GE445.out) | exact HB.out)) hb); clear HO439; clear HO443; clear BK434; clear BK445; clear HB; have HO439 := n0_; have HO443 := n1_; have HO449 := n2_; have BK434 := n3_; have BK445 := n4_; have HB := n5_; clear n0_ n1_ n2_ n3_ n4_ n5_; (try clear hb); (try clear hb2); (try clear hk); (try clear hi); (try clear ho0)) | ((with_reducible refine gate_dst (N := 6) rfl ?_); refine box_event ?hg (N := 6) ?hd (cs := #[.int .i64 0, .slice none 0 0]) (t := 26) ?hr ?_; (case hd => rfl); (case hg => rfl); (case hr => first | (go_simp; done) | (go_simp; rfl)); intro gb450 hg w25 hbox hb; have n0_ := Aside0.mk (Kd.R_below (by (with_reducible repeat (first | apply Kd.R_alloc | apply Kd.R_drewN | apply Kd.R_drew)); exact HO439.out) hb); have n1_ := Aside0.mk (Kd.R_below (by (with_reducible repeat (first | apply Kd.R_alloc | apply Kd.R_drewN | apply Kd.R_drew)); exact HO443.out) hb); have n2_ := Aside0.mk (Kd.R_below (by (with_reducible repeat (first | apply Kd.R_alloc | apply Kd.R_drewN | apply Kd.R_drew)); exact HO449.out) hb); have n3_ := Aside0.mk (blk_below (g := gb434) (o := .cells #[.int .i64 a0_0, .slice A0_1 l0_1.length c0_1] 24 (0, 0)) (by (with_reducible repeat (first | refine blk_drewN ?_ _ | refine blk_drew ?_ | refine blk_alloc ?_ _)); exact BK434.out) hb); have n4_ := Aside0.mk (blk_below (g := gb445) (o := .cells #[.int .i64 t440, .slice Ao22 t441.length co22] 26 (0, 0)) (by (with_reducible repeat (first | refine blk_drewN ?_ _ | refine blk_drew ?_ | refine blk_alloc ?_ _)); exact BK445.out) hb); have n5_ := Aside0.mk (below_step (by repeat (first | (with_reducible first | exact HB.out | apply below_alloc | apply pw_below_drewN | apply below_drew1 | refine below_set ?_ GE434.out | refine below_set ?_ GE445.out) | exact HB.out)) hb); have n6_ := Aside0.mk (hbox); have n7_ := Aside0.mk ((by rw [hg]; exact (below_size (by repeat (first | (with_reducible first | exact HB.out | apply below_alloc | apply pw_below_drewN | apply below_drew1 | refine below_set ?_ GE434.out | refine below_set ?_ GE445.out) | exact HB.out))) : w.heap.size ≤ gb450)); have n8_ := Aside0.mk ((by rw [hg]; exact (below_size (by repeat (first | (with_reducible first | exact HB.out | apply below_alloc | apply pw_below_drewN | apply below_drew1 | refine below_set ?_ GE434.out | refine below_set ?_ GE445.out) | exact HB.out))) : w.heap.size ≤ gb450)); have n9_ := Aside0.mk ((by rw [hg]; exact Nat.ne_of_lt (blk_lt (g := gb434) (o := .cells #[.int .i64 a0_0, .slice A0_1 l0_1.length c0_1] 24 (0, 0)) (by (with_reducible repeat (first | refine blk_drewN ?_ _ | refine blk_drew ?_ | refine blk_alloc ?_ _)); exact BK434.out)) : gb434 ≠ gb450)); have n10_ := Aside0.mk ((by rw [hg]; exact Nat.ne_of_gt (blk_lt (g := gb434) (o := .cells #[.int .i64 a0_0, .slice A0_1 l0_1.length c0_1] 24 (0, 0)) (by (with_reducible repeat (first | refine blk_drewN ?_ _ | refine blk_drew ?_ | refine blk_alloc ?_ _)); exact BK434.out)) : gb450 ≠ gb434)); have n11_ := Aside0.mk ((by rw [hg]; exact Nat.ne_of_lt (blk_lt (g := gb445) (o := .cells #[.int .i64 t440, .slice Ao22 t441.length co22] 26 (0, 0)) (by (with_reducible repeat (first | refine blk_drewN ?_ _ | refine blk_drew ?_ | refine blk_alloc ?_ _)); exact BK445.out)) : gb445 ≠ gb450)); have n12_ := Aside0.mk ((by rw [hg]; exact Nat.ne_of_gt (blk_lt (g := gb445) (o := .cells #[.int .i64 t440, .slice Ao22 t441.length co22] 26 (0, 0)) (by (with_reducible repeat (first | refine blk_drewN ?_ _ | refine blk_drew ?_ | refine blk_alloc ?_ _)); exact BK445.out)) : gb450 ≠ gb445)); clear HO439; clear HO443; clear HO449; clear BK434; clear BK445; clear HB; have HO439 := n0_; have HO443 := n1_; have HO449 := n2_; have BK434 := n3_; have BK445 := n4_; have HB := n5_; have BK450 := n6_; have GW450 := n7_; have GE450 := n8_; have NB434_450 := n9_; have NB450_434 := n10_; have NB445_450 := n11_; have NB450_445 := n12_; clear n0_ n1_ n2_ n3_ n4_ n5_ n6_ n7_ n8_ n9_ n10_ n11_ n12_; clear hb hbox hg; have hnb26 := NB450_434.out; have hnc26 := NB434_450.out; have hnb27 := NB450_445.out; have hnc27 := NB445_450.out; have hcz28_0 : w25.cell? ⟨gb450, 0, none⟩ = some (.int .i64 0) := (blk_cell BK450.out 0).trans rfl; have hcz28_1 : w25.cell? ⟨gb450, 1, none⟩ = some (.slice none 0 0) := (blk_cell BK450.out 1).trans rfl; have hfz28_0 := blk_frozen BK450.out 0; have hfz28_1 := blk_frozen BK450.out 1; obtain ⟨Ao29, co29, eo29⟩ := Kd.R_slice HO449.out; subst eo29) | ((with_reducible refine gate_callee (f := 29) rfl ?_); refine goesL_ (some 29) rfl rfl Try.func29 (by kernel_rfl) rfl #[.agg #[.int .i64 t446, .slice Ao29 t447.length co29]] rfl (by (try simp only [List.map_toArray, List.map_cons, List.map_nil]); first | done | rfl | (simp only [List.length_drop, List.length_take]; rfl)) ?_; (with_reducible refine (impl_ReduceLadder.calls k t446 _ _ t447 t451 t452 t455 _ ?side1 ?side2 A10.out).mono ?_); (case side1 => refine (Kd.R_reads' (e := 3) (base := w.heap.size) (ok := fun k_ => ((True ∧ some k_ ≠ (.slice Ao17 t437.length co17 : Value).ownBlock) ∧ some k_ ≠ (.slice Ao22 t441.length co22 : Value).ownBlock)) (n := t447.length) (c := co29) ?_).2.2; exact (by (with_reducible repeat (first | apply Kd.R_alloc | apply Kd.R_drewN | apply Kd.R_drew)); exact (Kd.R_mono (Kd.R_far (p := ⟨gb450, 1, none⟩) (Kd.R_far (p := ⟨gb450, 0, none⟩) (Kd.R_types HO449.out BK450.out (by decide)) (fun _ hk => hk.2) (.int .i64 t446)) (fun _ hk => hk.2) (.slice Ao29 t447.length co29)) (fun _ h_ => h_.1)))); (case side2 => exact (Kd.R_reads' HO449.out).2.1); rintro e w30 ⟨v453, rfl, ho0, hb⟩; refine ⟨_, rfl, ?_⟩; have n0_ := Aside0.mk (Kd.R_elder' (by (with_reducible repeat (first | apply Kd.R_alloc | apply Kd.R_drewN | apply Kd.R_drew)); exact (Kd.R_mono (Kd.R_far (p := ⟨gb450, 1, none⟩) (Kd.R_far (p := ⟨gb450, 0, none⟩) (Kd.R_types HO439.out BK450.out (by decide)) (fun _ hk => hk.2) (.int .i64 t446)) (fun _ hk => hk.2) (.slice Ao29 t447.length co29)) (fun _ h_ => h_.1))) (Kd.R_base ho0) hb); have n1_ := Aside0.mk (Kd.R_elder' (by (with_reducible repeat (first | apply Kd.R_alloc | apply Kd.R_drewN | apply Kd.R_drew)); exact (Kd.R_mono (Kd.R_far (p := ⟨gb450, 1, none⟩) (Kd.R_far (p := ⟨gb450, 0, none⟩) (Kd.R_types HO443.out BK450.out (by decide)) (fun _ hk => hk.2) (.int .i64 t446)) (fun _ hk => hk.2) (.slice Ao29 t447.length co29)) (fun _ h_ => h_.1))) (Kd.R_base ho0) hb); have n2_ := Aside0.mk (Kd.R_elder' (by (with_reducible repeat (first | apply Kd.R_alloc | apply Kd.R_drewN | apply Kd.R_drew)); exact (Kd.R_mono (Kd.R_far (p := ⟨gb450, 1, none⟩) (Kd.R_far (p := ⟨gb450, 0, none⟩) (Kd.R_types HO449.out BK450.out (by decide)) (fun _ hk => hk.2) (.int .i64 t446)) (fun _ hk => hk.2) (.slice Ao29 t447.length co29)) (fun _ h_ => h_.1))) (Kd.R_base ho0) hb); have n3_ := Aside0.mk (Kd.R_lower (Kd.R_new' (Kd.R_new' (Kd.R_new' ho0 (Kd.R_lt (by (with_reducible repeat (first | apply Kd.R_alloc | apply Kd.R_drewN | apply Kd.R_drew)); exact (Kd.R_mono (Kd.R_far (p := ⟨gb450, 1, none⟩) (Kd.R_far (p := ⟨gb450, 0, none⟩) (Kd.R_types HO439.out BK450.out (by decide)) (fun _ hk => hk.2) (.int .i64 t446)) (fun _ hk => hk.2) (.slice Ao29 t447.length co29)) (fun _ h_ => h_.1))))) (Kd.R_lt (by (with_reducible repeat (first | apply Kd.R_alloc | apply Kd.R_drewN | apply Kd.R_drew)); exact (Kd.R_mono (Kd.R_far (p := ⟨gb450, 1, none⟩) (Kd.R_far (p := ⟨gb450, 0, none⟩) (Kd.R_types HO443.out BK450.out (by decide)) (fun _ hk => hk.2) (.int .i64 t446)) (fun _ hk => hk.2) (.slice Ao29 t447.length co29)) (fun _ h_ => h_.1))))) (Kd.R_lt (by (with_reducible repeat (first | apply Kd.R_alloc | apply Kd.R_drewN | apply Kd.R_drew)); exact (Kd.R_mono (Kd.R_far (p := ⟨gb450, 1, none⟩) (Kd.R_far (p := ⟨gb450, 0, none⟩) (Kd.R_types HO449.out BK450.out (by decide)) (fun _ hk => hk.2) (.int .i64 t446)) (fun _ hk => hk.2) (.slice Ao29 t447.length co29)) (fun _ h_ => h_.1))))) (below_size (by repeat (first | (with_reducible first | exact HB.out | apply below_alloc | apply pw_below_drewN | apply below_drew1 | refine below_set ?_ GE434.out | refine below_set ?_ GE445.out | refine below_set ?_ GE450.out) | exact HB.out)))); have n4_ := Aside0.mk (blk_below (g := gb434) (o := .cells #[.int .i64 a0_0, .slice A0_1 l0_1.length c0_1] 24 (0, 0)) (by (with_reducible repeat (first | refine blk_drewN ?_ _ | refine blk_drew ?_ | refine blk_alloc ?_ _)); refine blk_far ?_ NB434_450.out _; (with_reducible repeat (first | refine blk_drewN ?_ _ | refine blk_drew ?_ | refine blk_alloc ?_ _)); refine blk_far ?_ NB434_450.out _; (with_reducible repeat (first | refine blk_drewN ?_ _ | refine blk_drew ?_ | refine blk_alloc ?_ _)); exact BK434.out) hb); have n5_ := Aside0.mk (blk_below (g := gb445) (o := .cells #[.int .i64 t440, .slice Ao22 t441.length co22] 26 (0, 0)) (by (with_reducible repeat (first | refine blk_drewN ?_ _ | refine blk_drew ?_ | refine blk_alloc ?_ _)); refine blk_far ?_ NB445_450.out _; (with_reducible repeat (first | refine blk_drewN ?_ _ | refine blk_drew ?_ | refine blk_alloc ?_ _)); refine blk_far ?_ NB445_450.out _; (with_reducible repeat (first | refine blk_drewN ?_ _ | refine blk_drew ?_ | refine blk_alloc ?_ _)); exact BK445.out) hb); have n6_ := Aside0.mk (blk_below (g := gb450) (o := .cells #[.int .i64 t446, .slice Ao29 t447.length co29] 26 (0, 0)) (by (with_reducible repeat (first | refine blk_drewN ?_ _ | refine blk_drew ?_ | refine blk_alloc ?_ _)); refine blk_put (cs := #[.int .i64 t446, .slice none 0 0]) ?_ 1 _ rfl; (with_reducible repeat (first | refine blk_drewN ?_ _ | refine blk_drew ?_ | refine blk_alloc ?_ _)); refine blk_put (cs := #[.int .i64 0, .slice none 0 0]) ?_ 0 _ rfl; (with_reducible repeat (first | refine blk_drewN ?_ _ | refine blk_drew ?_ | refine blk_alloc ?_ _)); exact BK450.out) hb); have n7_ := Aside0.mk (below_step (by repeat (first | (with_reducible first | exact HB.out | apply below_alloc | apply pw_below_drewN | apply below_drew1 | refine below_set ?_ GE434.out | refine below_set ?_ GE445.out | refine below_set ?_ GE450.out) | exact HB.out)) hb); clear HO439; clear HO443; clear HO449; clear BK434; clear BK445; clear BK450; clear HB; have HO439 := n0_; have HO443 := n1_; have HO449 := n2_; have HO454 := n3_; have BK434 := n4_; have BK445 := n5_; have BK450 := n6_; have HB := n7_; clear n0_ n1_ n2_ n3_ n4_ n5_ n6_ n7_; (try clear hb); (try clear hb2); (try clear hk); (try clear hi); (try clear ho0)) | ((with_reducible refine gate_dst (N := 7) rfl ?_); refine box_event ?hg (N := 7) ?hd (cs := #[.int .i64 0, .slice none 0 0]) (t := 26) ?hr ?_; (case hd => rfl); (case hg => rfl); (case hr => first | (go_simp; done) | (go_simp; rfl)); intro gb456 hg w31 hbox hb; have n0_ := Aside0.mk (Kd.R_below (by (with_reducible repeat (first | apply Kd.R_alloc | apply Kd.R_drewN | apply Kd.R_drew)); exact HO439.out) hb); have n1_ := Aside0.mk (Kd.R_below (by (with_reducible repeat (first | apply Kd.R_alloc | apply Kd.R_drewN | apply Kd.R_drew)); exact HO443.out) hb); have n2_ := Aside0.mk (Kd.R_below (by (with_reducible repeat (first | apply Kd.R_alloc | apply Kd.R_drewN | apply Kd.R_drew)); exact HO449.out) hb); have n3_ := Aside0.mk (Kd.R_below (by (with_reducible repeat (first | apply Kd.R_alloc | apply Kd.R_drewN | apply Kd.R_drew)); exact HO454.out) hb); have n4_ := Aside0.mk (blk_below (g := gb434) (o := .cells #[.int .i64 a0_0, .slice A0_1 l0_1.length c0_1] 24 (0, 0)) (by (with_reducible repeat (first | refine blk_drewN ?_ _ | refine blk_drew ?_ | refine blk_alloc ?_ _)); exact BK434.out) hb); have n5_ := Aside0.mk (blk_below (g := gb445) (o := .cells #[.int .i64 t440, .slice Ao22 t441.length co22] 26 (0, 0)) (by (with_reducible repeat (first | refine blk_drewN ?_ _ | refine blk_drew ?_ | refine blk_alloc ?_ _)); exact BK445.out) hb); have n6_ := Aside0.mk (blk_below (g := gb450) (o := .cells #[.int .i64 t446, .slice Ao29 t447.length co29] 26 (0, 0)) (by (with_reducible repeat (first | refine blk_drewN ?_ _ | refine blk_drew ?_ | refine blk_alloc ?_ _)); exact BK450.out) hb); have n7_ := Aside0.mk (below_step (by repeat (first | (with_reducible first | exact HB.out | apply below_alloc | apply pw_below_drewN | apply below_drew1 | refine below_set ?_ GE434.out | refine below_set ?_ GE445.out | refine below_set ?_ GE450.out) | exact HB.out)) hb); have n8_ := Aside0.mk (hbox); have n9_ := Aside0.mk ((by rw [hg]; exact (below_size (by repeat (first | (with_reducible first | exact HB.out | apply below_alloc | apply pw_below_drewN | apply below_drew1 | refine below_set ?_ GE434.out | refine below_set ?_ GE445.out | refine below_set ?_ GE450.out) | exact HB.out))) : w.heap.size ≤ gb456)); have n10_ := Aside0.mk ((by rw [hg]; exact (below_size (by repeat (first | (with_reducible first | exact HB.out | apply below_alloc | apply pw_below_drewN | apply below_drew1 | refine below_set ?_ GE434.out | refine below_set ?_ GE445.out | refine below_set ?_ GE450.out) | exact HB.out))) : w.heap.size ≤ gb456)); have n11_ := Aside0.mk ((by rw [hg]; exact Nat.ne_of_lt (blk_lt (g := gb434) (o := .cells #[.int .i64 a0_0, .slice A0_1 l0_1.length c0_1] 24 (0, 0)) (by (with_reducible repeat (first | refine blk_drewN ?_ _ | refine blk_drew ?_ | refine blk_alloc ?_ _)); exact BK434.out)) : gb434 ≠ gb456)); have n12_ := Aside0.mk ((by rw [hg]; exact Nat.ne_of_gt (blk_lt (g := gb434) (o := .cells #[.int .i64 a0_0, .slice A0_1 l0_1.length c0_1] 24 (0, 0)) (by (with_reducible repeat (first | refine blk_drewN ?_ _ | refine blk_drew ?_ | refine blk_alloc ?_ _)); exact BK434.out)) : gb456 ≠ gb434)); have n13_ := Aside0.mk ((by rw [hg]; exact Nat.ne_of_lt (blk_lt (g := gb445) (o := .cells #[.int .i64 t440, .slice Ao22 t441.length co22] 26 (0, 0)) (by (with_reducible repeat (first | refine blk_drewN ?_ _ | refine blk_drew ?_ | refine blk_alloc ?_ _)); exact BK445.out)) : gb445 ≠ gb456)); have n14_ := Aside0.mk ((by rw [hg]; exact Nat.ne_of_gt (blk_lt (g := gb445) (o := .cells #[.int .i64 t440, .slice Ao22 t441.length co22] 26 (0, 0)) (by (with_reducible repeat (first | refine blk_drewN ?_ _ | refine blk_drew ?_ | refine blk_alloc ?_ _)); exact BK445.out)) : gb456 ≠ gb445)); have n15_ := Aside0.mk ((by rw [hg]; exact Nat.ne_of_lt (blk_lt (g := gb450) (o := .cells #[.int .i64 t446, .slice Ao29 t447.length co29] 26 (0, 0)) (by (with_reducible repeat (first | refine blk_drewN ?_ _ | refine blk_drew ?_ | refine blk_alloc ?_ _)); exact BK450.out)) : gb450 ≠ gb456)); have n16_ := Aside0.mk ((by rw [hg]; exact Nat.ne_of_gt (blk_lt (g := gb450) (o := .cells #[.int .i64 t446, .slice Ao29 t447.length co29] 26 (0, 0)) (by (with_reducible repeat (first | refine blk_drewN ?_ _ | refine blk_drew ?_ | refine blk_alloc ?_ _)); exact BK450.out)) : gb456 ≠ gb450)); clear HO439; clear HO443; clear HO449; clear HO454; clear BK434; clear BK445; clear BK450; clear HB; have HO439 := n0_; have HO443 := n1_; have HO449 := n2_; have HO454 := n3_; have BK434 := n4_; have BK445 := n5_; have BK450 := n6_; have HB := n7_; have BK456 := n8_; have GW456 := n9_; have GE456 := n10_; have NB434_456 := n11_; have NB456_434 := n12_; have NB445_456 := n13_; have NB456_445 := n14_; have NB450_456 := n15_; have NB456_450 := n16_; clear n0_ n1_ n2_ n3_ n4_ n5_ n6_ n7_ n8_ n9_ n10_ n11_ n12_ n13_ n14_ n15_ n16_; clear hb hbox hg; have hnb32 := NB456_434.out; have hnc32 := NB434_456.out; have hnb33 := NB456_445.out; have hnc33 := NB445_456.out; have hnb34 := NB456_450.out; have hnc34 := NB450_456.out; have hcz35_0 : w31.cell? ⟨gb456, 0, none⟩ = some (.int .i64 0) := (blk_cell BK456.out 0).trans rfl; have hcz35_1 : w31.cell? ⟨gb456, 1, none⟩ = some (.slice none 0 0) := (blk_cell BK456.out 1).trans rfl; have hfz35_0 := blk_frozen BK456.out 0; have hfz35_1 := blk_frozen BK456.out 1; obtain ⟨Ao36, co36, eo36⟩ := Kd.R_slice HO454.out; subst eo36))
    (try simp only [Act.put, List.setIfInBounds_toArray, List.set_cons_zero, List.set_cons_succ])
    go_cut [40] (fun v40 wc => ∃ (kq : Nat) (x40_10 : Bool), v40 = .bool x40_10 ∧ Aside0 (laws_FnExactReduceLadder.j0 kq t444 t455 x40_10 a0_0 l0_1 t440 t441 t446 t447 t451 t452 = some r) ∧ Aside0 (kq ≤ k) ∧ Aside0 (Kd.R (Kd.int .i64) 3 wc w.heap.size (fun k_ => some k_ ≠ ((.slice Ao29 t447.length co29) : Value).ownBlock ∧ some k_ ≠ ((.slice Ao36 t452.length co36) : Value).ownBlock) (.slice Ao22 t441.length co22) t441) ∧ Aside0 (Kd.R (Kd.int .i64) 3 wc w.heap.size (fun k_ => some k_ ≠ ((.slice Ao22 t441.length co22) : Value).ownBlock ∧ some k_ ≠ ((.slice Ao36 t452.length co36) : Value).ownBlock) (.slice Ao29 t447.length co29) t447) ∧ Aside0 (Kd.R (Kd.int .i64) 3 wc w.heap.size (fun k_ => some k_ ≠ ((.slice Ao22 t441.length co22) : Value).ownBlock ∧ some k_ ≠ ((.slice Ao29 t447.length co29) : Value).ownBlock) (.slice Ao36 t452.length co36) t452) ∧ Aside0 (wc.heap[gb434]? = some (.cells #[.int .i64 a0_0, (.slice A0_1 l0_1.length c0_1)] 24 (0, 0))) ∧ Aside0 (wc.heap[gb445]? = some (.cells #[.int .i64 t440, (.slice Ao22 t441.length co22)] 26 (0, 0))) ∧ Aside0 (wc.heap[gb450]? = some (.cells #[.int .i64 t446, (.slice Ao29 t447.length co29)] 26 (0, 0))) ∧ Aside0 (wc.heap[gb456]? = some (.cells #[.int .i64 t451, (.slice Ao36 t452.length co36)] 26 (0, 0))) ∧ Aside0 (Below w.heap.size w wc))
    case first =>
      have H := HC11.out
      clear HC11
      replace H := Option.bind_eq_some_iff.mp H
      obtain ⟨t457, A370, H⟩ := H
      replace H : (if t457 = true then (laws_FnExactReduceLadder.j0 k t444 t455 (t455 != t444) a0_0 l0_1 t440 t441 t446 t447 t451 t452) else (laws_FnExactReduceLadder.j0 k t444 t455 true a0_0 l0_1 t440 t441 t446 t447 t451 t452)) = some r := H
      have A37 := Aside0.mk A370
      clear A370
      by_cases c38 : t457 = true
      · subst c38
        have H1 : (laws_FnExactReduceLadder.j0 k t444 t455 (t455 != t444) a0_0 l0_1 t440 t441 t446 t447 t451 t452) = some r := by rw [if_pos rfl] at H; exact H
        clear H
        have H := H1
        clear H1
        have H' := Aside0.mk H
        clear H
        have hnb39 := NB456_434.out
        have hnc39 := NB434_456.out
        have hnb40 := NB456_445.out
        have hnc40 := NB445_456.out
        have hnb41 := NB456_450.out
        have hnc41 := NB450_456.out
        have hcz42_0 : w31.cell? ⟨gb456, 0, none⟩ = some (.int .i64 0) := (blk_cell BK456.out 0).trans rfl
        have hcz42_1 : w31.cell? ⟨gb456, 1, none⟩ = some (.slice none 0 0) := (blk_cell BK456.out 1).trans rfl
        have hfz42_0 := blk_frozen BK456.out 0
        have hfz42_1 := blk_frozen BK456.out 1
        have hnb43 := NB445_434.out
        have hnc43 := NB434_445.out
        have hnb44 := NB445_450.out
        have hnc44 := NB450_445.out
        have hcz45_0 : w31.cell? ⟨gb445, 0, none⟩ = some (.int .i64 t440) := (blk_cell BK445.out 0).trans rfl
        have hcz45_1 : w31.cell? ⟨gb445, 1, none⟩ = some (.slice Ao22 t441.length co22) := (blk_cell BK445.out 1).trans rfl
        have hfz45_0 := blk_frozen BK445.out 0
        have hfz45_1 := blk_frozen BK445.out 1
        go_wp2_with (first | ((with_reducible refine gate_callee (f := 18) rfl ?_); refine goesL_ (some 34) rfl rfl Try.func18 (by kernel_rfl) rfl #[.agg #[.int .i64 t451, .slice Ao36 t452.length co36], .agg #[.int .i64 t440, .slice Ao22 t441.length co22]] rfl (by (try simp only [List.map_toArray, List.map_cons, List.map_nil]); first | done | rfl | (simp only [List.length_drop, List.length_take]; rfl)) ?_; (with_reducible refine (laws_eqLadder.calls k t451 _ _ t452 t440 _ _ t441 true _ ?side1 ?side2 ?side3 ?side4 A37.out).mono ?_); (case side1 => refine (Kd.R_reads' (e := 3) (base := w.heap.size) (ok := fun k_ => (((True ∧ some k_ ≠ (.slice Ao17 t437.length co17 : Value).ownBlock) ∧ some k_ ≠ (.slice Ao22 t441.length co22 : Value).ownBlock) ∧ some k_ ≠ (.slice Ao29 t447.length co29 : Value).ownBlock)) (n := t452.length) (c := co36) ?_).2.2; exact (by (with_reducible repeat (first | apply Kd.R_alloc | apply Kd.R_drewN | apply Kd.R_drew)); exact (Kd.R_mono (Kd.R_far (p := ⟨gb456, 1, none⟩) (Kd.R_far (p := ⟨gb456, 0, none⟩) (Kd.R_types HO454.out BK456.out (by decide)) (fun _ hk => hk.2) (.int .i64 t451)) (fun _ hk => hk.2) (.slice Ao36 t452.length co36)) (fun _ h_ => h_.1)))); (case side2 => exact (Kd.R_reads' HO454.out).2.1); (case side3 => refine (Kd.R_reads' (e := 3) (base := w.heap.size) (ok := fun k_ => (((True ∧ some k_ ≠ (.slice Ao17 t437.length co17 : Value).ownBlock) ∧ some k_ ≠ (.slice Ao29 t447.length co29 : Value).ownBlock) ∧ some k_ ≠ (.slice Ao36 t452.length co36 : Value).ownBlock)) (n := t441.length) (c := co22) ?_).2.2; exact (by (with_reducible repeat (first | apply Kd.R_alloc | apply Kd.R_drewN | apply Kd.R_drew)); exact (Kd.R_mono (Kd.R_far (p := ⟨gb456, 1, none⟩) (Kd.R_far (p := ⟨gb456, 0, none⟩) (Kd.R_types HO443.out BK456.out (by decide)) (fun _ hk => hk.2) (.int .i64 t451)) (fun _ hk => hk.2) (.slice Ao36 t452.length co36)) (fun _ h_ => h_.1)))); (case side4 => exact (Kd.R_reads' HO443.out).2.1); rintro e w46 ⟨rfl, hb⟩; refine ⟨_, rfl, ?_⟩; have n0_ := Aside0.mk (Kd.R_below (by (with_reducible repeat (first | apply Kd.R_alloc | apply Kd.R_drewN | apply Kd.R_drew)); exact (Kd.R_mono (Kd.R_far (p := ⟨gb456, 1, none⟩) (Kd.R_far (p := ⟨gb456, 0, none⟩) (Kd.R_types HO439.out BK456.out (by decide)) (fun _ hk => hk.2) (.int .i64 t451)) (fun _ hk => hk.2) (.slice Ao36 t452.length co36)) (fun _ h_ => h_.1))) hb); have n1_ := Aside0.mk (Kd.R_below (by (with_reducible repeat (first | apply Kd.R_alloc | apply Kd.R_drewN | apply Kd.R_drew)); exact (Kd.R_mono (Kd.R_far (p := ⟨gb456, 1, none⟩) (Kd.R_far (p := ⟨gb456, 0, none⟩) (Kd.R_types HO443.out BK456.out (by decide)) (fun _ hk => hk.2) (.int .i64 t451)) (fun _ hk => hk.2) (.slice Ao36 t452.length co36)) (fun _ h_ => h_.1))) hb); have n2_ := Aside0.mk (Kd.R_below (by (with_reducible repeat (first | apply Kd.R_alloc | apply Kd.R_drewN | apply Kd.R_drew)); exact (Kd.R_mono (Kd.R_far (p := ⟨gb456, 1, none⟩) (Kd.R_far (p := ⟨gb456, 0, none⟩) (Kd.R_types HO449.out BK456.out (by decide)) (fun _ hk => hk.2) (.int .i64 t451)) (fun _ hk => hk.2) (.slice Ao36 t452.length co36)) (fun _ h_ => h_.1))) hb); have n3_ := Aside0.mk (Kd.R_below (by (with_reducible repeat (first | apply Kd.R_alloc | apply Kd.R_drewN | apply Kd.R_drew)); exact (Kd.R_mono (Kd.R_far (p := ⟨gb456, 1, none⟩) (Kd.R_far (p := ⟨gb456, 0, none⟩) (Kd.R_types HO454.out BK456.out (by decide)) (fun _ hk => hk.2) (.int .i64 t451)) (fun _ hk => hk.2) (.slice Ao36 t452.length co36)) (fun _ h_ => h_.1))) hb); have n4_ := Aside0.mk (blk_below (g := gb434) (o := .cells #[.int .i64 a0_0, .slice A0_1 l0_1.length c0_1] 24 (0, 0)) (by (with_reducible repeat (first | refine blk_drewN ?_ _ | refine blk_drew ?_ | refine blk_alloc ?_ _)); refine blk_far ?_ NB434_456.out _; (with_reducible repeat (first | refine blk_drewN ?_ _ | refine blk_drew ?_ | refine blk_alloc ?_ _)); refine blk_far ?_ NB434_456.out _; (with_reducible repeat (first | refine blk_drewN ?_ _ | refine blk_drew ?_ | refine blk_alloc ?_ _)); exact BK434.out) hb); have n5_ := Aside0.mk (blk_below (g := gb445) (o := .cells #[.int .i64 t440, .slice Ao22 t441.length co22] 26 (0, 0)) (by (with_reducible repeat (first | refine blk_drewN ?_ _ | refine blk_drew ?_ | refine blk_alloc ?_ _)); refine blk_far ?_ NB445_456.out _; (with_reducible repeat (first | refine blk_drewN ?_ _ | refine blk_drew ?_ | refine blk_alloc ?_ _)); refine blk_far ?_ NB445_456.out _; (with_reducible repeat (first | refine blk_drewN ?_ _ | refine blk_drew ?_ | refine blk_alloc ?_ _)); exact BK445.out) hb); have n6_ := Aside0.mk (blk_below (g := gb450) (o := .cells #[.int .i64 t446, .slice Ao29 t447.length co29] 26 (0, 0)) (by (with_reducible repeat (first | refine blk_drewN ?_ _ | refine blk_drew ?_ | refine blk_alloc ?_ _)); refine blk_far ?_ NB450_456.out _; (with_reducible repeat (first | refine blk_drewN ?_ _ | refine blk_drew ?_ | refine blk_alloc ?_ _)); refine blk_far ?_ NB450_456.out _; (with_reducible repeat (first | refine blk_drewN ?_ _ | refine blk_drew ?_ | refine blk_alloc ?_ _)); exact BK450.out) hb); have n7_ := Aside0.mk (blk_below (g := gb456) (o := .cells #[.int .i64 t451, .slice Ao36 t452.length co36] 26 (0, 0)) (by (with_reducible repeat (first | refine blk_drewN ?_ _ | refine blk_drew ?_ | refine blk_alloc ?_ _)); refine blk_put (cs := #[.int .i64 t451, .slice none 0 0]) ?_ 1 _ rfl; (with_reducible repeat (first | refine blk_drewN ?_ _ | refine blk_drew ?_ | refine blk_alloc ?_ _)); refine blk_put (cs := #[.int .i64 0, .slice none 0 0]) ?_ 0 _ rfl; (with_reducible repeat (first | refine blk_drewN ?_ _ | refine blk_drew ?_ | refine blk_alloc ?_ _)); exact BK456.out) hb); have n8_ := Aside0.mk (below_step (by repeat (first | (with_reducible first | exact HB.out | apply below_alloc | apply pw_below_drewN | apply below_drew1 | refine below_set ?_ GE434.out | refine below_set ?_ GE445.out | refine below_set ?_ GE450.out | refine below_set ?_ GE456.out) | exact HB.out)) hb); clear HO439; clear HO443; clear HO449; clear HO454; clear BK434; clear BK445; clear BK450; clear BK456; clear HB; have HO439 := n0_; have HO443 := n1_; have HO449 := n2_; have HO454 := n3_; have BK434 := n4_; have BK445 := n5_; have BK450 := n6_; have BK456 := n7_; have HB := n8_; clear n0_ n1_ n2_ n3_ n4_ n5_ n6_ n7_ n8_; (try clear hb); (try clear hb2); (try clear hk); (try clear hi)))
        go_meet
        case rel => exact ⟨_, ((t455 != t444)), (by first | rfl | (simp; done) | (simp [*]; done)), H', ⟨by first | omega | exact Nat.le_refl _⟩, ⟨by (with_reducible repeat (first | apply Kd.R_alloc | apply Kd.R_drewN | apply Kd.R_drew)); exact Kd.R_mono HO443.out (fun _ hk => ⟨hk.1.2, hk.2⟩)⟩, ⟨by (with_reducible repeat (first | apply Kd.R_alloc | apply Kd.R_drewN | apply Kd.R_drew)); exact Kd.R_mono HO449.out (fun _ hk => ⟨hk.1.2, hk.2⟩)⟩, ⟨by (with_reducible repeat (first | apply Kd.R_alloc | apply Kd.R_drewN | apply Kd.R_drew)); exact Kd.R_mono HO454.out (fun _ hk => ⟨hk.1.2, hk.2⟩)⟩, ⟨by (with_reducible repeat (first | refine blk_drewN ?_ _ | refine blk_drew ?_ | refine blk_alloc ?_ _)); exact BK434.out⟩, ⟨by (with_reducible repeat (first | refine blk_drewN ?_ _ | refine blk_drew ?_ | refine blk_alloc ?_ _)); exact BK445.out⟩, ⟨by (with_reducible repeat (first | refine blk_drewN ?_ _ | refine blk_drew ?_ | refine blk_alloc ?_ _)); exact BK450.out⟩, ⟨by (with_reducible repeat (first | refine blk_drewN ?_ _ | refine blk_drew ?_ | refine blk_alloc ?_ _)); exact BK456.out⟩, ⟨by repeat (first | (with_reducible first | exact HB.out | apply below_alloc | apply pw_below_drewN | apply below_drew1 | refine below_set ?_ GE434.out | refine below_set ?_ GE445.out | refine below_set ?_ GE450.out | refine below_set ?_ GE456.out) | exact HB.out)⟩⟩
      · replace c38 := Bool.eq_false_iff.mpr c38
        subst c38
        have H1 : (laws_FnExactReduceLadder.j0 k t444 t455 true a0_0 l0_1 t440 t441 t446 t447 t451 t452) = some r := by rw [if_neg (show ¬ (false = true) by decide)] at H; exact H
        clear H
        have H := H1
        clear H1
        have H' := Aside0.mk H
        clear H
        have hnb47 := NB456_434.out
        have hnc47 := NB434_456.out
        have hnb48 := NB456_445.out
        have hnc48 := NB445_456.out
        have hnb49 := NB456_450.out
        have hnc49 := NB450_456.out
        have hcz50_0 : w31.cell? ⟨gb456, 0, none⟩ = some (.int .i64 0) := (blk_cell BK456.out 0).trans rfl
        have hcz50_1 : w31.cell? ⟨gb456, 1, none⟩ = some (.slice none 0 0) := (blk_cell BK456.out 1).trans rfl
        have hfz50_0 := blk_frozen BK456.out 0
        have hfz50_1 := blk_frozen BK456.out 1
        have hnb51 := NB445_434.out
        have hnc51 := NB434_445.out
        have hnb52 := NB445_450.out
        have hnc52 := NB450_445.out
        have hcz53_0 : w31.cell? ⟨gb445, 0, none⟩ = some (.int .i64 t440) := (blk_cell BK445.out 0).trans rfl
        have hcz53_1 : w31.cell? ⟨gb445, 1, none⟩ = some (.slice Ao22 t441.length co22) := (blk_cell BK445.out 1).trans rfl
        have hfz53_0 := blk_frozen BK445.out 0
        have hfz53_1 := blk_frozen BK445.out 1
        go_wp2_with (first | ((with_reducible refine gate_callee (f := 18) rfl ?_); refine goesL_ (some 34) rfl rfl Try.func18 (by kernel_rfl) rfl #[.agg #[.int .i64 t451, .slice Ao36 t452.length co36], .agg #[.int .i64 t440, .slice Ao22 t441.length co22]] rfl (by (try simp only [List.map_toArray, List.map_cons, List.map_nil]); first | done | rfl | (simp only [List.length_drop, List.length_take]; rfl)) ?_; (with_reducible refine (laws_eqLadder.calls k t451 _ _ t452 t440 _ _ t441 false _ ?side1 ?side2 ?side3 ?side4 A37.out).mono ?_); (case side1 => refine (Kd.R_reads' (e := 3) (base := w.heap.size) (ok := fun k_ => (((True ∧ some k_ ≠ (.slice Ao17 t437.length co17 : Value).ownBlock) ∧ some k_ ≠ (.slice Ao22 t441.length co22 : Value).ownBlock) ∧ some k_ ≠ (.slice Ao29 t447.length co29 : Value).ownBlock)) (n := t452.length) (c := co36) ?_).2.2; exact (by (with_reducible repeat (first | apply Kd.R_alloc | apply Kd.R_drewN | apply Kd.R_drew)); exact (Kd.R_mono (Kd.R_far (p := ⟨gb456, 1, none⟩) (Kd.R_far (p := ⟨gb456, 0, none⟩) (Kd.R_types HO454.out BK456.out (by decide)) (fun _ hk => hk.2) (.int .i64 t451)) (fun _ hk => hk.2) (.slice Ao36 t452.length co36)) (fun _ h_ => h_.1)))); (case side2 => exact (Kd.R_reads' HO454.out).2.1); (case side3 => refine (Kd.R_reads' (e := 3) (base := w.heap.size) (ok := fun k_ => (((True ∧ some k_ ≠ (.slice Ao17 t437.length co17 : Value).ownBlock) ∧ some k_ ≠ (.slice Ao29 t447.length co29 : Value).ownBlock) ∧ some k_ ≠ (.slice Ao36 t452.length co36 : Value).ownBlock)) (n := t441.length) (c := co22) ?_).2.2; exact (by (with_reducible repeat (first | apply Kd.R_alloc | apply Kd.R_drewN | apply Kd.R_drew)); exact (Kd.R_mono (Kd.R_far (p := ⟨gb456, 1, none⟩) (Kd.R_far (p := ⟨gb456, 0, none⟩) (Kd.R_types HO443.out BK456.out (by decide)) (fun _ hk => hk.2) (.int .i64 t451)) (fun _ hk => hk.2) (.slice Ao36 t452.length co36)) (fun _ h_ => h_.1)))); (case side4 => exact (Kd.R_reads' HO443.out).2.1); rintro e w54 ⟨rfl, hb⟩; refine ⟨_, rfl, ?_⟩; have n0_ := Aside0.mk (Kd.R_below (by (with_reducible repeat (first | apply Kd.R_alloc | apply Kd.R_drewN | apply Kd.R_drew)); exact (Kd.R_mono (Kd.R_far (p := ⟨gb456, 1, none⟩) (Kd.R_far (p := ⟨gb456, 0, none⟩) (Kd.R_types HO439.out BK456.out (by decide)) (fun _ hk => hk.2) (.int .i64 t451)) (fun _ hk => hk.2) (.slice Ao36 t452.length co36)) (fun _ h_ => h_.1))) hb); have n1_ := Aside0.mk (Kd.R_below (by (with_reducible repeat (first | apply Kd.R_alloc | apply Kd.R_drewN | apply Kd.R_drew)); exact (Kd.R_mono (Kd.R_far (p := ⟨gb456, 1, none⟩) (Kd.R_far (p := ⟨gb456, 0, none⟩) (Kd.R_types HO443.out BK456.out (by decide)) (fun _ hk => hk.2) (.int .i64 t451)) (fun _ hk => hk.2) (.slice Ao36 t452.length co36)) (fun _ h_ => h_.1))) hb); have n2_ := Aside0.mk (Kd.R_below (by (with_reducible repeat (first | apply Kd.R_alloc | apply Kd.R_drewN | apply Kd.R_drew)); exact (Kd.R_mono (Kd.R_far (p := ⟨gb456, 1, none⟩) (Kd.R_far (p := ⟨gb456, 0, none⟩) (Kd.R_types HO449.out BK456.out (by decide)) (fun _ hk => hk.2) (.int .i64 t451)) (fun _ hk => hk.2) (.slice Ao36 t452.length co36)) (fun _ h_ => h_.1))) hb); have n3_ := Aside0.mk (Kd.R_below (by (with_reducible repeat (first | apply Kd.R_alloc | apply Kd.R_drewN | apply Kd.R_drew)); exact (Kd.R_mono (Kd.R_far (p := ⟨gb456, 1, none⟩) (Kd.R_far (p := ⟨gb456, 0, none⟩) (Kd.R_types HO454.out BK456.out (by decide)) (fun _ hk => hk.2) (.int .i64 t451)) (fun _ hk => hk.2) (.slice Ao36 t452.length co36)) (fun _ h_ => h_.1))) hb); have n4_ := Aside0.mk (blk_below (g := gb434) (o := .cells #[.int .i64 a0_0, .slice A0_1 l0_1.length c0_1] 24 (0, 0)) (by (with_reducible repeat (first | refine blk_drewN ?_ _ | refine blk_drew ?_ | refine blk_alloc ?_ _)); refine blk_far ?_ NB434_456.out _; (with_reducible repeat (first | refine blk_drewN ?_ _ | refine blk_drew ?_ | refine blk_alloc ?_ _)); refine blk_far ?_ NB434_456.out _; (with_reducible repeat (first | refine blk_drewN ?_ _ | refine blk_drew ?_ | refine blk_alloc ?_ _)); exact BK434.out) hb); have n5_ := Aside0.mk (blk_below (g := gb445) (o := .cells #[.int .i64 t440, .slice Ao22 t441.length co22] 26 (0, 0)) (by (with_reducible repeat (first | refine blk_drewN ?_ _ | refine blk_drew ?_ | refine blk_alloc ?_ _)); refine blk_far ?_ NB445_456.out _; (with_reducible repeat (first | refine blk_drewN ?_ _ | refine blk_drew ?_ | refine blk_alloc ?_ _)); refine blk_far ?_ NB445_456.out _; (with_reducible repeat (first | refine blk_drewN ?_ _ | refine blk_drew ?_ | refine blk_alloc ?_ _)); exact BK445.out) hb); have n6_ := Aside0.mk (blk_below (g := gb450) (o := .cells #[.int .i64 t446, .slice Ao29 t447.length co29] 26 (0, 0)) (by (with_reducible repeat (first | refine blk_drewN ?_ _ | refine blk_drew ?_ | refine blk_alloc ?_ _)); refine blk_far ?_ NB450_456.out _; (with_reducible repeat (first | refine blk_drewN ?_ _ | refine blk_drew ?_ | refine blk_alloc ?_ _)); refine blk_far ?_ NB450_456.out _; (with_reducible repeat (first | refine blk_drewN ?_ _ | refine blk_drew ?_ | refine blk_alloc ?_ _)); exact BK450.out) hb); have n7_ := Aside0.mk (blk_below (g := gb456) (o := .cells #[.int .i64 t451, .slice Ao36 t452.length co36] 26 (0, 0)) (by (with_reducible repeat (first | refine blk_drewN ?_ _ | refine blk_drew ?_ | refine blk_alloc ?_ _)); refine blk_put (cs := #[.int .i64 t451, .slice none 0 0]) ?_ 1 _ rfl; (with_reducible repeat (first | refine blk_drewN ?_ _ | refine blk_drew ?_ | refine blk_alloc ?_ _)); refine blk_put (cs := #[.int .i64 0, .slice none 0 0]) ?_ 0 _ rfl; (with_reducible repeat (first | refine blk_drewN ?_ _ | refine blk_drew ?_ | refine blk_alloc ?_ _)); exact BK456.out) hb); have n8_ := Aside0.mk (below_step (by repeat (first | (with_reducible first | exact HB.out | apply below_alloc | apply pw_below_drewN | apply below_drew1 | refine below_set ?_ GE434.out | refine below_set ?_ GE445.out | refine below_set ?_ GE450.out | refine below_set ?_ GE456.out) | exact HB.out)) hb); clear HO439; clear HO443; clear HO449; clear HO454; clear BK434; clear BK445; clear BK450; clear BK456; clear HB; have HO439 := n0_; have HO443 := n1_; have HO449 := n2_; have HO454 := n3_; have BK434 := n4_; have BK445 := n5_; have BK450 := n6_; have BK456 := n7_; have HB := n8_; clear n0_ n1_ n2_ n3_ n4_ n5_ n6_ n7_ n8_; (try clear hb); (try clear hb2); (try clear hk); (try clear hi)))
        go_meet
        case rel => exact ⟨_, (true), (by first | rfl | (simp; done) | (simp [*]; done)), H', ⟨by first | omega | exact Nat.le_refl _⟩, ⟨by (with_reducible repeat (first | apply Kd.R_alloc | apply Kd.R_drewN | apply Kd.R_drew)); exact Kd.R_mono HO443.out (fun _ hk => ⟨hk.1.2, hk.2⟩)⟩, ⟨by (with_reducible repeat (first | apply Kd.R_alloc | apply Kd.R_drewN | apply Kd.R_drew)); exact Kd.R_mono HO449.out (fun _ hk => ⟨hk.1.2, hk.2⟩)⟩, ⟨by (with_reducible repeat (first | apply Kd.R_alloc | apply Kd.R_drewN | apply Kd.R_drew)); exact Kd.R_mono HO454.out (fun _ hk => ⟨hk.1.2, hk.2⟩)⟩, ⟨by (with_reducible repeat (first | refine blk_drewN ?_ _ | refine blk_drew ?_ | refine blk_alloc ?_ _)); exact BK434.out⟩, ⟨by (with_reducible repeat (first | refine blk_drewN ?_ _ | refine blk_drew ?_ | refine blk_alloc ?_ _)); exact BK445.out⟩, ⟨by (with_reducible repeat (first | refine blk_drewN ?_ _ | refine blk_drew ?_ | refine blk_alloc ?_ _)); exact BK450.out⟩, ⟨by (with_reducible repeat (first | refine blk_drewN ?_ _ | refine blk_drew ?_ | refine blk_alloc ?_ _)); exact BK456.out⟩, ⟨by repeat (first | (with_reducible first | exact HB.out | apply below_alloc | apply pw_below_drewN | apply below_drew1 | refine below_set ?_ GE434.out | refine below_set ?_ GE445.out | refine below_set ?_ GE450.out | refine below_set ?_ GE456.out) | exact HB.out)⟩⟩
    case rest =>
      clear HC11
      try clear c1
      try clear c2
      try clear p2
      try clear c3
      try clear c3b0
      try clear c4
      try clear c5
      try clear c6
      try clear c14
      try clear c16
      try clear c18
      try clear c20
      try clear c26
      try clear c27
      try clear c28
      try clear c29
      try clear c32
      try clear c33
      try clear c34
      try clear c38
      try clear c39
      try clear c40
      try clear c41
      try clear c43
      try clear c44
      try clear c47
      try clear c48
      try clear c49
      try clear c51
      try clear c52
      try clear hcz13_0
      try clear hcz13_1
      try clear hcz15_0
      try clear hcz15_1
      try clear hcz21_0
      try clear hcz21_1
      try clear hcz23_0
      try clear hcz23_1
      try clear hcz28_0
      try clear hcz28_1
      try clear hcz35_0
      try clear hcz35_1
      try clear hcz42_0
      try clear hcz42_1
      try clear hcz45_0
      try clear hcz45_1
      try clear hcz50_0
      try clear hcz50_1
      try clear hcz53_0
      try clear hcz53_1
      try clear hcz5_0
      try clear hcz5_1
      try clear hfz13_0
      try clear hfz13_1
      try clear hfz15_0
      try clear hfz15_1
      try clear hfz21_0
      try clear hfz21_1
      try clear hfz23_0
      try clear hfz23_1
      try clear hfz28_0
      try clear hfz28_1
      try clear hfz35_0
      try clear hfz35_1
      try clear hfz42_0
      try clear hfz42_1
      try clear hfz45_0
      try clear hfz45_1
      try clear hfz50_0
      try clear hfz50_1
      try clear hfz53_0
      try clear hfz53_1
      try clear hfz5_0
      try clear hfz5_1
      obtain ⟨kq, x40_10, rfl, HA, HJ10, HO_446001, HO_451001, HO_457001, BK434, BK445, BK450, BK456, HB⟩ := hcut
      cases kq with
      | zero => exact absurd HA.out (by simp [laws_FnExactReduceLadder.j0])
      | succ kj10 =>
        have H := HA.out
        clear HA
        simp only [laws_FnExactReduceLadder.j0] at H
        by_cases c55 : x40_10 = true
        · subst c55
          have H1 : (some false) = some r := by rw [if_pos rfl] at H; exact H
          clear H
          have H := H1
          clear H1
          obtain rfl := Option.some.inj H
          go_wp2
          go_ret
          exact ⟨by first | rfl | (simp [errW_none, errW_some] <;> rfl) | (simp [*, errW_none, errW_some] <;> rfl), by repeat (first | (with_reducible first | exact HB.out | apply below_alloc | apply pw_below_drewN | apply below_drew1 | refine below_set ?_ GE434.out | refine below_set ?_ GE445.out | refine below_set ?_ GE450.out | refine below_set ?_ GE456.out) | exact HB.out)⟩
        · replace c55 := Bool.eq_false_iff.mpr c55
          subst c55
          have H1 : ((laws_toLadder.f kj10 a0_0 l0_1).bind fun bt458 => ((laws_eqLadder.f kj10 t446 t447 bt458.1 bt458.2).bind fun t462 => (if t462 = true then ((laws_markLadder.f kj10 t446 t447 1).bind fun bt463 => (if bt463.1 < 0 then (laws_FnExactReduceLadder.j1 kj10 t444 true a0_0 l0_1 t440 t441 t451 t452) else ((laws_eqLadder.f kj10 t451 t452 t440 t441).bind fun t465 => (if t465 = true then (laws_FnExactReduceLadder.j1 kj10 t444 (t455 != t444) a0_0 l0_1 t440 t441 t451 t452) else (laws_FnExactReduceLadder.j1 kj10 t444 true a0_0 l0_1 t440 t441 t451 t452))))) else (some false)))) = some r := by rw [if_neg (show ¬ (false = true) by decide)] at H; exact H
          clear H
          have H := H1
          clear H1
          replace H := Option.bind_eq_some_iff.mp H
          obtain ⟨⟨t458, t459⟩, A560, H⟩ := H
          replace H : ((laws_eqLadder.f kj10 t446 t447 t458 t459).bind fun t462 => (if t462 = true then ((laws_markLadder.f kj10 t446 t447 1).bind fun bt463 => (if bt463.1 < 0 then (laws_FnExactReduceLadder.j1 kj10 t444 true a0_0 l0_1 t440 t441 t451 t452) else ((laws_eqLadder.f kj10 t451 t452 t440 t441).bind fun t465 => (if t465 = true then (laws_FnExactReduceLadder.j1 kj10 t444 (t455 != t444) a0_0 l0_1 t440 t441 t451 t452) else (laws_FnExactReduceLadder.j1 kj10 t444 true a0_0 l0_1 t440 t441 t451 t452))))) else (some false))) = some r := H
          have A56 := Aside0.mk A560
          clear A560
          replace H := Option.bind_eq_some_iff.mp H
          obtain ⟨t462, A570, H⟩ := H
          replace H : (if t462 = true then ((laws_markLadder.f kj10 t446 t447 1).bind fun bt463 => (if bt463.1 < 0 then (laws_FnExactReduceLadder.j1 kj10 t444 true a0_0 l0_1 t440 t441 t451 t452) else ((laws_eqLadder.f kj10 t451 t452 t440 t441).bind fun t465 => (if t465 = true then (laws_FnExactReduceLadder.j1 kj10 t444 (t455 != t444) a0_0 l0_1 t440 t441 t451 t452) else (laws_FnExactReduceLadder.j1 kj10 t444 true a0_0 l0_1 t440 t441 t451 t452))))) else (some false)) = some r := H
          have A57 := Aside0.mk A570
          clear A570
          by_cases c58 : t462 = true
          · subst c58
            have H1 : ((laws_markLadder.f kj10 t446 t447 1).bind fun bt463 => (if bt463.1 < 0 then (laws_FnExactReduceLadder.j1 kj10 t444 true a0_0 l0_1 t440 t441 t451 t452) else ((laws_eqLadder.f kj10 t451 t452 t440 t441).bind fun t465 => (if t465 = true then (laws_FnExactReduceLadder.j1 kj10 t444 (t455 != t444) a0_0 l0_1 t440 t441 t451 t452) else (laws_FnExactReduceLadder.j1 kj10 t444 true a0_0 l0_1 t440 t441 t451 t452))))) = some r := by rw [if_pos rfl] at H; exact H
            clear H
            have H := H1
            clear H1
            replace H := Option.bind_eq_some_iff.mp H
            obtain ⟨⟨t463, t464⟩, A590, H⟩ := H
            replace H : (if t463 < 0 then (laws_FnExactReduceLadder.j1 kj10 t444 true a0_0 l0_1 t440 t441 t451 t452) else ((laws_eqLadder.f kj10 t451 t452 t440 t441).bind fun t465 => (if t465 = true then (laws_FnExactReduceLadder.j1 kj10 t444 (t455 != t444) a0_0 l0_1 t440 t441 t451 t452) else (laws_FnExactReduceLadder.j1 kj10 t444 true a0_0 l0_1 t440 t441 t451 t452)))) = some r := H
            have A59 := Aside0.mk A590
            clear A590
            have HC60 := Aside0.mk H
            clear H
            try go_wp2
            have n0_ := Aside0.mk (Kd.R_drew HO_446001.out)
            have n1_ := Aside0.mk (Kd.R_drew HO_451001.out)
            have n2_ := Aside0.mk (Kd.R_drew HO_457001.out)
            have n3_ := Aside0.mk (blk_drew BK434.out)
            have n4_ := Aside0.mk (blk_drew BK445.out)
            have n5_ := Aside0.mk (blk_drew BK450.out)
            have n6_ := Aside0.mk (blk_drew BK456.out)
            have n7_ := Aside0.mk (below_drew1 HB.out)
            clear HO_446001
            clear HO_451001
            clear HO_457001
            clear BK434
            clear BK445
            clear BK450
            clear BK456
            clear HB
            have HO_446001 := n0_
            have HO_451001 := n1_
            have HO_457001 := n2_
            have BK434 := n3_
            have BK445 := n4_
            have BK450 := n5_
            have BK456 := n6_
            have HB := n7_
            clear n0_ n1_ n2_ n3_ n4_ n5_ n6_ n7_
            refine start_ (n := 5) (S := fun w' => w'.cell? ⟨gb450, 0, none⟩ = some (.int .i64 t446) ∧ w'.cell? ⟨gb450, 1, none⟩ = some (.slice Ao29 t447.length co29) ∧ w'.cell? ⟨gb434, 0, none⟩ = some (.int .i64 a0_0) ∧ w'.cell? ⟨gb434, 1, none⟩ = some (.slice A0_1 l0_1.length c0_1)) (ds := []) #[false, false, false, false, false] (by kernel_rfl) rfl rfl ⟨(blk_cell BK450.out 0).trans rfl, (blk_cell BK450.out 1).trans rfl, (blk_cell BK434.out 0).trans rfl, (blk_cell BK434.out 1).trans rfl⟩ (fun hHeld => ?_)
            generalize wc.drew = w61 at HO_446001 HO_451001 HO_457001 BK434 BK445 BK450 BK456 HB hHeld ⊢
            refine take_ (i := 0) (N := some 41) (v := ?_) (a' := ?_) #[true, false, false, false, false] rfl rfl (by kernel_rfl) (fun _ _ _ h => h) (Or.inl ⟨by rfl, ?_⟩) hHeld ?_ ?_
            rotate_left
            · rintro w' ⟨s0, s1, s2, s3⟩
              go_simp
              with_reducible rfl
            rotate_left
            · simp only [Act.put, List.setIfInBounds_toArray, List.set_cons_zero, List.set_cons_succ, i64_w, i32_w]
              rfl
            refine take_ (i := 1) (N := some 42) (v := ?_) (a' := ?_) #[true, true, false, false, false] rfl rfl (by kernel_rfl) (fun _ _ _ h => h) (Or.inl ⟨by rfl, ?_⟩) hHeld ?_ ?_
            rotate_left
            · rintro w' ⟨s0, s1, s2, s3⟩
              go_simp
              with_reducible rfl
            rotate_left
            · simp only [Act.put, List.setIfInBounds_toArray, List.set_cons_zero, List.set_cons_succ, i64_w, i32_w]
              rfl
            refine one_ (i := 2) (N := some 43) #[true, true, true, false, false] rfl rfl (by kernel_rfl) (by decide) (fun K hK => ?_)
            refine goes_ Try.func16 (by kernel_rfl) rfl #[.agg #[.int .i64 a0_0, .slice A0_1 l0_1.length c0_1]] (by rfl) rfl rfl (by (try simp only [List.map_toArray, List.map_cons, List.map_nil]); first | done | rfl | (simp only [List.length_drop, List.length_take]; rfl)) ?_
            with_reducible refine (laws_toLadder.calls kj10 a0_0 _ _ l0_1 t458 t459 _ ?side1 ?side2 A56.out).mono ?_
            (case side1 => repeat (first | exact (Kd.C_below HR0_1.out HB.out) | (with_reducible refine Kd.C_alloc ?_ _) | (with_reducible refine Kd.C_drewN ?_ _) | (with_reducible refine Kd.C_drew ?_)))
            (case side2 => exact HC0_1.out)
            rintro e w62 ⟨v460, rfl, ho0, hb⟩
            refine ⟨_, rfl, ?_⟩
            have n0_ := Aside0.mk (Kd.R_elder' (by (with_reducible repeat (first | apply Kd.R_alloc | apply Kd.R_drewN | apply Kd.R_drew)); exact HO_446001.out) (Kd.R_base ho0) hb)
            have n1_ := Aside0.mk (Kd.R_elder' (by (with_reducible repeat (first | apply Kd.R_alloc | apply Kd.R_drewN | apply Kd.R_drew)); exact HO_451001.out) (Kd.R_base ho0) hb)
            have n2_ := Aside0.mk (Kd.R_elder' (by (with_reducible repeat (first | apply Kd.R_alloc | apply Kd.R_drewN | apply Kd.R_drew)); exact HO_457001.out) (Kd.R_base ho0) hb)
            have n3_ := Aside0.mk (Kd.R_lower (Kd.R_new' (Kd.R_new' (Kd.R_new' ho0 (Kd.R_lt (by (with_reducible repeat (first | apply Kd.R_alloc | apply Kd.R_drewN | apply Kd.R_drew)); exact HO_446001.out))) (Kd.R_lt (by (with_reducible repeat (first | apply Kd.R_alloc | apply Kd.R_drewN | apply Kd.R_drew)); exact HO_451001.out))) (Kd.R_lt (by (with_reducible repeat (first | apply Kd.R_alloc | apply Kd.R_drewN | apply Kd.R_drew)); exact HO_457001.out))) (below_size (by repeat (first | (with_reducible first | exact HB.out | apply below_alloc | apply pw_below_drewN | apply below_drew1 | refine below_set ?_ GE434.out | refine below_set ?_ GE445.out | refine below_set ?_ GE450.out | refine below_set ?_ GE456.out) | exact HB.out))))
            have n4_ := Aside0.mk (blk_below (g := gb434) (o := .cells #[.int .i64 a0_0, .slice A0_1 l0_1.length c0_1] 24 (0, 0)) (by (with_reducible repeat (first | refine blk_drewN ?_ _ | refine blk_drew ?_ | refine blk_alloc ?_ _)); exact BK434.out) hb)
            have n5_ := Aside0.mk (blk_below (g := gb445) (o := .cells #[.int .i64 t440, .slice Ao22 t441.length co22] 26 (0, 0)) (by (with_reducible repeat (first | refine blk_drewN ?_ _ | refine blk_drew ?_ | refine blk_alloc ?_ _)); exact BK445.out) hb)
            have n6_ := Aside0.mk (blk_below (g := gb450) (o := .cells #[.int .i64 t446, .slice Ao29 t447.length co29] 26 (0, 0)) (by (with_reducible repeat (first | refine blk_drewN ?_ _ | refine blk_drew ?_ | refine blk_alloc ?_ _)); exact BK450.out) hb)
            have n7_ := Aside0.mk (blk_below (g := gb456) (o := .cells #[.int .i64 t451, .slice Ao36 t452.length co36] 26 (0, 0)) (by (with_reducible repeat (first | refine blk_drewN ?_ _ | refine blk_drew ?_ | refine blk_alloc ?_ _)); exact BK456.out) hb)
            have n8_ := Aside0.mk (below_step (by repeat (first | (with_reducible first | exact HB.out | apply below_alloc | apply pw_below_drewN | apply below_drew1 | refine below_set ?_ GE434.out | refine below_set ?_ GE445.out | refine below_set ?_ GE450.out | refine below_set ?_ GE456.out) | exact HB.out)) hb)
            clear HO_446001
            clear HO_451001
            clear HO_457001
            clear BK434
            clear BK445
            clear BK450
            clear BK456
            clear HB
            have HO_446001 := n0_
            have HO_451001 := n1_
            have HO_457001 := n2_
            have HO461 := n3_
            have BK434 := n4_
            have BK445 := n5_
            have BK450 := n6_
            have BK456 := n7_
            have HB := n8_
            clear n0_ n1_ n2_ n3_ n4_ n5_ n6_ n7_ n8_
            (try clear hb)
            (try clear hb2)
            (try clear hk)
            (try clear hi)
            (try clear ho0)
            obtain ⟨Ao63, co63, eo63⟩ := Kd.R_slice HO461.out
            (first | subst eo63 | (injection eo63 with f1_ f2_ f3_; have f4_ := f1_.symm; have f5_ := f3_.symm; clear f1_ f2_ f3_; subst f4_; subst f5_))
            refine hK.out _ _ ⟨(blk_cell BK450.out 0).trans rfl, (blk_cell BK450.out 1).trans rfl, (blk_cell BK434.out 0).trans rfl, (blk_cell BK434.out 1).trans rfl⟩ (fun hHeld => ?_)
            clear hK K
            refine norm_ (a' := ?_) ?_ ?_
            rotate_left
            · show Act.put _ (some 43) _ = _
              simp only [Act.put, List.setIfInBounds_toArray, List.set_cons_zero, List.set_cons_succ, i64_w, i32_w]
              rfl
            refine one_ (i := 3) (N := some 44) #[true, true, true, true, false] rfl rfl (by kernel_rfl) (by decide) (fun K hK => ?_)
            refine goes_ Try.func18 (by kernel_rfl) rfl #[.agg #[.int .i64 t446, .slice Ao29 t447.length co29], .agg #[.int .i64 t458, .slice Ao63 t459.length co63]] (by rfl) rfl rfl (by (try simp only [List.map_toArray, List.map_cons, List.map_nil]); first | done | rfl | (simp only [List.length_drop, List.length_take]; rfl)) ?_
            with_reducible refine (laws_eqLadder.calls kj10 t446 _ _ t447 t458 _ _ t459 true _ ?side1 ?side2 ?side3 ?side4 A57.out).mono ?_
            (case side1 => repeat (first | exact (Kd.R_reads' HO_451001.out).2.2 | (with_reducible refine Kd.C_alloc ?_ _) | (with_reducible refine Kd.C_drewN ?_ _) | (with_reducible refine Kd.C_drew ?_)))
            (case side2 => exact (Kd.R_reads' HO_451001.out).2.1)
            (case side3 => repeat (first | exact (Kd.R_reads' HO461.out).2.2 | (with_reducible refine Kd.C_alloc ?_ _) | (with_reducible refine Kd.C_drewN ?_ _) | (with_reducible refine Kd.C_drew ?_)))
            (case side4 => exact (Kd.R_reads' HO461.out).2.1)
            rintro e w64 ⟨rfl, hb⟩
            refine ⟨_, rfl, ?_⟩
            have n0_ := Aside0.mk (Kd.R_below (by (with_reducible repeat (first | apply Kd.R_alloc | apply Kd.R_drewN | apply Kd.R_drew)); exact HO_446001.out) hb)
            have n1_ := Aside0.mk (Kd.R_below (by (with_reducible repeat (first | apply Kd.R_alloc | apply Kd.R_drewN | apply Kd.R_drew)); exact HO_451001.out) hb)
            have n2_ := Aside0.mk (Kd.R_below (by (with_reducible repeat (first | apply Kd.R_alloc | apply Kd.R_drewN | apply Kd.R_drew)); exact HO_457001.out) hb)
            have n3_ := Aside0.mk (Kd.R_below (by (with_reducible repeat (first | apply Kd.R_alloc | apply Kd.R_drewN | apply Kd.R_drew)); exact HO461.out) hb)
            have n4_ := Aside0.mk (blk_below (g := gb434) (o := .cells #[.int .i64 a0_0, .slice A0_1 l0_1.length c0_1] 24 (0, 0)) (by (with_reducible repeat (first | refine blk_drewN ?_ _ | refine blk_drew ?_ | refine blk_alloc ?_ _)); exact BK434.out) hb)
            have n5_ := Aside0.mk (blk_below (g := gb445) (o := .cells #[.int .i64 t440, .slice Ao22 t441.length co22] 26 (0, 0)) (by (with_reducible repeat (first | refine blk_drewN ?_ _ | refine blk_drew ?_ | refine blk_alloc ?_ _)); exact BK445.out) hb)
            have n6_ := Aside0.mk (blk_below (g := gb450) (o := .cells #[.int .i64 t446, .slice Ao29 t447.length co29] 26 (0, 0)) (by (with_reducible repeat (first | refine blk_drewN ?_ _ | refine blk_drew ?_ | refine blk_alloc ?_ _)); exact BK450.out) hb)
            have n7_ := Aside0.mk (blk_below (g := gb456) (o := .cells #[.int .i64 t451, .slice Ao36 t452.length co36] 26 (0, 0)) (by (with_reducible repeat (first | refine blk_drewN ?_ _ | refine blk_drew ?_ | refine blk_alloc ?_ _)); exact BK456.out) hb)
            have n8_ := Aside0.mk (below_step (by repeat (first | (with_reducible first | exact HB.out | apply below_alloc | apply pw_below_drewN | apply below_drew1 | refine below_set ?_ GE434.out | refine below_set ?_ GE445.out | refine below_set ?_ GE450.out | refine below_set ?_ GE456.out) | exact HB.out)) hb)
            clear HO_446001
            clear HO_451001
            clear HO_457001
            clear HO461
            clear BK434
            clear BK445
            clear BK450
            clear BK456
            clear HB
            have HO_446001 := n0_
            have HO_451001 := n1_
            have HO_457001 := n2_
            have HO461 := n3_
            have BK434 := n4_
            have BK445 := n5_
            have BK450 := n6_
            have BK456 := n7_
            have HB := n8_
            clear n0_ n1_ n2_ n3_ n4_ n5_ n6_ n7_ n8_
            (try clear hb)
            (try clear hb2)
            (try clear hk)
            (try clear hi)
            refine hK.out _ _ ⟨(blk_cell BK450.out 0).trans rfl, (blk_cell BK450.out 1).trans rfl, (blk_cell BK434.out 0).trans rfl, (blk_cell BK434.out 1).trans rfl⟩ (fun hHeld => ?_)
            clear hK K
            refine norm_ (a' := ?_) ?_ ?_
            rotate_left
            · show Act.put _ (some 44) _ = _
              simp only [Act.put, List.setIfInBounds_toArray, List.set_cons_zero, List.set_cons_succ, i64_w, i32_w]
              rfl
            refine pure_ (i := 4) (N := some 45) (v := ?_) (a' := ?_) #[true, true, true, true, true] rfl rfl (by kernel_rfl) (fun _ _ _ h => h) (Or.inl ⟨by rfl, ?_⟩) ?_ ?_
            rotate_left
            · intro w'
              go_simp
              with_reducible rfl
            rotate_left
            · simp only [Act.put, List.setIfInBounds_toArray, List.set_cons_zero, List.set_cons_succ, i64_w, i32_w]
              rfl
            refine done_ (by kernel_rfl) ?_
            have hnb65 := NB450_434.out
            have hnc65 := NB434_450.out
            have hnb66 := NB450_445.out
            have hnc66 := NB445_450.out
            have hnb67 := NB450_456.out
            have hnc67 := NB456_450.out
            have hcz68_0 : w64.cell? ⟨gb450, 0, none⟩ = some (.int .i64 t446) := (blk_cell BK450.out 0).trans rfl
            have hcz68_1 : w64.cell? ⟨gb450, 1, none⟩ = some (.slice Ao29 t447.length co29) := (blk_cell BK450.out 1).trans rfl
            have hfz68_0 := blk_frozen BK450.out 0
            have hfz68_1 := blk_frozen BK450.out 1
            go_upto_region 14 with (first | ((with_reducible refine gate_callee (f := 19) rfl ?_); refine goesL_ (some 48) rfl rfl Try.func19 (by kernel_rfl) rfl #[.agg #[.int .i64 t446, .slice Ao29 t447.length co29], .int .i64 1] rfl (by (try simp only [List.map_toArray, List.map_cons, List.map_nil]); first | done | rfl | (simp only [List.length_drop, List.length_take]; rfl)) ?_; (with_reducible refine (laws_markLadder.calls kj10 t446 (fun k_ => some k_ = (.slice Ao29 t447.length co29 : Value).ownBlock) (.slice Ao29 t447.length co29) t447 1 t463 t464 w _ ?side1 ?side2 A59.out).mono ?_); (case side1 => repeat (first | (with_reducible first | exact HB.out | apply below_alloc | apply pw_below_drewN | apply below_drew1 | refine below_set ?_ GE434.out | refine below_set ?_ GE445.out | refine below_set ?_ GE450.out | refine below_set ?_ GE456.out) | exact HB.out)); (case side2 => exact Kd.R_tight rfl HO_451001.out); rintro e w69 ⟨rfl, hy0, hb, hkp⟩; refine ⟨_, rfl, ?_⟩; have n0_ := Aside0.mk (Kd.R_mono (ok' := fun k_ => some k_ ≠ (.slice Ao29 t447.length co29 : Value).ownBlock ∧ some k_ ≠ (.slice Ao36 t452.length co36 : Value).ownBlock ∧ some k_ ≠ (.slice Ao63 t459.length co63 : Value).ownBlock) (Kd.R_keptB (HO_446001.out) hkp (fun k_ hk_ hs_ => (hk_.1.1) hs_)) (fun k_ hk_ => ⟨hk_.1.1.1, hk_.1.1.2, hk_.1.2⟩)); have n1_ := Aside0.mk (Kd.R_reok rfl hy0 (fun k_ e_ => HO_451001.out.1 k_ e_)); have n2_ := Aside0.mk (Kd.R_mono (ok' := fun k_ => some k_ ≠ (.slice Ao22 t441.length co22 : Value).ownBlock ∧ some k_ ≠ (.slice Ao29 t447.length co29 : Value).ownBlock ∧ some k_ ≠ (.slice Ao63 t459.length co63 : Value).ownBlock) (Kd.R_keptB (HO_457001.out) hkp (fun k_ hk_ hs_ => (hk_.1.2) hs_)) (fun k_ hk_ => ⟨hk_.1.1.1, hk_.1.1.2, hk_.1.2⟩)); have n3_ := Aside0.mk (blk_kept (by (with_reducible repeat (first | refine blk_drewN ?_ _ | refine blk_drew ?_ | refine blk_alloc ?_ _)); exact BK434.out) hkp (fun hs_ => (fun e_ => (Kd.R_ne HO_451001.out BK434.out (by decide)) e_) hs_)); have n4_ := Aside0.mk (blk_kept (by (with_reducible repeat (first | refine blk_drewN ?_ _ | refine blk_drew ?_ | refine blk_alloc ?_ _)); exact BK445.out) hkp (fun hs_ => (fun e_ => (Kd.R_ne HO_451001.out BK445.out (by decide)) e_) hs_)); have n5_ := Aside0.mk (blk_kept (by (with_reducible repeat (first | refine blk_drewN ?_ _ | refine blk_drew ?_ | refine blk_alloc ?_ _)); exact BK450.out) hkp (fun hs_ => (fun e_ => (Kd.R_ne HO_451001.out BK450.out (by decide)) e_) hs_)); have n6_ := Aside0.mk (blk_kept (by (with_reducible repeat (first | refine blk_drewN ?_ _ | refine blk_drew ?_ | refine blk_alloc ?_ _)); exact BK456.out) hkp (fun hs_ => (fun e_ => (Kd.R_ne HO_451001.out BK456.out (by decide)) e_) hs_)); have n7_ := Aside0.mk (Kd.R_mono (ok' := fun k_ => some k_ ≠ (.slice Ao22 t441.length co22 : Value).ownBlock ∧ some k_ ≠ (.slice Ao29 t447.length co29 : Value).ownBlock ∧ some k_ ≠ (.slice Ao36 t452.length co36 : Value).ownBlock) (Kd.R_keptB (HO461.out) hkp (fun k_ hk_ hs_ => (hk_.1.2) hs_)) (fun k_ hk_ => ⟨hk_.1.1.1.2, hk_.1.1.2, hk_.1.2⟩)); have n8_ := Aside0.mk (hb); clear HO_446001; clear HO_451001; clear HO_457001; clear BK434; clear BK445; clear BK450; clear BK456; clear HO461; clear HB; have HO_446001 := n0_; have HO_451001 := n1_; have HO_457001 := n2_; have BK434 := n3_; have BK445 := n4_; have BK450 := n5_; have BK456 := n6_; have HO461 := n7_; have HB := n8_; clear n0_ n1_ n2_ n3_ n4_ n5_ n6_ n7_ n8_; (try clear hb); (try clear hkp); (try clear hy0)))
            (try simp only [Act.put, List.setIfInBounds_toArray, List.set_cons_zero, List.set_cons_succ])
            go_cut [61] (fun v61 wc => ∃ (kq : Nat) (x61_59 : Bool), v61 = .bool x61_59 ∧ Aside0 (laws_FnExactReduceLadder.j1 kq t444 x61_59 a0_0 l0_1 t440 t441 t451 t452 = some r) ∧ Aside0 (kq ≤ kj10) ∧ Aside0 (Kd.R (Kd.int .i64) 3 wc w.heap.size (fun k_ => some k_ ≠ ((.slice Ao29 t447.length co29) : Value).ownBlock ∧ some k_ ≠ ((.slice Ao36 t452.length co36) : Value).ownBlock) (.slice Ao22 t441.length co22) t441) ∧ Aside0 (Kd.R (Kd.int .i64) 3 wc w.heap.size (fun k_ => some k_ ≠ ((.slice Ao22 t441.length co22) : Value).ownBlock ∧ some k_ ≠ ((.slice Ao36 t452.length co36) : Value).ownBlock) (.slice Ao29 t447.length co29) t464) ∧ Aside0 (Kd.R (Kd.int .i64) 3 wc w.heap.size (fun k_ => some k_ ≠ ((.slice Ao22 t441.length co22) : Value).ownBlock ∧ some k_ ≠ ((.slice Ao29 t447.length co29) : Value).ownBlock) (.slice Ao36 t452.length co36) t452) ∧ Aside0 (wc.heap[gb434]? = some (.cells #[.int .i64 a0_0, (.slice A0_1 l0_1.length c0_1)] 24 (0, 0))) ∧ Aside0 (wc.heap[gb445]? = some (.cells #[.int .i64 t440, (.slice Ao22 t441.length co22)] 26 (0, 0))) ∧ Aside0 (wc.heap[gb450]? = some (.cells #[.int .i64 t446, (.slice Ao29 t447.length co29)] 26 (0, 0))) ∧ Aside0 (wc.heap[gb456]? = some (.cells #[.int .i64 t451, (.slice Ao36 t452.length co36)] 26 (0, 0))) ∧ Aside0 (Below w.heap.size w wc))
            case first =>
              have H := HC60.out
              clear HC60
              by_cases c70 : t463 < 0
              · rw [if_pos c70] at H
                have c70b0 : decide (t463 < 0) = true := decide_eq_true c70
                clear c70
                (first | rw [c70b0] | (simp only [i64_w, i32_w]; rw [c70b0]) | skip)
                have H' := Aside0.mk H
                clear H
                go_wp2
                go_meet
                case rel => exact ⟨_, (true), (by first | rfl | (simp; done) | (simp [*]; done)), H', ⟨by have := HJ10.out; first | omega | exact Nat.le_refl _⟩, ⟨by (with_reducible repeat (first | apply Kd.R_alloc | apply Kd.R_drewN | apply Kd.R_drew)); exact Kd.R_mono HO_446001.out (fun _ hk => ⟨hk.1, hk.2.1⟩)⟩, ⟨by (with_reducible repeat (first | apply Kd.R_alloc | apply Kd.R_drewN | apply Kd.R_drew)); exact Kd.R_mono HO_451001.out (fun _ hk => ⟨hk.1.1, hk.1.2⟩)⟩, ⟨by (with_reducible repeat (first | apply Kd.R_alloc | apply Kd.R_drewN | apply Kd.R_drew)); exact Kd.R_mono HO_457001.out (fun _ hk => ⟨hk.1, hk.2.1⟩)⟩, ⟨by (with_reducible repeat (first | refine blk_drewN ?_ _ | refine blk_drew ?_ | refine blk_alloc ?_ _)); exact BK434.out⟩, ⟨by (with_reducible repeat (first | refine blk_drewN ?_ _ | refine blk_drew ?_ | refine blk_alloc ?_ _)); exact BK445.out⟩, ⟨by (with_reducible repeat (first | refine blk_drewN ?_ _ | refine blk_drew ?_ | refine blk_alloc ?_ _)); exact BK450.out⟩, ⟨by (with_reducible repeat (first | refine blk_drewN ?_ _ | refine blk_drew ?_ | refine blk_alloc ?_ _)); exact BK456.out⟩, ⟨by repeat (first | (with_reducible first | exact HB.out | apply below_alloc | apply pw_below_drewN | apply below_drew1 | refine below_set ?_ GE434.out | refine below_set ?_ GE445.out | refine below_set ?_ GE450.out | refine below_set ?_ GE456.out) | exact HB.out)⟩⟩
              · rw [if_neg c70] at H
                have c70b0 : decide (t463 < 0) = false := decide_eq_false c70
                clear c70
                (first | rw [c70b0] | (simp only [i64_w, i32_w]; rw [c70b0]) | skip)
                replace H := Option.bind_eq_some_iff.mp H
                obtain ⟨t465, A710, H⟩ := H
                replace H : (if t465 = true then (laws_FnExactReduceLadder.j1 kj10 t444 (t455 != t444) a0_0 l0_1 t440 t441 t451 t452) else (laws_FnExactReduceLadder.j1 kj10 t444 true a0_0 l0_1 t440 t441 t451 t452)) = some r := H
                have A71 := Aside0.mk A710
                clear A710
                by_cases c72 : t465 = true
                · subst c72
                  have H1 : (laws_FnExactReduceLadder.j1 kj10 t444 (t455 != t444) a0_0 l0_1 t440 t441 t451 t452) = some r := by rw [if_pos rfl] at H; exact H
                  clear H
                  have H := H1
                  clear H1
                  have H' := Aside0.mk H
                  clear H
                  have hnb73 := NB456_434.out
                  have hnc73 := NB434_456.out
                  have hnb74 := NB456_445.out
                  have hnc74 := NB445_456.out
                  have hnb75 := NB456_450.out
                  have hnc75 := NB450_456.out
                  have hcz76_0 : w69.cell? ⟨gb456, 0, none⟩ = some (.int .i64 t451) := (blk_cell BK456.out 0).trans rfl
                  have hcz76_1 : w69.cell? ⟨gb456, 1, none⟩ = some (.slice Ao36 t452.length co36) := (blk_cell BK456.out 1).trans rfl
                  have hfz76_0 := blk_frozen BK456.out 0
                  have hfz76_1 := blk_frozen BK456.out 1
                  have hnb77 := NB445_434.out
                  have hnc77 := NB434_445.out
                  have hnb78 := NB445_450.out
                  have hnc78 := NB450_445.out
                  have hcz79_0 : w69.cell? ⟨gb445, 0, none⟩ = some (.int .i64 t440) := (blk_cell BK445.out 0).trans rfl
                  have hcz79_1 : w69.cell? ⟨gb445, 1, none⟩ = some (.slice Ao22 t441.length co22) := (blk_cell BK445.out 1).trans rfl
                  have hfz79_0 := blk_frozen BK445.out 0
                  have hfz79_1 := blk_frozen BK445.out 1
                  go_wp2_with (first | (go_at_call 18; (with_reducible refine (laws_eqLadder.calls kj10 t451 _ _ t452 t440 _ _ t441 true _ ?side1 ?side2 ?side3 ?side4 A71.out).mono ?_); (case side1 => repeat (first | exact (Kd.R_reads' HO_457001.out).2.2 | (with_reducible refine Kd.C_alloc ?_ _) | (with_reducible refine Kd.C_drewN ?_ _) | (with_reducible refine Kd.C_drew ?_))); (case side2 => exact (Kd.R_reads' HO_457001.out).2.1); (case side3 => repeat (first | exact (Kd.R_reads' HO_446001.out).2.2 | (with_reducible refine Kd.C_alloc ?_ _) | (with_reducible refine Kd.C_drewN ?_ _) | (with_reducible refine Kd.C_drew ?_))); (case side4 => exact (Kd.R_reads' HO_446001.out).2.1); rintro e w80 ⟨rfl, hb⟩; have n0_ := Aside0.mk (Kd.R_below (by (with_reducible repeat (first | apply Kd.R_alloc | apply Kd.R_drewN | apply Kd.R_drew)); exact HO_446001.out) hb); have n1_ := Aside0.mk (Kd.R_below (by (with_reducible repeat (first | apply Kd.R_alloc | apply Kd.R_drewN | apply Kd.R_drew)); exact HO_451001.out) hb); have n2_ := Aside0.mk (Kd.R_below (by (with_reducible repeat (first | apply Kd.R_alloc | apply Kd.R_drewN | apply Kd.R_drew)); exact HO_457001.out) hb); have n3_ := Aside0.mk (Kd.R_below (by (with_reducible repeat (first | apply Kd.R_alloc | apply Kd.R_drewN | apply Kd.R_drew)); exact HO461.out) hb); have n4_ := Aside0.mk (blk_below (g := gb434) (o := .cells #[.int .i64 a0_0, .slice A0_1 l0_1.length c0_1] 24 (0, 0)) (by (with_reducible repeat (first | refine blk_drewN ?_ _ | refine blk_drew ?_ | refine blk_alloc ?_ _)); exact BK434.out) hb); have n5_ := Aside0.mk (blk_below (g := gb445) (o := .cells #[.int .i64 t440, .slice Ao22 t441.length co22] 26 (0, 0)) (by (with_reducible repeat (first | refine blk_drewN ?_ _ | refine blk_drew ?_ | refine blk_alloc ?_ _)); exact BK445.out) hb); have n6_ := Aside0.mk (blk_below (g := gb450) (o := .cells #[.int .i64 t446, .slice Ao29 t447.length co29] 26 (0, 0)) (by (with_reducible repeat (first | refine blk_drewN ?_ _ | refine blk_drew ?_ | refine blk_alloc ?_ _)); exact BK450.out) hb); have n7_ := Aside0.mk (blk_below (g := gb456) (o := .cells #[.int .i64 t451, .slice Ao36 t452.length co36] 26 (0, 0)) (by (with_reducible repeat (first | refine blk_drewN ?_ _ | refine blk_drew ?_ | refine blk_alloc ?_ _)); exact BK456.out) hb); have n8_ := Aside0.mk (below_step (by repeat (first | (with_reducible first | exact HB.out | apply below_alloc | apply pw_below_drewN | apply below_drew1 | refine below_set ?_ GE434.out | refine below_set ?_ GE445.out | refine below_set ?_ GE450.out | refine below_set ?_ GE456.out) | exact HB.out)) hb); clear HO_446001; clear HO_451001; clear HO_457001; clear HO461; clear BK434; clear BK445; clear BK450; clear BK456; clear HB; have HO_446001 := n0_; have HO_451001 := n1_; have HO_457001 := n2_; have HO461 := n3_; have BK434 := n4_; have BK445 := n5_; have BK450 := n6_; have BK456 := n7_; have HB := n8_; clear n0_ n1_ n2_ n3_ n4_ n5_ n6_ n7_ n8_; (try clear hb); (try clear hb2); (try clear hk); (try clear hi)))
                  go_meet
                  case rel => exact ⟨_, ((t455 != t444)), (by first | rfl | (simp; done) | (simp [*]; done)), H', ⟨by have := HJ10.out; first | omega | exact Nat.le_refl _⟩, ⟨by (with_reducible repeat (first | apply Kd.R_alloc | apply Kd.R_drewN | apply Kd.R_drew)); exact Kd.R_mono HO_446001.out (fun _ hk => ⟨hk.1, hk.2.1⟩)⟩, ⟨by (with_reducible repeat (first | apply Kd.R_alloc | apply Kd.R_drewN | apply Kd.R_drew)); exact Kd.R_mono HO_451001.out (fun _ hk => ⟨hk.1.1, hk.1.2⟩)⟩, ⟨by (with_reducible repeat (first | apply Kd.R_alloc | apply Kd.R_drewN | apply Kd.R_drew)); exact Kd.R_mono HO_457001.out (fun _ hk => ⟨hk.1, hk.2.1⟩)⟩, ⟨by (with_reducible repeat (first | refine blk_drewN ?_ _ | refine blk_drew ?_ | refine blk_alloc ?_ _)); exact BK434.out⟩, ⟨by (with_reducible repeat (first | refine blk_drewN ?_ _ | refine blk_drew ?_ | refine blk_alloc ?_ _)); exact BK445.out⟩, ⟨by (with_reducible repeat (first | refine blk_drewN ?_ _ | refine blk_drew ?_ | refine blk_alloc ?_ _)); exact BK450.out⟩, ⟨by (with_reducible repeat (first | refine blk_drewN ?_ _ | refine blk_drew ?_ | refine blk_alloc ?_ _)); exact BK456.out⟩, ⟨by repeat (first | (with_reducible first | exact HB.out | apply below_alloc | apply pw_below_drewN | apply below_drew1 | refine below_set ?_ GE434.out | refine below_set ?_ GE445.out | refine below_set ?_ GE450.out | refine below_set ?_ GE456.out) | exact HB.out)⟩⟩
                · replace c72 := Bool.eq_false_iff.mpr c72
                  subst c72
                  have H1 : (laws_FnExactReduceLadder.j1 kj10 t444 true a0_0 l0_1 t440 t441 t451 t452) = some r := by rw [if_neg (show ¬ (false = true) by decide)] at H; exact H
                  clear H
                  have H := H1
                  clear H1
                  have H' := Aside0.mk H
                  clear H
                  have hnb81 := NB456_434.out
                  have hnc81 := NB434_456.out
                  have hnb82 := NB456_445.out
                  have hnc82 := NB445_456.out
                  have hnb83 := NB456_450.out
                  have hnc83 := NB450_456.out
                  have hcz84_0 : w69.cell? ⟨gb456, 0, none⟩ = some (.int .i64 t451) := (blk_cell BK456.out 0).trans rfl
                  have hcz84_1 : w69.cell? ⟨gb456, 1, none⟩ = some (.slice Ao36 t452.length co36) := (blk_cell BK456.out 1).trans rfl
                  have hfz84_0 := blk_frozen BK456.out 0
                  have hfz84_1 := blk_frozen BK456.out 1
                  have hnb85 := NB445_434.out
                  have hnc85 := NB434_445.out
                  have hnb86 := NB445_450.out
                  have hnc86 := NB450_445.out
                  have hcz87_0 : w69.cell? ⟨gb445, 0, none⟩ = some (.int .i64 t440) := (blk_cell BK445.out 0).trans rfl
                  have hcz87_1 : w69.cell? ⟨gb445, 1, none⟩ = some (.slice Ao22 t441.length co22) := (blk_cell BK445.out 1).trans rfl
                  have hfz87_0 := blk_frozen BK445.out 0
                  have hfz87_1 := blk_frozen BK445.out 1
                  go_wp2_with (first | (go_at_call 18; (with_reducible refine (laws_eqLadder.calls kj10 t451 _ _ t452 t440 _ _ t441 false _ ?side1 ?side2 ?side3 ?side4 A71.out).mono ?_); (case side1 => repeat (first | exact (Kd.R_reads' HO_457001.out).2.2 | (with_reducible refine Kd.C_alloc ?_ _) | (with_reducible refine Kd.C_drewN ?_ _) | (with_reducible refine Kd.C_drew ?_))); (case side2 => exact (Kd.R_reads' HO_457001.out).2.1); (case side3 => repeat (first | exact (Kd.R_reads' HO_446001.out).2.2 | (with_reducible refine Kd.C_alloc ?_ _) | (with_reducible refine Kd.C_drewN ?_ _) | (with_reducible refine Kd.C_drew ?_))); (case side4 => exact (Kd.R_reads' HO_446001.out).2.1); rintro e w88 ⟨rfl, hb⟩; have n0_ := Aside0.mk (Kd.R_below (by (with_reducible repeat (first | apply Kd.R_alloc | apply Kd.R_drewN | apply Kd.R_drew)); exact HO_446001.out) hb); have n1_ := Aside0.mk (Kd.R_below (by (with_reducible repeat (first | apply Kd.R_alloc | apply Kd.R_drewN | apply Kd.R_drew)); exact HO_451001.out) hb); have n2_ := Aside0.mk (Kd.R_below (by (with_reducible repeat (first | apply Kd.R_alloc | apply Kd.R_drewN | apply Kd.R_drew)); exact HO_457001.out) hb); have n3_ := Aside0.mk (Kd.R_below (by (with_reducible repeat (first | apply Kd.R_alloc | apply Kd.R_drewN | apply Kd.R_drew)); exact HO461.out) hb); have n4_ := Aside0.mk (blk_below (g := gb434) (o := .cells #[.int .i64 a0_0, .slice A0_1 l0_1.length c0_1] 24 (0, 0)) (by (with_reducible repeat (first | refine blk_drewN ?_ _ | refine blk_drew ?_ | refine blk_alloc ?_ _)); exact BK434.out) hb); have n5_ := Aside0.mk (blk_below (g := gb445) (o := .cells #[.int .i64 t440, .slice Ao22 t441.length co22] 26 (0, 0)) (by (with_reducible repeat (first | refine blk_drewN ?_ _ | refine blk_drew ?_ | refine blk_alloc ?_ _)); exact BK445.out) hb); have n6_ := Aside0.mk (blk_below (g := gb450) (o := .cells #[.int .i64 t446, .slice Ao29 t447.length co29] 26 (0, 0)) (by (with_reducible repeat (first | refine blk_drewN ?_ _ | refine blk_drew ?_ | refine blk_alloc ?_ _)); exact BK450.out) hb); have n7_ := Aside0.mk (blk_below (g := gb456) (o := .cells #[.int .i64 t451, .slice Ao36 t452.length co36] 26 (0, 0)) (by (with_reducible repeat (first | refine blk_drewN ?_ _ | refine blk_drew ?_ | refine blk_alloc ?_ _)); exact BK456.out) hb); have n8_ := Aside0.mk (below_step (by repeat (first | (with_reducible first | exact HB.out | apply below_alloc | apply pw_below_drewN | apply below_drew1 | refine below_set ?_ GE434.out | refine below_set ?_ GE445.out | refine below_set ?_ GE450.out | refine below_set ?_ GE456.out) | exact HB.out)) hb); clear HO_446001; clear HO_451001; clear HO_457001; clear HO461; clear BK434; clear BK445; clear BK450; clear BK456; clear HB; have HO_446001 := n0_; have HO_451001 := n1_; have HO_457001 := n2_; have HO461 := n3_; have BK434 := n4_; have BK445 := n5_; have BK450 := n6_; have BK456 := n7_; have HB := n8_; clear n0_ n1_ n2_ n3_ n4_ n5_ n6_ n7_ n8_; (try clear hb); (try clear hb2); (try clear hk); (try clear hi)))
                  go_meet
                  case rel => exact ⟨_, (true), (by first | rfl | (simp; done) | (simp [*]; done)), H', ⟨by have := HJ10.out; first | omega | exact Nat.le_refl _⟩, ⟨by (with_reducible repeat (first | apply Kd.R_alloc | apply Kd.R_drewN | apply Kd.R_drew)); exact Kd.R_mono HO_446001.out (fun _ hk => ⟨hk.1, hk.2.1⟩)⟩, ⟨by (with_reducible repeat (first | apply Kd.R_alloc | apply Kd.R_drewN | apply Kd.R_drew)); exact Kd.R_mono HO_451001.out (fun _ hk => ⟨hk.1.1, hk.1.2⟩)⟩, ⟨by (with_reducible repeat (first | apply Kd.R_alloc | apply Kd.R_drewN | apply Kd.R_drew)); exact Kd.R_mono HO_457001.out (fun _ hk => ⟨hk.1, hk.2.1⟩)⟩, ⟨by (with_reducible repeat (first | refine blk_drewN ?_ _ | refine blk_drew ?_ | refine blk_alloc ?_ _)); exact BK434.out⟩, ⟨by (with_reducible repeat (first | refine blk_drewN ?_ _ | refine blk_drew ?_ | refine blk_alloc ?_ _)); exact BK445.out⟩, ⟨by (with_reducible repeat (first | refine blk_drewN ?_ _ | refine blk_drew ?_ | refine blk_alloc ?_ _)); exact BK450.out⟩, ⟨by (with_reducible repeat (first | refine blk_drewN ?_ _ | refine blk_drew ?_ | refine blk_alloc ?_ _)); exact BK456.out⟩, ⟨by repeat (first | (with_reducible first | exact HB.out | apply below_alloc | apply pw_below_drewN | apply below_drew1 | refine below_set ?_ GE434.out | refine below_set ?_ GE445.out | refine below_set ?_ GE450.out | refine below_set ?_ GE456.out) | exact HB.out)⟩⟩
            case rest =>
              clear HC60
              try clear c1
              try clear c2
              try clear p2
              try clear c3
              try clear c3b0
              try clear c4
              try clear c5
              try clear c6
              try clear c7
              try clear c8
              try clear c14
              try clear c16
              try clear c18
              try clear c19
              try clear c20
              try clear c26
              try clear c27
              try clear c28
              try clear c29
              try clear c32
              try clear c33
              try clear c34
              try clear c38
              try clear c39
              try clear c40
              try clear c41
              try clear c43
              try clear c44
              try clear c47
              try clear c48
              try clear c49
              try clear c51
              try clear c52
              try clear c55
              try clear c58
              try clear c65
              try clear c66
              try clear c67
              try clear c70
              try clear c70b0
              try clear c72
              try clear c73
              try clear c74
              try clear c75
              try clear c77
              try clear c78
              try clear c81
              try clear c82
              try clear c83
              try clear c85
              try clear c86
              try clear hcz13_0
              try clear hcz13_1
              try clear hcz15_0
              try clear hcz15_1
              try clear hcz21_0
              try clear hcz21_1
              try clear hcz23_0
              try clear hcz23_1
              try clear hcz28_0
              try clear hcz28_1
              try clear hcz35_0
              try clear hcz35_1
              try clear hcz42_0
              try clear hcz42_1
              try clear hcz45_0
              try clear hcz45_1
              try clear hcz50_0
              try clear hcz50_1
              try clear hcz53_0
              try clear hcz53_1
              try clear hcz5_0
              try clear hcz5_1
              try clear hcz68_0
              try clear hcz68_1
              try clear hcz76_0
              try clear hcz76_1
              try clear hcz79_0
              try clear hcz79_1
              try clear hcz84_0
              try clear hcz84_1
              try clear hcz87_0
              try clear hcz87_1
              try clear hfz13_0
              try clear hfz13_1
              try clear hfz15_0
              try clear hfz15_1
              try clear hfz21_0
              try clear hfz21_1
              try clear hfz23_0
              try clear hfz23_1
              try clear hfz28_0
              try clear hfz28_1
              try clear hfz35_0
              try clear hfz35_1
              try clear hfz42_0
              try clear hfz42_1
              try clear hfz45_0
              try clear hfz45_1
              try clear hfz50_0
              try clear hfz50_1
              try clear hfz53_0
              try clear hfz53_1
              try clear hfz5_0
              try clear hfz5_1
              try clear hfz68_0
              try clear hfz68_1
              try clear hfz76_0
              try clear hfz76_1
              try clear hfz79_0
              try clear hfz79_1
              try clear hfz84_0
              try clear hfz84_1
              try clear hfz87_0
              try clear hfz87_1
              try clear p2
              obtain ⟨kq, x61_59, rfl, HA, HJ59, HO_446001, HO_451001, HO_457001, BK434, BK445, BK450, BK456, HB⟩ := hcut
              have hl451001_59 := (Kd.R_reads' HO_451001.out).1
              rw [hl451001_59] at HO_451001
              (try simp only [hl451001_59])
              (try simp only [hl451001_59] at BK434)
              (try simp only [hl451001_59] at BK445)
              (try simp only [hl451001_59] at BK450)
              (try simp only [hl451001_59] at BK456)
              (try simp only [hl451001_59] at HO_446001)
              (try simp only [hl451001_59] at HO_457001)
              cases kq with
              | zero => exact absurd HA.out (by simp [laws_FnExactReduceLadder.j1])
              | succ kj59 =>
                have H := HA.out
                clear HA
                simp only [laws_FnExactReduceLadder.j1] at H
                by_cases c89 : x61_59 = true
                · subst c89
                  have H1 : (some false) = some r := by rw [if_pos rfl] at H; exact H
                  clear H
                  have H := H1
                  clear H1
                  obtain rfl := Option.some.inj H
                  go_wp2
                  go_ret
                  exact ⟨by first | rfl | (simp [errW_none, errW_some] <;> rfl) | (simp [*, errW_none, errW_some] <;> rfl), by repeat (first | (with_reducible first | exact HB.out | apply below_alloc | apply pw_below_drewN | apply below_drew1 | refine below_set ?_ GE434.out | refine below_set ?_ GE445.out | refine below_set ?_ GE450.out | refine below_set ?_ GE456.out) | exact HB.out)⟩
                · replace c89 := Bool.eq_false_iff.mpr c89
                  subst c89
                  have H1 : ((laws_markLadder.f kj59 t451 t452 1).bind fun bt466 => ((laws_heldLadder.f kj59 t451 bt466.2 1).bind fun t468 => (if t468 < 0 then (some false) else (if t468 = bt466.1 then ((laws_toLadder.f kj59 a0_0 l0_1).bind fun bt469 => ((impl_ReduceLadder.f kj59 bt469.1 bt469.2).bind fun bt473 => ((laws_eqLadder.f kj59 bt473.1 bt473.2.1 t440 t441).bind fun t479 => (if t479 = true then (laws_FnExactReduceLadder.j2 kj59 bt466.1 (bt473.2.2 != t444) t451 bt466.2) else (laws_FnExactReduceLadder.j2 kj59 bt466.1 true t451 bt466.2))))) else (some false))))) = some r := by rw [if_neg (show ¬ (false = true) by decide)] at H; exact H
                  clear H
                  have H := H1
                  clear H1
                  replace H := Option.bind_eq_some_iff.mp H
                  obtain ⟨⟨t466, t467⟩, A900, H⟩ := H
                  replace H : ((laws_heldLadder.f kj59 t451 t467 1).bind fun t468 => (if t468 < 0 then (some false) else (if t468 = t466 then ((laws_toLadder.f kj59 a0_0 l0_1).bind fun bt469 => ((impl_ReduceLadder.f kj59 bt469.1 bt469.2).bind fun bt473 => ((laws_eqLadder.f kj59 bt473.1 bt473.2.1 t440 t441).bind fun t479 => (if t479 = true then (laws_FnExactReduceLadder.j2 kj59 t466 (bt473.2.2 != t444) t451 t467) else (laws_FnExactReduceLadder.j2 kj59 t466 true t451 t467))))) else (some false)))) = some r := H
                  have A90 := Aside0.mk A900
                  clear A900
                  replace H := Option.bind_eq_some_iff.mp H
                  obtain ⟨t468, A910, H⟩ := H
                  replace H : (if t468 < 0 then (some false) else (if t468 = t466 then ((laws_toLadder.f kj59 a0_0 l0_1).bind fun bt469 => ((impl_ReduceLadder.f kj59 bt469.1 bt469.2).bind fun bt473 => ((laws_eqLadder.f kj59 bt473.1 bt473.2.1 t440 t441).bind fun t479 => (if t479 = true then (laws_FnExactReduceLadder.j2 kj59 t466 (bt473.2.2 != t444) t451 t467) else (laws_FnExactReduceLadder.j2 kj59 t466 true t451 t467))))) else (some false))) = some r := H
                  have A91 := Aside0.mk A910
                  clear A910
                  by_cases c92 : t468 < 0
                  · rw [if_pos c92] at H
                    have c92b0 : decide (t468 < 0) = true := decide_eq_true c92
                    clear c92
                    obtain rfl := Option.some.inj H
                    have hnb93 := NB456_434.out
                    have hnc93 := NB434_456.out
                    have hnb94 := NB456_445.out
                    have hnc94 := NB445_456.out
                    have hnb95 := NB456_450.out
                    have hnc95 := NB450_456.out
                    have hcz96_0 : wc.cell? ⟨gb456, 0, none⟩ = some (.int .i64 t451) := (blk_cell BK456.out 0).trans rfl
                    have hcz96_1 : wc.cell? ⟨gb456, 1, none⟩ = some (.slice Ao36 t452.length co36) := (blk_cell BK456.out 1).trans rfl
                    have hfz96_0 := blk_frozen BK456.out 0
                    have hfz96_1 := blk_frozen BK456.out 1
                    go_wp2_with (first | ((with_reducible refine gate_callee (f := 19) rfl ?_); refine goesL_ (some 64) rfl rfl Try.func19 (by kernel_rfl) rfl #[.agg #[.int .i64 t451, .slice Ao36 t452.length co36], .int .i64 1] rfl (by (try simp only [List.map_toArray, List.map_cons, List.map_nil]); first | done | rfl | (simp only [List.length_drop, List.length_take]; rfl)) ?_; (with_reducible refine (laws_markLadder.calls kj59 t451 (fun k_ => some k_ = (.slice Ao36 t452.length co36 : Value).ownBlock) (.slice Ao36 t452.length co36) t452 1 t466 t467 w _ ?side1 ?side2 A90.out).mono ?_); (case side1 => repeat (first | (with_reducible first | exact HB.out | apply below_alloc | apply pw_below_drewN | apply below_drew1 | refine below_set ?_ GE434.out | refine below_set ?_ GE445.out | refine below_set ?_ GE450.out | refine below_set ?_ GE456.out) | exact HB.out)); (case side2 => exact Kd.R_tight rfl HO_457001.out); rintro e w97 ⟨rfl, hy0, hb, hkp⟩; refine ⟨_, rfl, ?_⟩; have n0_ := Aside0.mk (Kd.R_mono (ok' := fun k_ => some k_ ≠ (.slice Ao29 t464.length co29 : Value).ownBlock ∧ some k_ ≠ (.slice Ao36 t452.length co36 : Value).ownBlock) (Kd.R_keptB (HO_446001.out) hkp (fun k_ hk_ hs_ => (hk_.2) hs_)) (fun k_ hk_ => ⟨hk_.1.1, hk_.1.2⟩)); have n1_ := Aside0.mk (Kd.R_mono (ok' := fun k_ => some k_ ≠ (.slice Ao22 t441.length co22 : Value).ownBlock ∧ some k_ ≠ (.slice Ao36 t452.length co36 : Value).ownBlock) (Kd.R_keptB (HO_451001.out) hkp (fun k_ hk_ hs_ => (hk_.2) hs_)) (fun k_ hk_ => ⟨hk_.1.1, hk_.1.2⟩)); have n2_ := Aside0.mk (Kd.R_reok rfl hy0 (fun k_ e_ => HO_457001.out.1 k_ e_)); have n3_ := Aside0.mk (blk_kept (by (with_reducible repeat (first | refine blk_drewN ?_ _ | refine blk_drew ?_ | refine blk_alloc ?_ _)); exact BK434.out) hkp (fun hs_ => (fun e_ => (Kd.R_ne HO_457001.out BK434.out (by decide)) e_) hs_)); have n4_ := Aside0.mk (blk_kept (by (with_reducible repeat (first | refine blk_drewN ?_ _ | refine blk_drew ?_ | refine blk_alloc ?_ _)); exact BK445.out) hkp (fun hs_ => (fun e_ => (Kd.R_ne HO_457001.out BK445.out (by decide)) e_) hs_)); have n5_ := Aside0.mk (blk_kept (by (with_reducible repeat (first | refine blk_drewN ?_ _ | refine blk_drew ?_ | refine blk_alloc ?_ _)); exact BK450.out) hkp (fun hs_ => (fun e_ => (Kd.R_ne HO_457001.out BK450.out (by decide)) e_) hs_)); have n6_ := Aside0.mk (blk_kept (by (with_reducible repeat (first | refine blk_drewN ?_ _ | refine blk_drew ?_ | refine blk_alloc ?_ _)); exact BK456.out) hkp (fun hs_ => (fun e_ => (Kd.R_ne HO_457001.out BK456.out (by decide)) e_) hs_)); have n7_ := Aside0.mk (hb); clear HO_446001; clear HO_451001; clear HO_457001; clear BK434; clear BK445; clear BK450; clear BK456; clear HB; have HO_446001 := n0_; have HO_451001 := n1_; have HO_457001 := n2_; have BK434 := n3_; have BK445 := n4_; have BK450 := n5_; have BK456 := n6_; have HB := n7_; clear n0_ n1_ n2_ n3_ n4_ n5_ n6_ n7_; (try clear hb); (try clear hkp); (try clear hy0); have hcz98_0 : w97.cell? ⟨gb456, 0, none⟩ = some (.int .i64 t451) := (blk_cell BK456.out 0).trans rfl; have hcz98_1 : w97.cell? ⟨gb456, 1, none⟩ = some (.slice Ao36 t452.length co36) := (blk_cell BK456.out 1).trans rfl; have hfz98_0 := blk_frozen BK456.out 0; have hfz98_1 := blk_frozen BK456.out 1) | ((with_reducible refine gate_callee (f := 20) rfl ?_); refine goesL_ (some 67) rfl rfl Try.func20 (by kernel_rfl) rfl #[.agg #[.int .i64 t451, .slice Ao36 t467.length co36], .int .i64 1] rfl (by (try simp only [List.map_toArray, List.map_cons, List.map_nil]); first | done | (rw [show t467.length = t452.length from (Kd.R_reads' HO_457001.out).1.symm] <;> rfl) | rfl | (simp only [List.length_drop, List.length_take]; rfl)) ?_; (with_reducible refine (laws_heldLadder.calls kj59 t451 _ _ t467 1 t468 _ ?side1 ?side2 A91.out).mono ?_); (case side1 => repeat (first | exact (Kd.R_reads' HO_457001.out).2.2 | (with_reducible refine Kd.C_alloc ?_ _) | (with_reducible refine Kd.C_drewN ?_ _) | (with_reducible refine Kd.C_drew ?_))); (case side2 => rw [show t467.length = t452.length from (Kd.R_reads' HO_457001.out).1.symm]; exact (Kd.R_reads' HO_457001.out).2.1); rintro e w99 ⟨rfl, hb⟩; refine ⟨_, rfl, ?_⟩; have n0_ := Aside0.mk (Kd.R_below (by (with_reducible repeat (first | apply Kd.R_alloc | apply Kd.R_drewN | apply Kd.R_drew)); exact HO_446001.out) hb); have n1_ := Aside0.mk (Kd.R_below (by (with_reducible repeat (first | apply Kd.R_alloc | apply Kd.R_drewN | apply Kd.R_drew)); exact HO_451001.out) hb); have n2_ := Aside0.mk (Kd.R_below (by (with_reducible repeat (first | apply Kd.R_alloc | apply Kd.R_drewN | apply Kd.R_drew)); exact HO_457001.out) hb); have n3_ := Aside0.mk (blk_below (g := gb434) (o := .cells #[.int .i64 a0_0, .slice A0_1 l0_1.length c0_1] 24 (0, 0)) (by (with_reducible repeat (first | refine blk_drewN ?_ _ | refine blk_drew ?_ | refine blk_alloc ?_ _)); exact BK434.out) hb); have n4_ := Aside0.mk (blk_below (g := gb445) (o := .cells #[.int .i64 t440, .slice Ao22 t441.length co22] 26 (0, 0)) (by (with_reducible repeat (first | refine blk_drewN ?_ _ | refine blk_drew ?_ | refine blk_alloc ?_ _)); exact BK445.out) hb); have n5_ := Aside0.mk (blk_below (g := gb450) (o := .cells #[.int .i64 t446, .slice Ao29 t464.length co29] 26 (0, 0)) (by (with_reducible repeat (first | refine blk_drewN ?_ _ | refine blk_drew ?_ | refine blk_alloc ?_ _)); exact BK450.out) hb); have n6_ := Aside0.mk (blk_below (g := gb456) (o := .cells #[.int .i64 t451, .slice Ao36 t452.length co36] 26 (0, 0)) (by (with_reducible repeat (first | refine blk_drewN ?_ _ | refine blk_drew ?_ | refine blk_alloc ?_ _)); exact BK456.out) hb); have n7_ := Aside0.mk (below_step (by repeat (first | (with_reducible first | exact HB.out | apply below_alloc | apply pw_below_drewN | apply below_drew1 | refine below_set ?_ GE434.out | refine below_set ?_ GE445.out | refine below_set ?_ GE450.out | refine below_set ?_ GE456.out) | exact HB.out)) hb); clear HO_446001; clear HO_451001; clear HO_457001; clear BK434; clear BK445; clear BK450; clear BK456; clear HB; have HO_446001 := n0_; have HO_451001 := n1_; have HO_457001 := n2_; have BK434 := n3_; have BK445 := n4_; have BK450 := n5_; have BK456 := n6_; have HB := n7_; clear n0_ n1_ n2_ n3_ n4_ n5_ n6_ n7_; (try clear hb); (try clear hb2); (try clear hk); (try clear hi)))
                    go_ret
                    exact ⟨by first | rfl | (simp [errW_none, errW_some] <;> rfl) | (simp [*, errW_none, errW_some] <;> rfl), by repeat (first | (with_reducible first | exact HB.out | apply below_alloc | apply pw_below_drewN | apply below_drew1 | refine below_set ?_ GE434.out | refine below_set ?_ GE445.out | refine below_set ?_ GE450.out | refine below_set ?_ GE456.out) | exact HB.out)⟩
                  · rw [if_neg c92] at H
                    have c92b0 : decide (t468 < 0) = false := decide_eq_false c92
                    clear c92
                    by_cases c100 : t468 = t466
                    · rw [if_pos c100] at H
                      have c100b0 : (t468 == t466) = true := beq_iff_eq.mpr c100
                      have c100b1 : (t468 != t466) = false := bne_eq_false_iff_eq.mpr c100
                      clear c100
                      replace H := Option.bind_eq_some_iff.mp H
                      obtain ⟨⟨t469, t470⟩, A1010, H⟩ := H
                      replace H : ((impl_ReduceLadder.f kj59 t469 t470).bind fun bt473 => ((laws_eqLadder.f kj59 bt473.1 bt473.2.1 t440 t441).bind fun t479 => (if t479 = true then (laws_FnExactReduceLadder.j2 kj59 t466 (bt473.2.2 != t444) t451 t467) else (laws_FnExactReduceLadder.j2 kj59 t466 true t451 t467)))) = some r := H
                      have A101 := Aside0.mk A1010
                      clear A1010
                      replace H := Option.bind_eq_some_iff.mp H
                      obtain ⟨⟨t473, t474, t477⟩, A1020, H⟩ := H
                      replace H : ((laws_eqLadder.f kj59 t473 t474 t440 t441).bind fun t479 => (if t479 = true then (laws_FnExactReduceLadder.j2 kj59 t466 (t477 != t444) t451 t467) else (laws_FnExactReduceLadder.j2 kj59 t466 true t451 t467))) = some r := H
                      have A102 := Aside0.mk A1020
                      clear A1020
                      have HC103 := Aside0.mk H
                      clear H
                      have hnb104 := NB456_434.out
                      have hnc104 := NB434_456.out
                      have hnb105 := NB456_445.out
                      have hnc105 := NB445_456.out
                      have hnb106 := NB456_450.out
                      have hnc106 := NB450_456.out
                      have hcz107_0 : wc.cell? ⟨gb456, 0, none⟩ = some (.int .i64 t451) := (blk_cell BK456.out 0).trans rfl
                      have hcz107_1 : wc.cell? ⟨gb456, 1, none⟩ = some (.slice Ao36 t452.length co36) := (blk_cell BK456.out 1).trans rfl
                      have hfz107_0 := blk_frozen BK456.out 0
                      have hfz107_1 := blk_frozen BK456.out 1
                      go_upto_region 25 with (first | ((with_reducible refine gate_callee (f := 19) rfl ?_); refine goesL_ (some 64) rfl rfl Try.func19 (by kernel_rfl) rfl #[.agg #[.int .i64 t451, .slice Ao36 t452.length co36], .int .i64 1] rfl (by (try simp only [List.map_toArray, List.map_cons, List.map_nil]); first | done | rfl | (simp only [List.length_drop, List.length_take]; rfl)) ?_; (with_reducible refine (laws_markLadder.calls kj59 t451 (fun k_ => some k_ = (.slice Ao36 t452.length co36 : Value).ownBlock) (.slice Ao36 t452.length co36) t452 1 t466 t467 w _ ?side1 ?side2 A90.out).mono ?_); (case side1 => repeat (first | (with_reducible first | exact HB.out | apply below_alloc | apply pw_below_drewN | apply below_drew1 | refine below_set ?_ GE434.out | refine below_set ?_ GE445.out | refine below_set ?_ GE450.out | refine below_set ?_ GE456.out) | exact HB.out)); (case side2 => exact Kd.R_tight rfl HO_457001.out); rintro e w108 ⟨rfl, hy0, hb, hkp⟩; refine ⟨_, rfl, ?_⟩; have n0_ := Aside0.mk (Kd.R_mono (ok' := fun k_ => some k_ ≠ (.slice Ao29 t464.length co29 : Value).ownBlock ∧ some k_ ≠ (.slice Ao36 t452.length co36 : Value).ownBlock) (Kd.R_keptB (HO_446001.out) hkp (fun k_ hk_ hs_ => (hk_.2) hs_)) (fun k_ hk_ => ⟨hk_.1.1, hk_.1.2⟩)); have n1_ := Aside0.mk (Kd.R_mono (ok' := fun k_ => some k_ ≠ (.slice Ao22 t441.length co22 : Value).ownBlock ∧ some k_ ≠ (.slice Ao36 t452.length co36 : Value).ownBlock) (Kd.R_keptB (HO_451001.out) hkp (fun k_ hk_ hs_ => (hk_.2) hs_)) (fun k_ hk_ => ⟨hk_.1.1, hk_.1.2⟩)); have n2_ := Aside0.mk (Kd.R_reok rfl hy0 (fun k_ e_ => HO_457001.out.1 k_ e_)); have n3_ := Aside0.mk (blk_kept (by (with_reducible repeat (first | refine blk_drewN ?_ _ | refine blk_drew ?_ | refine blk_alloc ?_ _)); exact BK434.out) hkp (fun hs_ => (fun e_ => (Kd.R_ne HO_457001.out BK434.out (by decide)) e_) hs_)); have n4_ := Aside0.mk (blk_kept (by (with_reducible repeat (first | refine blk_drewN ?_ _ | refine blk_drew ?_ | refine blk_alloc ?_ _)); exact BK445.out) hkp (fun hs_ => (fun e_ => (Kd.R_ne HO_457001.out BK445.out (by decide)) e_) hs_)); have n5_ := Aside0.mk (blk_kept (by (with_reducible repeat (first | refine blk_drewN ?_ _ | refine blk_drew ?_ | refine blk_alloc ?_ _)); exact BK450.out) hkp (fun hs_ => (fun e_ => (Kd.R_ne HO_457001.out BK450.out (by decide)) e_) hs_)); have n6_ := Aside0.mk (blk_kept (by (with_reducible repeat (first | refine blk_drewN ?_ _ | refine blk_drew ?_ | refine blk_alloc ?_ _)); exact BK456.out) hkp (fun hs_ => (fun e_ => (Kd.R_ne HO_457001.out BK456.out (by decide)) e_) hs_)); have n7_ := Aside0.mk (hb); clear HO_446001; clear HO_451001; clear HO_457001; clear BK434; clear BK445; clear BK450; clear BK456; clear HB; have HO_446001 := n0_; have HO_451001 := n1_; have HO_457001 := n2_; have BK434 := n3_; have BK445 := n4_; have BK450 := n5_; have BK456 := n6_; have HB := n7_; clear n0_ n1_ n2_ n3_ n4_ n5_ n6_ n7_; (try clear hb); (try clear hkp); (try clear hy0); have hcz109_0 : w108.cell? ⟨gb456, 0, none⟩ = some (.int .i64 t451) := (blk_cell BK456.out 0).trans rfl; have hcz109_1 : w108.cell? ⟨gb456, 1, none⟩ = some (.slice Ao36 t452.length co36) := (blk_cell BK456.out 1).trans rfl; have hfz109_0 := blk_frozen BK456.out 0; have hfz109_1 := blk_frozen BK456.out 1) | ((with_reducible refine gate_callee (f := 20) rfl ?_); refine goesL_ (some 67) rfl rfl Try.func20 (by kernel_rfl) rfl #[.agg #[.int .i64 t451, .slice Ao36 t467.length co36], .int .i64 1] rfl (by (try simp only [List.map_toArray, List.map_cons, List.map_nil]); first | done | (rw [show t467.length = t452.length from (Kd.R_reads' HO_457001.out).1.symm] <;> rfl) | rfl | (simp only [List.length_drop, List.length_take]; rfl)) ?_; (with_reducible refine (laws_heldLadder.calls kj59 t451 _ _ t467 1 t468 _ ?side1 ?side2 A91.out).mono ?_); (case side1 => repeat (first | exact (Kd.R_reads' HO_457001.out).2.2 | (with_reducible refine Kd.C_alloc ?_ _) | (with_reducible refine Kd.C_drewN ?_ _) | (with_reducible refine Kd.C_drew ?_))); (case side2 => rw [show t467.length = t452.length from (Kd.R_reads' HO_457001.out).1.symm]; exact (Kd.R_reads' HO_457001.out).2.1); rintro e w110 ⟨rfl, hb⟩; refine ⟨_, rfl, ?_⟩; have n0_ := Aside0.mk (Kd.R_below (by (with_reducible repeat (first | apply Kd.R_alloc | apply Kd.R_drewN | apply Kd.R_drew)); exact HO_446001.out) hb); have n1_ := Aside0.mk (Kd.R_below (by (with_reducible repeat (first | apply Kd.R_alloc | apply Kd.R_drewN | apply Kd.R_drew)); exact HO_451001.out) hb); have n2_ := Aside0.mk (Kd.R_below (by (with_reducible repeat (first | apply Kd.R_alloc | apply Kd.R_drewN | apply Kd.R_drew)); exact HO_457001.out) hb); have n3_ := Aside0.mk (blk_below (g := gb434) (o := .cells #[.int .i64 a0_0, .slice A0_1 l0_1.length c0_1] 24 (0, 0)) (by (with_reducible repeat (first | refine blk_drewN ?_ _ | refine blk_drew ?_ | refine blk_alloc ?_ _)); exact BK434.out) hb); have n4_ := Aside0.mk (blk_below (g := gb445) (o := .cells #[.int .i64 t440, .slice Ao22 t441.length co22] 26 (0, 0)) (by (with_reducible repeat (first | refine blk_drewN ?_ _ | refine blk_drew ?_ | refine blk_alloc ?_ _)); exact BK445.out) hb); have n5_ := Aside0.mk (blk_below (g := gb450) (o := .cells #[.int .i64 t446, .slice Ao29 t464.length co29] 26 (0, 0)) (by (with_reducible repeat (first | refine blk_drewN ?_ _ | refine blk_drew ?_ | refine blk_alloc ?_ _)); exact BK450.out) hb); have n6_ := Aside0.mk (blk_below (g := gb456) (o := .cells #[.int .i64 t451, .slice Ao36 t452.length co36] 26 (0, 0)) (by (with_reducible repeat (first | refine blk_drewN ?_ _ | refine blk_drew ?_ | refine blk_alloc ?_ _)); exact BK456.out) hb); have n7_ := Aside0.mk (below_step (by repeat (first | (with_reducible first | exact HB.out | apply below_alloc | apply pw_below_drewN | apply below_drew1 | refine below_set ?_ GE434.out | refine below_set ?_ GE445.out | refine below_set ?_ GE450.out | refine below_set ?_ GE456.out) | exact HB.out)) hb); clear HO_446001; clear HO_451001; clear HO_457001; clear BK434; clear BK445; clear BK450; clear BK456; clear HB; have HO_446001 := n0_; have HO_451001 := n1_; have HO_457001 := n2_; have BK434 := n3_; have BK445 := n4_; have BK450 := n5_; have BK456 := n6_; have HB := n7_; clear n0_ n1_ n2_ n3_ n4_ n5_ n6_ n7_; (try clear hb); (try clear hb2); (try clear hk); (try clear hi); have hnb111 := NB434_445.out; have hnc111 := NB445_434.out; have hnb112 := NB434_450.out; have hnc112 := NB450_434.out; have hcz113_0 : w110.cell? ⟨gb434, 0, none⟩ = some (.int .i64 a0_0) := (blk_cell BK434.out 0).trans rfl; have hcz113_1 : w110.cell? ⟨gb434, 1, none⟩ = some (.slice A0_1 l0_1.length c0_1) := (blk_cell BK434.out 1).trans rfl; have hfz113_0 := blk_frozen BK434.out 0; have hfz113_1 := blk_frozen BK434.out 1) | ((with_reducible refine gate_callee (f := 16) rfl ?_); refine goesL_ (some 75) rfl rfl Try.func16 (by kernel_rfl) rfl #[.agg #[.int .i64 a0_0, .slice A0_1 l0_1.length c0_1]] rfl (by (try simp only [List.map_toArray, List.map_cons, List.map_nil]); first | done | rfl | (simp only [List.length_drop, List.length_take]; rfl)) ?_; (with_reducible refine (laws_toLadder.calls kj59 a0_0 _ _ l0_1 t469 t470 _ ?side1 ?side2 A101.out).mono ?_); (case side1 => repeat (first | exact (Kd.C_below HR0_1.out HB.out) | (with_reducible refine Kd.C_alloc ?_ _) | (with_reducible refine Kd.C_drewN ?_ _) | (with_reducible refine Kd.C_drew ?_))); (case side2 => exact HC0_1.out); rintro e w114 ⟨v471, rfl, ho0, hb⟩; refine ⟨_, rfl, ?_⟩; have n0_ := Aside0.mk (Kd.R_elder' (by (with_reducible repeat (first | apply Kd.R_alloc | apply Kd.R_drewN | apply Kd.R_drew)); exact HO_446001.out) (Kd.R_base ho0) hb); have n1_ := Aside0.mk (Kd.R_elder' (by (with_reducible repeat (first | apply Kd.R_alloc | apply Kd.R_drewN | apply Kd.R_drew)); exact HO_451001.out) (Kd.R_base ho0) hb); have n2_ := Aside0.mk (Kd.R_elder' (by (with_reducible repeat (first | apply Kd.R_alloc | apply Kd.R_drewN | apply Kd.R_drew)); exact HO_457001.out) (Kd.R_base ho0) hb); have n3_ := Aside0.mk (Kd.R_lower (Kd.R_new' (Kd.R_new' (Kd.R_new' ho0 (Kd.R_lt (by (with_reducible repeat (first | apply Kd.R_alloc | apply Kd.R_drewN | apply Kd.R_drew)); exact HO_446001.out))) (Kd.R_lt (by (with_reducible repeat (first | apply Kd.R_alloc | apply Kd.R_drewN | apply Kd.R_drew)); exact HO_451001.out))) (Kd.R_lt (by (with_reducible repeat (first | apply Kd.R_alloc | apply Kd.R_drewN | apply Kd.R_drew)); exact HO_457001.out))) (below_size (by repeat (first | (with_reducible first | exact HB.out | apply below_alloc | apply pw_below_drewN | apply below_drew1 | refine below_set ?_ GE434.out | refine below_set ?_ GE445.out | refine below_set ?_ GE450.out | refine below_set ?_ GE456.out) | exact HB.out)))); have n4_ := Aside0.mk (blk_below (g := gb434) (o := .cells #[.int .i64 a0_0, .slice A0_1 l0_1.length c0_1] 24 (0, 0)) (by (with_reducible repeat (first | refine blk_drewN ?_ _ | refine blk_drew ?_ | refine blk_alloc ?_ _)); exact BK434.out) hb); have n5_ := Aside0.mk (blk_below (g := gb445) (o := .cells #[.int .i64 t440, .slice Ao22 t441.length co22] 26 (0, 0)) (by (with_reducible repeat (first | refine blk_drewN ?_ _ | refine blk_drew ?_ | refine blk_alloc ?_ _)); exact BK445.out) hb); have n6_ := Aside0.mk (blk_below (g := gb450) (o := .cells #[.int .i64 t446, .slice Ao29 t464.length co29] 26 (0, 0)) (by (with_reducible repeat (first | refine blk_drewN ?_ _ | refine blk_drew ?_ | refine blk_alloc ?_ _)); exact BK450.out) hb); have n7_ := Aside0.mk (blk_below (g := gb456) (o := .cells #[.int .i64 t451, .slice Ao36 t452.length co36] 26 (0, 0)) (by (with_reducible repeat (first | refine blk_drewN ?_ _ | refine blk_drew ?_ | refine blk_alloc ?_ _)); exact BK456.out) hb); have n8_ := Aside0.mk (below_step (by repeat (first | (with_reducible first | exact HB.out | apply below_alloc | apply pw_below_drewN | apply below_drew1 | refine below_set ?_ GE434.out | refine below_set ?_ GE445.out | refine below_set ?_ GE450.out | refine below_set ?_ GE456.out) | exact HB.out)) hb); clear HO_446001; clear HO_451001; clear HO_457001; clear BK434; clear BK445; clear BK450; clear BK456; clear HB; have HO_446001 := n0_; have HO_451001 := n1_; have HO_457001 := n2_; have HO472 := n3_; have BK434 := n4_; have BK445 := n5_; have BK450 := n6_; have BK456 := n7_; have HB := n8_; clear n0_ n1_ n2_ n3_ n4_ n5_ n6_ n7_ n8_; (try clear hb); (try clear hb2); (try clear hk); (try clear hi); (try clear ho0); obtain ⟨Ao115, co115, eo115⟩ := Kd.R_slice HO472.out; subst eo115) | ((with_reducible refine gate_callee (f := 29) rfl ?_); refine goesL_ (some 76) rfl rfl Try.func29 (by kernel_rfl) rfl #[.agg #[.int .i64 t469, .slice Ao115 t470.length co115]] rfl (by (try simp only [List.map_toArray, List.map_cons, List.map_nil]); first | done | rfl | (simp only [List.length_drop, List.length_take]; rfl)) ?_; (with_reducible refine (impl_ReduceLadder.calls kj59 t469 _ _ t470 t473 t474 t477 _ ?side1 ?side2 A102.out).mono ?_); (case side1 => repeat (first | exact (Kd.R_reads' HO472.out).2.2 | (with_reducible refine Kd.C_alloc ?_ _) | (with_reducible refine Kd.C_drewN ?_ _) | (with_reducible refine Kd.C_drew ?_))); (case side2 => exact (Kd.R_reads' HO472.out).2.1); rintro e w116 ⟨v475, rfl, ho0, hb⟩; refine ⟨_, rfl, ?_⟩; have n0_ := Aside0.mk (Kd.R_elder' (by (with_reducible repeat (first | apply Kd.R_alloc | apply Kd.R_drewN | apply Kd.R_drew)); exact HO_446001.out) (Kd.R_base ho0) hb); have n1_ := Aside0.mk (Kd.R_elder' (by (with_reducible repeat (first | apply Kd.R_alloc | apply Kd.R_drewN | apply Kd.R_drew)); exact HO_451001.out) (Kd.R_base ho0) hb); have n2_ := Aside0.mk (Kd.R_elder' (by (with_reducible repeat (first | apply Kd.R_alloc | apply Kd.R_drewN | apply Kd.R_drew)); exact HO_457001.out) (Kd.R_base ho0) hb); have n3_ := Aside0.mk (Kd.R_elder' (by (with_reducible repeat (first | apply Kd.R_alloc | apply Kd.R_drewN | apply Kd.R_drew)); exact HO472.out) (Kd.R_base ho0) hb); have n4_ := Aside0.mk (Kd.R_lower (Kd.R_new' (Kd.R_new' (Kd.R_new' (Kd.R_new' ho0 (Kd.R_lt (by (with_reducible repeat (first | apply Kd.R_alloc | apply Kd.R_drewN | apply Kd.R_drew)); exact HO_446001.out))) (Kd.R_lt (by (with_reducible repeat (first | apply Kd.R_alloc | apply Kd.R_drewN | apply Kd.R_drew)); exact HO_451001.out))) (Kd.R_lt (by (with_reducible repeat (first | apply Kd.R_alloc | apply Kd.R_drewN | apply Kd.R_drew)); exact HO_457001.out))) (Kd.R_lt (by (with_reducible repeat (first | apply Kd.R_alloc | apply Kd.R_drewN | apply Kd.R_drew)); exact HO472.out))) (below_size (by repeat (first | (with_reducible first | exact HB.out | apply below_alloc | apply pw_below_drewN | apply below_drew1 | refine below_set ?_ GE434.out | refine below_set ?_ GE445.out | refine below_set ?_ GE450.out | refine below_set ?_ GE456.out) | exact HB.out)))); have n5_ := Aside0.mk (blk_below (g := gb434) (o := .cells #[.int .i64 a0_0, .slice A0_1 l0_1.length c0_1] 24 (0, 0)) (by (with_reducible repeat (first | refine blk_drewN ?_ _ | refine blk_drew ?_ | refine blk_alloc ?_ _)); exact BK434.out) hb); have n6_ := Aside0.mk (blk_below (g := gb445) (o := .cells #[.int .i64 t440, .slice Ao22 t441.length co22] 26 (0, 0)) (by (with_reducible repeat (first | refine blk_drewN ?_ _ | refine blk_drew ?_ | refine blk_alloc ?_ _)); exact BK445.out) hb); have n7_ := Aside0.mk (blk_below (g := gb450) (o := .cells #[.int .i64 t446, .slice Ao29 t464.length co29] 26 (0, 0)) (by (with_reducible repeat (first | refine blk_drewN ?_ _ | refine blk_drew ?_ | refine blk_alloc ?_ _)); exact BK450.out) hb); have n8_ := Aside0.mk (blk_below (g := gb456) (o := .cells #[.int .i64 t451, .slice Ao36 t452.length co36] 26 (0, 0)) (by (with_reducible repeat (first | refine blk_drewN ?_ _ | refine blk_drew ?_ | refine blk_alloc ?_ _)); exact BK456.out) hb); have n9_ := Aside0.mk (below_step (by repeat (first | (with_reducible first | exact HB.out | apply below_alloc | apply pw_below_drewN | apply below_drew1 | refine below_set ?_ GE434.out | refine below_set ?_ GE445.out | refine below_set ?_ GE450.out | refine below_set ?_ GE456.out) | exact HB.out)) hb); clear HO_446001; clear HO_451001; clear HO_457001; clear HO472; clear BK434; clear BK445; clear BK450; clear BK456; clear HB; have HO_446001 := n0_; have HO_451001 := n1_; have HO_457001 := n2_; have HO472 := n3_; have HO476 := n4_; have BK434 := n5_; have BK445 := n6_; have BK450 := n7_; have BK456 := n8_; have HB := n9_; clear n0_ n1_ n2_ n3_ n4_ n5_ n6_ n7_ n8_ n9_; (try clear hb); (try clear hb2); (try clear hk); (try clear hi); (try clear ho0)) | ((with_reducible refine gate_dst (N := 12) rfl ?_); refine box_event ?hg (N := 12) ?hd (cs := #[.int .i64 0, .slice none 0 0]) (t := 26) ?hr ?_; (case hd => rfl); (case hg => rfl); (case hr => first | (go_simp; done) | (go_simp; rfl)); intro gb478 hg w117 hbox hb; have n0_ := Aside0.mk (Kd.R_below (by (with_reducible repeat (first | apply Kd.R_alloc | apply Kd.R_drewN | apply Kd.R_drew)); exact HO_446001.out) hb); have n1_ := Aside0.mk (Kd.R_below (by (with_reducible repeat (first | apply Kd.R_alloc | apply Kd.R_drewN | apply Kd.R_drew)); exact HO_451001.out) hb); have n2_ := Aside0.mk (Kd.R_below (by (with_reducible repeat (first | apply Kd.R_alloc | apply Kd.R_drewN | apply Kd.R_drew)); exact HO_457001.out) hb); have n3_ := Aside0.mk (Kd.R_below (by (with_reducible repeat (first | apply Kd.R_alloc | apply Kd.R_drewN | apply Kd.R_drew)); exact HO472.out) hb); have n4_ := Aside0.mk (Kd.R_below (by (with_reducible repeat (first | apply Kd.R_alloc | apply Kd.R_drewN | apply Kd.R_drew)); exact HO476.out) hb); have n5_ := Aside0.mk (blk_below (g := gb434) (o := .cells #[.int .i64 a0_0, .slice A0_1 l0_1.length c0_1] 24 (0, 0)) (by (with_reducible repeat (first | refine blk_drewN ?_ _ | refine blk_drew ?_ | refine blk_alloc ?_ _)); exact BK434.out) hb); have n6_ := Aside0.mk (blk_below (g := gb445) (o := .cells #[.int .i64 t440, .slice Ao22 t441.length co22] 26 (0, 0)) (by (with_reducible repeat (first | refine blk_drewN ?_ _ | refine blk_drew ?_ | refine blk_alloc ?_ _)); exact BK445.out) hb); have n7_ := Aside0.mk (blk_below (g := gb450) (o := .cells #[.int .i64 t446, .slice Ao29 t464.length co29] 26 (0, 0)) (by (with_reducible repeat (first | refine blk_drewN ?_ _ | refine blk_drew ?_ | refine blk_alloc ?_ _)); exact BK450.out) hb); have n8_ := Aside0.mk (blk_below (g := gb456) (o := .cells #[.int .i64 t451, .slice Ao36 t452.length co36] 26 (0, 0)) (by (with_reducible repeat (first | refine blk_drewN ?_ _ | refine blk_drew ?_ | refine blk_alloc ?_ _)); exact BK456.out) hb); have n9_ := Aside0.mk (below_step (by repeat (first | (with_reducible first | exact HB.out | apply below_alloc | apply pw_below_drewN | apply below_drew1 | refine below_set ?_ GE434.out | refine below_set ?_ GE445.out | refine below_set ?_ GE450.out | refine below_set ?_ GE456.out) | exact HB.out)) hb); have n10_ := Aside0.mk (hbox); have n11_ := Aside0.mk ((by rw [hg]; exact (below_size (by repeat (first | (with_reducible first | exact HB.out | apply below_alloc | apply pw_below_drewN | apply below_drew1 | refine below_set ?_ GE434.out | refine below_set ?_ GE445.out | refine below_set ?_ GE450.out | refine below_set ?_ GE456.out) | exact HB.out))) : w.heap.size ≤ gb478)); have n12_ := Aside0.mk ((by rw [hg]; exact (below_size (by repeat (first | (with_reducible first | exact HB.out | apply below_alloc | apply pw_below_drewN | apply below_drew1 | refine below_set ?_ GE434.out | refine below_set ?_ GE445.out | refine below_set ?_ GE450.out | refine below_set ?_ GE456.out) | exact HB.out))) : w.heap.size ≤ gb478)); have n13_ := Aside0.mk ((by rw [hg]; exact Nat.ne_of_lt (blk_lt (g := gb434) (o := .cells #[.int .i64 a0_0, .slice A0_1 l0_1.length c0_1] 24 (0, 0)) (by (with_reducible repeat (first | refine blk_drewN ?_ _ | refine blk_drew ?_ | refine blk_alloc ?_ _)); exact BK434.out)) : gb434 ≠ gb478)); have n14_ := Aside0.mk ((by rw [hg]; exact Nat.ne_of_gt (blk_lt (g := gb434) (o := .cells #[.int .i64 a0_0, .slice A0_1 l0_1.length c0_1] 24 (0, 0)) (by (with_reducible repeat (first | refine blk_drewN ?_ _ | refine blk_drew ?_ | refine blk_alloc ?_ _)); exact BK434.out)) : gb478 ≠ gb434)); have n15_ := Aside0.mk ((by rw [hg]; exact Nat.ne_of_lt (blk_lt (g := gb445) (o := .cells #[.int .i64 t440, .slice Ao22 t441.length co22] 26 (0, 0)) (by (with_reducible repeat (first | refine blk_drewN ?_ _ | refine blk_drew ?_ | refine blk_alloc ?_ _)); exact BK445.out)) : gb445 ≠ gb478)); have n16_ := Aside0.mk ((by rw [hg]; exact Nat.ne_of_gt (blk_lt (g := gb445) (o := .cells #[.int .i64 t440, .slice Ao22 t441.length co22] 26 (0, 0)) (by (with_reducible repeat (first | refine blk_drewN ?_ _ | refine blk_drew ?_ | refine blk_alloc ?_ _)); exact BK445.out)) : gb478 ≠ gb445)); have n17_ := Aside0.mk ((by rw [hg]; exact Nat.ne_of_lt (blk_lt (g := gb450) (o := .cells #[.int .i64 t446, .slice Ao29 t464.length co29] 26 (0, 0)) (by (with_reducible repeat (first | refine blk_drewN ?_ _ | refine blk_drew ?_ | refine blk_alloc ?_ _)); exact BK450.out)) : gb450 ≠ gb478)); have n18_ := Aside0.mk ((by rw [hg]; exact Nat.ne_of_gt (blk_lt (g := gb450) (o := .cells #[.int .i64 t446, .slice Ao29 t464.length co29] 26 (0, 0)) (by (with_reducible repeat (first | refine blk_drewN ?_ _ | refine blk_drew ?_ | refine blk_alloc ?_ _)); exact BK450.out)) : gb478 ≠ gb450)); have n19_ := Aside0.mk ((by rw [hg]; exact Nat.ne_of_lt (blk_lt (g := gb456) (o := .cells #[.int .i64 t451, .slice Ao36 t452.length co36] 26 (0, 0)) (by (with_reducible repeat (first | refine blk_drewN ?_ _ | refine blk_drew ?_ | refine blk_alloc ?_ _)); exact BK456.out)) : gb456 ≠ gb478)); have n20_ := Aside0.mk ((by rw [hg]; exact Nat.ne_of_gt (blk_lt (g := gb456) (o := .cells #[.int .i64 t451, .slice Ao36 t452.length co36] 26 (0, 0)) (by (with_reducible repeat (first | refine blk_drewN ?_ _ | refine blk_drew ?_ | refine blk_alloc ?_ _)); exact BK456.out)) : gb478 ≠ gb456)); clear HO_446001; clear HO_451001; clear HO_457001; clear HO472; clear HO476; clear BK434; clear BK445; clear BK450; clear BK456; clear HB; have HO_446001 := n0_; have HO_451001 := n1_; have HO_457001 := n2_; have HO472 := n3_; have HO476 := n4_; have BK434 := n5_; have BK445 := n6_; have BK450 := n7_; have BK456 := n8_; have HB := n9_; have BK478 := n10_; have GW478 := n11_; have GE478 := n12_; have NB434_478 := n13_; have NB478_434 := n14_; have NB445_478 := n15_; have NB478_445 := n16_; have NB450_478 := n17_; have NB478_450 := n18_; have NB456_478 := n19_; have NB478_456 := n20_; clear n0_ n1_ n2_ n3_ n4_ n5_ n6_ n7_ n8_ n9_ n10_ n11_ n12_ n13_ n14_ n15_ n16_ n17_ n18_ n19_ n20_; clear hb hbox hg; have hnb118 := NB478_434.out; have hnc118 := NB434_478.out; have hnb119 := NB478_445.out; have hnc119 := NB445_478.out; have hnb120 := NB478_450.out; have hnc120 := NB450_478.out; have hnb121 := NB478_456.out; have hnc121 := NB456_478.out; have hcz122_0 : w117.cell? ⟨gb478, 0, none⟩ = some (.int .i64 0) := (blk_cell BK478.out 0).trans rfl; have hcz122_1 : w117.cell? ⟨gb478, 1, none⟩ = some (.slice none 0 0) := (blk_cell BK478.out 1).trans rfl; have hfz122_0 := blk_frozen BK478.out 0; have hfz122_1 := blk_frozen BK478.out 1; obtain ⟨Ao123, co123, eo123⟩ := Kd.R_slice HO476.out; subst eo123))
                      (try simp only [Act.put, List.setIfInBounds_toArray, List.set_cons_zero, List.set_cons_succ])
                      go_cut [87] (fun v87 wc => ∃ (kq : Nat) (x87_102 : Bool), v87 = .bool x87_102 ∧ Aside0 (laws_FnExactReduceLadder.j2 kq t466 x87_102 t451 t467 = some r) ∧ Aside0 (kq ≤ kj59) ∧ Aside0 (Kd.R (Kd.int .i64) 3 wc w.heap.size (fun k_ => some k_ ≠ ((.slice Ao29 t464.length co29) : Value).ownBlock ∧ some k_ ≠ ((.slice Ao36 t452.length co36) : Value).ownBlock ∧ some k_ ≠ ((.slice Ao123 t474.length co123) : Value).ownBlock) (.slice Ao22 t441.length co22) t441) ∧ Aside0 (Kd.R (Kd.int .i64) 3 wc w.heap.size (fun k_ => some k_ ≠ ((.slice Ao22 t441.length co22) : Value).ownBlock ∧ some k_ ≠ ((.slice Ao36 t452.length co36) : Value).ownBlock ∧ some k_ ≠ ((.slice Ao123 t474.length co123) : Value).ownBlock) (.slice Ao29 t464.length co29) t464) ∧ Aside0 (Kd.R (Kd.int .i64) 3 wc w.heap.size (fun k_ => some k_ ≠ ((.slice Ao22 t441.length co22) : Value).ownBlock ∧ some k_ ≠ ((.slice Ao29 t464.length co29) : Value).ownBlock ∧ some k_ ≠ ((.slice Ao123 t474.length co123) : Value).ownBlock) (.slice Ao36 t452.length co36) t467) ∧ Aside0 (Kd.R (Kd.int .i64) 3 wc w.heap.size (fun k_ => some k_ ≠ ((.slice Ao22 t441.length co22) : Value).ownBlock ∧ some k_ ≠ ((.slice Ao29 t464.length co29) : Value).ownBlock ∧ some k_ ≠ ((.slice Ao36 t452.length co36) : Value).ownBlock) (.slice Ao123 t474.length co123) t474) ∧ Aside0 (wc.heap[gb434]? = some (.cells #[.int .i64 a0_0, (.slice A0_1 l0_1.length c0_1)] 24 (0, 0))) ∧ Aside0 (wc.heap[gb445]? = some (.cells #[.int .i64 t440, (.slice Ao22 t441.length co22)] 26 (0, 0))) ∧ Aside0 (wc.heap[gb450]? = some (.cells #[.int .i64 t446, (.slice Ao29 t464.length co29)] 26 (0, 0))) ∧ Aside0 (wc.heap[gb456]? = some (.cells #[.int .i64 t451, (.slice Ao36 t452.length co36)] 26 (0, 0))) ∧ Aside0 (wc.heap[gb478]? = some (.cells #[.int .i64 t473, (.slice Ao123 t474.length co123)] 26 (0, 0))) ∧ Aside0 (Below w.heap.size w wc))
                      case first =>
                        have H := HC103.out
                        clear HC103
                        replace H := Option.bind_eq_some_iff.mp H
                        obtain ⟨t479, A1240, H⟩ := H
                        replace H : (if t479 = true then (laws_FnExactReduceLadder.j2 kj59 t466 (t477 != t444) t451 t467) else (laws_FnExactReduceLadder.j2 kj59 t466 true t451 t467)) = some r := H
                        have A124 := Aside0.mk A1240
                        clear A1240
                        by_cases c125 : t479 = true
                        · subst c125
                          have H1 : (laws_FnExactReduceLadder.j2 kj59 t466 (t477 != t444) t451 t467) = some r := by rw [if_pos rfl] at H; exact H
                          clear H
                          have H := H1
                          clear H1
                          have H' := Aside0.mk H
                          clear H
                          have hnb126 := NB478_434.out
                          have hnc126 := NB434_478.out
                          have hnb127 := NB478_445.out
                          have hnc127 := NB445_478.out
                          have hnb128 := NB478_450.out
                          have hnc128 := NB450_478.out
                          have hnb129 := NB478_456.out
                          have hnc129 := NB456_478.out
                          have hcz130_0 : w117.cell? ⟨gb478, 0, none⟩ = some (.int .i64 0) := (blk_cell BK478.out 0).trans rfl
                          have hcz130_1 : w117.cell? ⟨gb478, 1, none⟩ = some (.slice none 0 0) := (blk_cell BK478.out 1).trans rfl
                          have hfz130_0 := blk_frozen BK478.out 0
                          have hfz130_1 := blk_frozen BK478.out 1
                          have hnb131 := NB445_434.out
                          have hnc131 := NB434_445.out
                          have hnb132 := NB445_450.out
                          have hnc132 := NB450_445.out
                          have hnb133 := NB445_456.out
                          have hnc133 := NB456_445.out
                          have hcz134_0 : w117.cell? ⟨gb445, 0, none⟩ = some (.int .i64 t440) := (blk_cell BK445.out 0).trans rfl
                          have hcz134_1 : w117.cell? ⟨gb445, 1, none⟩ = some (.slice Ao22 t441.length co22) := (blk_cell BK445.out 1).trans rfl
                          have hfz134_0 := blk_frozen BK445.out 0
                          have hfz134_1 := blk_frozen BK445.out 1
                          go_wp2_with (first | ((with_reducible refine gate_callee (f := 18) rfl ?_); refine goesL_ (some 81) rfl rfl Try.func18 (by kernel_rfl) rfl #[.agg #[.int .i64 t473, .slice Ao123 t474.length co123], .agg #[.int .i64 t440, .slice Ao22 t441.length co22]] rfl (by (try simp only [List.map_toArray, List.map_cons, List.map_nil]); first | done | rfl | (simp only [List.length_drop, List.length_take]; rfl)) ?_; (with_reducible refine (laws_eqLadder.calls kj59 t473 _ _ t474 t440 _ _ t441 true _ ?side1 ?side2 ?side3 ?side4 A124.out).mono ?_); (case side1 => refine (Kd.R_reads' (e := 3) (base := w.heap.size) (ok := fun k_ => ((((True ∧ some k_ ≠ (.slice Ao22 t441.length co22 : Value).ownBlock) ∧ some k_ ≠ (.slice Ao29 t464.length co29 : Value).ownBlock) ∧ some k_ ≠ (.slice Ao36 t452.length co36 : Value).ownBlock) ∧ some k_ ≠ (.slice Ao115 t470.length co115 : Value).ownBlock)) (n := t474.length) (c := co123) ?_).2.2; exact (by (with_reducible repeat (first | apply Kd.R_alloc | apply Kd.R_drewN | apply Kd.R_drew)); exact (Kd.R_mono (Kd.R_far (p := ⟨gb478, 1, none⟩) (Kd.R_far (p := ⟨gb478, 0, none⟩) (Kd.R_types HO476.out BK478.out (by decide)) (fun _ hk => hk.2) (.int .i64 t473)) (fun _ hk => hk.2) (.slice Ao123 t474.length co123)) (fun _ h_ => h_.1)))); (case side2 => exact (Kd.R_reads' HO476.out).2.1); (case side3 => refine (Kd.R_reads' (e := 3) (base := w.heap.size) (ok := fun k_ => (((some k_ ≠ (.slice Ao29 t464.length co29 : Value).ownBlock ∧ some k_ ≠ (.slice Ao36 t452.length co36 : Value).ownBlock) ∧ some k_ ≠ (.slice Ao115 t470.length co115 : Value).ownBlock) ∧ some k_ ≠ (.slice Ao123 t474.length co123 : Value).ownBlock)) (n := t441.length) (c := co22) ?_).2.2; exact (by (with_reducible repeat (first | apply Kd.R_alloc | apply Kd.R_drewN | apply Kd.R_drew)); exact (Kd.R_mono (Kd.R_far (p := ⟨gb478, 1, none⟩) (Kd.R_far (p := ⟨gb478, 0, none⟩) (Kd.R_types HO_446001.out BK478.out (by decide)) (fun _ hk => hk.2) (.int .i64 t473)) (fun _ hk => hk.2) (.slice Ao123 t474.length co123)) (fun _ h_ => h_.1)))); (case side4 => exact (Kd.R_reads' HO_446001.out).2.1); rintro e w135 ⟨rfl, hb⟩; refine ⟨_, rfl, ?_⟩; have n0_ := Aside0.mk (Kd.R_below (by (with_reducible repeat (first | apply Kd.R_alloc | apply Kd.R_drewN | apply Kd.R_drew)); exact (Kd.R_mono (Kd.R_far (p := ⟨gb478, 1, none⟩) (Kd.R_far (p := ⟨gb478, 0, none⟩) (Kd.R_types HO_446001.out BK478.out (by decide)) (fun _ hk => hk.2) (.int .i64 t473)) (fun _ hk => hk.2) (.slice Ao123 t474.length co123)) (fun _ h_ => h_.1))) hb); have n1_ := Aside0.mk (Kd.R_below (by (with_reducible repeat (first | apply Kd.R_alloc | apply Kd.R_drewN | apply Kd.R_drew)); exact (Kd.R_mono (Kd.R_far (p := ⟨gb478, 1, none⟩) (Kd.R_far (p := ⟨gb478, 0, none⟩) (Kd.R_types HO_451001.out BK478.out (by decide)) (fun _ hk => hk.2) (.int .i64 t473)) (fun _ hk => hk.2) (.slice Ao123 t474.length co123)) (fun _ h_ => h_.1))) hb); have n2_ := Aside0.mk (Kd.R_below (by (with_reducible repeat (first | apply Kd.R_alloc | apply Kd.R_drewN | apply Kd.R_drew)); exact (Kd.R_mono (Kd.R_far (p := ⟨gb478, 1, none⟩) (Kd.R_far (p := ⟨gb478, 0, none⟩) (Kd.R_types HO_457001.out BK478.out (by decide)) (fun _ hk => hk.2) (.int .i64 t473)) (fun _ hk => hk.2) (.slice Ao123 t474.length co123)) (fun _ h_ => h_.1))) hb); have n3_ := Aside0.mk (Kd.R_below (by (with_reducible repeat (first | apply Kd.R_alloc | apply Kd.R_drewN | apply Kd.R_drew)); exact (Kd.R_mono (Kd.R_far (p := ⟨gb478, 1, none⟩) (Kd.R_far (p := ⟨gb478, 0, none⟩) (Kd.R_types HO472.out BK478.out (by decide)) (fun _ hk => hk.2) (.int .i64 t473)) (fun _ hk => hk.2) (.slice Ao123 t474.length co123)) (fun _ h_ => h_.1))) hb); have n4_ := Aside0.mk (Kd.R_below (by (with_reducible repeat (first | apply Kd.R_alloc | apply Kd.R_drewN | apply Kd.R_drew)); exact (Kd.R_mono (Kd.R_far (p := ⟨gb478, 1, none⟩) (Kd.R_far (p := ⟨gb478, 0, none⟩) (Kd.R_types HO476.out BK478.out (by decide)) (fun _ hk => hk.2) (.int .i64 t473)) (fun _ hk => hk.2) (.slice Ao123 t474.length co123)) (fun _ h_ => h_.1))) hb); have n5_ := Aside0.mk (blk_below (g := gb434) (o := .cells #[.int .i64 a0_0, .slice A0_1 l0_1.length c0_1] 24 (0, 0)) (by (with_reducible repeat (first | refine blk_drewN ?_ _ | refine blk_drew ?_ | refine blk_alloc ?_ _)); refine blk_far ?_ NB434_478.out _; (with_reducible repeat (first | refine blk_drewN ?_ _ | refine blk_drew ?_ | refine blk_alloc ?_ _)); refine blk_far ?_ NB434_478.out _; (with_reducible repeat (first | refine blk_drewN ?_ _ | refine blk_drew ?_ | refine blk_alloc ?_ _)); exact BK434.out) hb); have n6_ := Aside0.mk (blk_below (g := gb445) (o := .cells #[.int .i64 t440, .slice Ao22 t441.length co22] 26 (0, 0)) (by (with_reducible repeat (first | refine blk_drewN ?_ _ | refine blk_drew ?_ | refine blk_alloc ?_ _)); refine blk_far ?_ NB445_478.out _; (with_reducible repeat (first | refine blk_drewN ?_ _ | refine blk_drew ?_ | refine blk_alloc ?_ _)); refine blk_far ?_ NB445_478.out _; (with_reducible repeat (first | refine blk_drewN ?_ _ | refine blk_drew ?_ | refine blk_alloc ?_ _)); exact BK445.out) hb); have n7_ := Aside0.mk (blk_below (g := gb450) (o := .cells #[.int .i64 t446, .slice Ao29 t464.length co29] 26 (0, 0)) (by (with_reducible repeat (first | refine blk_drewN ?_ _ | refine blk_drew ?_ | refine blk_alloc ?_ _)); refine blk_far ?_ NB450_478.out _; (with_reducible repeat (first | refine blk_drewN ?_ _ | refine blk_drew ?_ | refine blk_alloc ?_ _)); refine blk_far ?_ NB450_478.out _; (with_reducible repeat (first | refine blk_drewN ?_ _ | refine blk_drew ?_ | refine blk_alloc ?_ _)); exact BK450.out) hb); have n8_ := Aside0.mk (blk_below (g := gb456) (o := .cells #[.int .i64 t451, .slice Ao36 t452.length co36] 26 (0, 0)) (by (with_reducible repeat (first | refine blk_drewN ?_ _ | refine blk_drew ?_ | refine blk_alloc ?_ _)); refine blk_far ?_ NB456_478.out _; (with_reducible repeat (first | refine blk_drewN ?_ _ | refine blk_drew ?_ | refine blk_alloc ?_ _)); refine blk_far ?_ NB456_478.out _; (with_reducible repeat (first | refine blk_drewN ?_ _ | refine blk_drew ?_ | refine blk_alloc ?_ _)); exact BK456.out) hb); have n9_ := Aside0.mk (blk_below (g := gb478) (o := .cells #[.int .i64 t473, .slice Ao123 t474.length co123] 26 (0, 0)) (by (with_reducible repeat (first | refine blk_drewN ?_ _ | refine blk_drew ?_ | refine blk_alloc ?_ _)); refine blk_put (cs := #[.int .i64 t473, .slice none 0 0]) ?_ 1 _ rfl; (with_reducible repeat (first | refine blk_drewN ?_ _ | refine blk_drew ?_ | refine blk_alloc ?_ _)); refine blk_put (cs := #[.int .i64 0, .slice none 0 0]) ?_ 0 _ rfl; (with_reducible repeat (first | refine blk_drewN ?_ _ | refine blk_drew ?_ | refine blk_alloc ?_ _)); exact BK478.out) hb); have n10_ := Aside0.mk (below_step (by repeat (first | (with_reducible first | exact HB.out | apply below_alloc | apply pw_below_drewN | apply below_drew1 | refine below_set ?_ GE434.out | refine below_set ?_ GE445.out | refine below_set ?_ GE450.out | refine below_set ?_ GE456.out | refine below_set ?_ GE478.out) | exact HB.out)) hb); clear HO_446001; clear HO_451001; clear HO_457001; clear HO472; clear HO476; clear BK434; clear BK445; clear BK450; clear BK456; clear BK478; clear HB; have HO_446001 := n0_; have HO_451001 := n1_; have HO_457001 := n2_; have HO472 := n3_; have HO476 := n4_; have BK434 := n5_; have BK445 := n6_; have BK450 := n7_; have BK456 := n8_; have BK478 := n9_; have HB := n10_; clear n0_ n1_ n2_ n3_ n4_ n5_ n6_ n7_ n8_ n9_ n10_; (try clear hb); (try clear hb2); (try clear hk); (try clear hi)))
                          go_meet
                          case rel => exact ⟨_, ((t477 != t444)), (by first | rfl | (simp; done) | (simp [*]; done)), H', ⟨by have := HJ10.out; have := HJ59.out; first | omega | exact Nat.le_refl _⟩, ⟨by (try simp only [hl451001_59]); (with_reducible repeat (first | apply Kd.R_alloc | apply Kd.R_drewN | apply Kd.R_drew)); exact Kd.R_mono HO_446001.out (fun _ hk => ⟨hk.1.1.1, ⟨hk.1.1.2, hk.2⟩⟩)⟩, ⟨by (try simp only [hl451001_59]); (with_reducible repeat (first | apply Kd.R_alloc | apply Kd.R_drewN | apply Kd.R_drew)); exact Kd.R_mono HO_451001.out (fun _ hk => ⟨hk.1.1.1, ⟨hk.1.1.2, hk.2⟩⟩)⟩, ⟨by (try simp only [hl451001_59]); (with_reducible repeat (first | apply Kd.R_alloc | apply Kd.R_drewN | apply Kd.R_drew)); exact Kd.R_mono HO_457001.out (fun _ hk => ⟨hk.1.1.1, ⟨hk.1.1.2, hk.2⟩⟩)⟩, ⟨by (try simp only [hl451001_59]); (with_reducible repeat (first | apply Kd.R_alloc | apply Kd.R_drewN | apply Kd.R_drew)); exact Kd.R_mono HO476.out (fun _ hk => ⟨hk.1.1.1.2, ⟨hk.1.1.2, hk.1.2⟩⟩)⟩, ⟨by (try simp only [hl451001_59]); (with_reducible repeat (first | refine blk_drewN ?_ _ | refine blk_drew ?_ | refine blk_alloc ?_ _)); exact BK434.out⟩, ⟨by (try simp only [hl451001_59]); (with_reducible repeat (first | refine blk_drewN ?_ _ | refine blk_drew ?_ | refine blk_alloc ?_ _)); exact BK445.out⟩, ⟨by (try simp only [hl451001_59]); (with_reducible repeat (first | refine blk_drewN ?_ _ | refine blk_drew ?_ | refine blk_alloc ?_ _)); exact BK450.out⟩, ⟨by (try simp only [hl451001_59]); (with_reducible repeat (first | refine blk_drewN ?_ _ | refine blk_drew ?_ | refine blk_alloc ?_ _)); exact BK456.out⟩, ⟨by (try simp only [hl451001_59]); (with_reducible repeat (first | refine blk_drewN ?_ _ | refine blk_drew ?_ | refine blk_alloc ?_ _)); exact BK478.out⟩, ⟨by repeat (first | (with_reducible first | exact HB.out | apply below_alloc | apply pw_below_drewN | apply below_drew1 | refine below_set ?_ GE434.out | refine below_set ?_ GE445.out | refine below_set ?_ GE450.out | refine below_set ?_ GE456.out | refine below_set ?_ GE478.out) | exact HB.out)⟩⟩
                        · replace c125 := Bool.eq_false_iff.mpr c125
                          subst c125
                          have H1 : (laws_FnExactReduceLadder.j2 kj59 t466 true t451 t467) = some r := by rw [if_neg (show ¬ (false = true) by decide)] at H; exact H
                          clear H
                          have H := H1
                          clear H1
                          have H' := Aside0.mk H
                          clear H
                          have hnb136 := NB478_434.out
                          have hnc136 := NB434_478.out
                          have hnb137 := NB478_445.out
                          have hnc137 := NB445_478.out
                          have hnb138 := NB478_450.out
                          have hnc138 := NB450_478.out
                          have hnb139 := NB478_456.out
                          have hnc139 := NB456_478.out
                          have hcz140_0 : w117.cell? ⟨gb478, 0, none⟩ = some (.int .i64 0) := (blk_cell BK478.out 0).trans rfl
                          have hcz140_1 : w117.cell? ⟨gb478, 1, none⟩ = some (.slice none 0 0) := (blk_cell BK478.out 1).trans rfl
                          have hfz140_0 := blk_frozen BK478.out 0
                          have hfz140_1 := blk_frozen BK478.out 1
                          have hnb141 := NB445_434.out
                          have hnc141 := NB434_445.out
                          have hnb142 := NB445_450.out
                          have hnc142 := NB450_445.out
                          have hnb143 := NB445_456.out
                          have hnc143 := NB456_445.out
                          have hcz144_0 : w117.cell? ⟨gb445, 0, none⟩ = some (.int .i64 t440) := (blk_cell BK445.out 0).trans rfl
                          have hcz144_1 : w117.cell? ⟨gb445, 1, none⟩ = some (.slice Ao22 t441.length co22) := (blk_cell BK445.out 1).trans rfl
                          have hfz144_0 := blk_frozen BK445.out 0
                          have hfz144_1 := blk_frozen BK445.out 1
                          go_wp2_with (first | ((with_reducible refine gate_callee (f := 18) rfl ?_); refine goesL_ (some 81) rfl rfl Try.func18 (by kernel_rfl) rfl #[.agg #[.int .i64 t473, .slice Ao123 t474.length co123], .agg #[.int .i64 t440, .slice Ao22 t441.length co22]] rfl (by (try simp only [List.map_toArray, List.map_cons, List.map_nil]); first | done | rfl | (simp only [List.length_drop, List.length_take]; rfl)) ?_; (with_reducible refine (laws_eqLadder.calls kj59 t473 _ _ t474 t440 _ _ t441 false _ ?side1 ?side2 ?side3 ?side4 A124.out).mono ?_); (case side1 => refine (Kd.R_reads' (e := 3) (base := w.heap.size) (ok := fun k_ => ((((True ∧ some k_ ≠ (.slice Ao22 t441.length co22 : Value).ownBlock) ∧ some k_ ≠ (.slice Ao29 t464.length co29 : Value).ownBlock) ∧ some k_ ≠ (.slice Ao36 t452.length co36 : Value).ownBlock) ∧ some k_ ≠ (.slice Ao115 t470.length co115 : Value).ownBlock)) (n := t474.length) (c := co123) ?_).2.2; exact (by (with_reducible repeat (first | apply Kd.R_alloc | apply Kd.R_drewN | apply Kd.R_drew)); exact (Kd.R_mono (Kd.R_far (p := ⟨gb478, 1, none⟩) (Kd.R_far (p := ⟨gb478, 0, none⟩) (Kd.R_types HO476.out BK478.out (by decide)) (fun _ hk => hk.2) (.int .i64 t473)) (fun _ hk => hk.2) (.slice Ao123 t474.length co123)) (fun _ h_ => h_.1)))); (case side2 => exact (Kd.R_reads' HO476.out).2.1); (case side3 => refine (Kd.R_reads' (e := 3) (base := w.heap.size) (ok := fun k_ => (((some k_ ≠ (.slice Ao29 t464.length co29 : Value).ownBlock ∧ some k_ ≠ (.slice Ao36 t452.length co36 : Value).ownBlock) ∧ some k_ ≠ (.slice Ao115 t470.length co115 : Value).ownBlock) ∧ some k_ ≠ (.slice Ao123 t474.length co123 : Value).ownBlock)) (n := t441.length) (c := co22) ?_).2.2; exact (by (with_reducible repeat (first | apply Kd.R_alloc | apply Kd.R_drewN | apply Kd.R_drew)); exact (Kd.R_mono (Kd.R_far (p := ⟨gb478, 1, none⟩) (Kd.R_far (p := ⟨gb478, 0, none⟩) (Kd.R_types HO_446001.out BK478.out (by decide)) (fun _ hk => hk.2) (.int .i64 t473)) (fun _ hk => hk.2) (.slice Ao123 t474.length co123)) (fun _ h_ => h_.1)))); (case side4 => exact (Kd.R_reads' HO_446001.out).2.1); rintro e w145 ⟨rfl, hb⟩; refine ⟨_, rfl, ?_⟩; have n0_ := Aside0.mk (Kd.R_below (by (with_reducible repeat (first | apply Kd.R_alloc | apply Kd.R_drewN | apply Kd.R_drew)); exact (Kd.R_mono (Kd.R_far (p := ⟨gb478, 1, none⟩) (Kd.R_far (p := ⟨gb478, 0, none⟩) (Kd.R_types HO_446001.out BK478.out (by decide)) (fun _ hk => hk.2) (.int .i64 t473)) (fun _ hk => hk.2) (.slice Ao123 t474.length co123)) (fun _ h_ => h_.1))) hb); have n1_ := Aside0.mk (Kd.R_below (by (with_reducible repeat (first | apply Kd.R_alloc | apply Kd.R_drewN | apply Kd.R_drew)); exact (Kd.R_mono (Kd.R_far (p := ⟨gb478, 1, none⟩) (Kd.R_far (p := ⟨gb478, 0, none⟩) (Kd.R_types HO_451001.out BK478.out (by decide)) (fun _ hk => hk.2) (.int .i64 t473)) (fun _ hk => hk.2) (.slice Ao123 t474.length co123)) (fun _ h_ => h_.1))) hb); have n2_ := Aside0.mk (Kd.R_below (by (with_reducible repeat (first | apply Kd.R_alloc | apply Kd.R_drewN | apply Kd.R_drew)); exact (Kd.R_mono (Kd.R_far (p := ⟨gb478, 1, none⟩) (Kd.R_far (p := ⟨gb478, 0, none⟩) (Kd.R_types HO_457001.out BK478.out (by decide)) (fun _ hk => hk.2) (.int .i64 t473)) (fun _ hk => hk.2) (.slice Ao123 t474.length co123)) (fun _ h_ => h_.1))) hb); have n3_ := Aside0.mk (Kd.R_below (by (with_reducible repeat (first | apply Kd.R_alloc | apply Kd.R_drewN | apply Kd.R_drew)); exact (Kd.R_mono (Kd.R_far (p := ⟨gb478, 1, none⟩) (Kd.R_far (p := ⟨gb478, 0, none⟩) (Kd.R_types HO472.out BK478.out (by decide)) (fun _ hk => hk.2) (.int .i64 t473)) (fun _ hk => hk.2) (.slice Ao123 t474.length co123)) (fun _ h_ => h_.1))) hb); have n4_ := Aside0.mk (Kd.R_below (by (with_reducible repeat (first | apply Kd.R_alloc | apply Kd.R_drewN | apply Kd.R_drew)); exact (Kd.R_mono (Kd.R_far (p := ⟨gb478, 1, none⟩) (Kd.R_far (p := ⟨gb478, 0, none⟩) (Kd.R_types HO476.out BK478.out (by decide)) (fun _ hk => hk.2) (.int .i64 t473)) (fun _ hk => hk.2) (.slice Ao123 t474.length co123)) (fun _ h_ => h_.1))) hb); have n5_ := Aside0.mk (blk_below (g := gb434) (o := .cells #[.int .i64 a0_0, .slice A0_1 l0_1.length c0_1] 24 (0, 0)) (by (with_reducible repeat (first | refine blk_drewN ?_ _ | refine blk_drew ?_ | refine blk_alloc ?_ _)); refine blk_far ?_ NB434_478.out _; (with_reducible repeat (first | refine blk_drewN ?_ _ | refine blk_drew ?_ | refine blk_alloc ?_ _)); refine blk_far ?_ NB434_478.out _; (with_reducible repeat (first | refine blk_drewN ?_ _ | refine blk_drew ?_ | refine blk_alloc ?_ _)); exact BK434.out) hb); have n6_ := Aside0.mk (blk_below (g := gb445) (o := .cells #[.int .i64 t440, .slice Ao22 t441.length co22] 26 (0, 0)) (by (with_reducible repeat (first | refine blk_drewN ?_ _ | refine blk_drew ?_ | refine blk_alloc ?_ _)); refine blk_far ?_ NB445_478.out _; (with_reducible repeat (first | refine blk_drewN ?_ _ | refine blk_drew ?_ | refine blk_alloc ?_ _)); refine blk_far ?_ NB445_478.out _; (with_reducible repeat (first | refine blk_drewN ?_ _ | refine blk_drew ?_ | refine blk_alloc ?_ _)); exact BK445.out) hb); have n7_ := Aside0.mk (blk_below (g := gb450) (o := .cells #[.int .i64 t446, .slice Ao29 t464.length co29] 26 (0, 0)) (by (with_reducible repeat (first | refine blk_drewN ?_ _ | refine blk_drew ?_ | refine blk_alloc ?_ _)); refine blk_far ?_ NB450_478.out _; (with_reducible repeat (first | refine blk_drewN ?_ _ | refine blk_drew ?_ | refine blk_alloc ?_ _)); refine blk_far ?_ NB450_478.out _; (with_reducible repeat (first | refine blk_drewN ?_ _ | refine blk_drew ?_ | refine blk_alloc ?_ _)); exact BK450.out) hb); have n8_ := Aside0.mk (blk_below (g := gb456) (o := .cells #[.int .i64 t451, .slice Ao36 t452.length co36] 26 (0, 0)) (by (with_reducible repeat (first | refine blk_drewN ?_ _ | refine blk_drew ?_ | refine blk_alloc ?_ _)); refine blk_far ?_ NB456_478.out _; (with_reducible repeat (first | refine blk_drewN ?_ _ | refine blk_drew ?_ | refine blk_alloc ?_ _)); refine blk_far ?_ NB456_478.out _; (with_reducible repeat (first | refine blk_drewN ?_ _ | refine blk_drew ?_ | refine blk_alloc ?_ _)); exact BK456.out) hb); have n9_ := Aside0.mk (blk_below (g := gb478) (o := .cells #[.int .i64 t473, .slice Ao123 t474.length co123] 26 (0, 0)) (by (with_reducible repeat (first | refine blk_drewN ?_ _ | refine blk_drew ?_ | refine blk_alloc ?_ _)); refine blk_put (cs := #[.int .i64 t473, .slice none 0 0]) ?_ 1 _ rfl; (with_reducible repeat (first | refine blk_drewN ?_ _ | refine blk_drew ?_ | refine blk_alloc ?_ _)); refine blk_put (cs := #[.int .i64 0, .slice none 0 0]) ?_ 0 _ rfl; (with_reducible repeat (first | refine blk_drewN ?_ _ | refine blk_drew ?_ | refine blk_alloc ?_ _)); exact BK478.out) hb); have n10_ := Aside0.mk (below_step (by repeat (first | (with_reducible first | exact HB.out | apply below_alloc | apply pw_below_drewN | apply below_drew1 | refine below_set ?_ GE434.out | refine below_set ?_ GE445.out | refine below_set ?_ GE450.out | refine below_set ?_ GE456.out | refine below_set ?_ GE478.out) | exact HB.out)) hb); clear HO_446001; clear HO_451001; clear HO_457001; clear HO472; clear HO476; clear BK434; clear BK445; clear BK450; clear BK456; clear BK478; clear HB; have HO_446001 := n0_; have HO_451001 := n1_; have HO_457001 := n2_; have HO472 := n3_; have HO476 := n4_; have BK434 := n5_; have BK445 := n6_; have BK450 := n7_; have BK456 := n8_; have BK478 := n9_; have HB := n10_; clear n0_ n1_ n2_ n3_ n4_ n5_ n6_ n7_ n8_ n9_ n10_; (try clear hb); (try clear hb2); (try clear hk); (try clear hi)))
                          go_meet
                          case rel => exact ⟨_, (true), (by first | rfl | (simp; done) | (simp [*]; done)), H', ⟨by have := HJ10.out; have := HJ59.out; first | omega | exact Nat.le_refl _⟩, ⟨by (try simp only [hl451001_59]); (with_reducible repeat (first | apply Kd.R_alloc | apply Kd.R_drewN | apply Kd.R_drew)); exact Kd.R_mono HO_446001.out (fun _ hk => ⟨hk.1.1.1, ⟨hk.1.1.2, hk.2⟩⟩)⟩, ⟨by (try simp only [hl451001_59]); (with_reducible repeat (first | apply Kd.R_alloc | apply Kd.R_drewN | apply Kd.R_drew)); exact Kd.R_mono HO_451001.out (fun _ hk => ⟨hk.1.1.1, ⟨hk.1.1.2, hk.2⟩⟩)⟩, ⟨by (try simp only [hl451001_59]); (with_reducible repeat (first | apply Kd.R_alloc | apply Kd.R_drewN | apply Kd.R_drew)); exact Kd.R_mono HO_457001.out (fun _ hk => ⟨hk.1.1.1, ⟨hk.1.1.2, hk.2⟩⟩)⟩, ⟨by (try simp only [hl451001_59]); (with_reducible repeat (first | apply Kd.R_alloc | apply Kd.R_drewN | apply Kd.R_drew)); exact Kd.R_mono HO476.out (fun _ hk => ⟨hk.1.1.1.2, ⟨hk.1.1.2, hk.1.2⟩⟩)⟩, ⟨by (try simp only [hl451001_59]); (with_reducible repeat (first | refine blk_drewN ?_ _ | refine blk_drew ?_ | refine blk_alloc ?_ _)); exact BK434.out⟩, ⟨by (try simp only [hl451001_59]); (with_reducible repeat (first | refine blk_drewN ?_ _ | refine blk_drew ?_ | refine blk_alloc ?_ _)); exact BK445.out⟩, ⟨by (try simp only [hl451001_59]); (with_reducible repeat (first | refine blk_drewN ?_ _ | refine blk_drew ?_ | refine blk_alloc ?_ _)); exact BK450.out⟩, ⟨by (try simp only [hl451001_59]); (with_reducible repeat (first | refine blk_drewN ?_ _ | refine blk_drew ?_ | refine blk_alloc ?_ _)); exact BK456.out⟩, ⟨by (try simp only [hl451001_59]); (with_reducible repeat (first | refine blk_drewN ?_ _ | refine blk_drew ?_ | refine blk_alloc ?_ _)); exact BK478.out⟩, ⟨by repeat (first | (with_reducible first | exact HB.out | apply below_alloc | apply pw_below_drewN | apply below_drew1 | refine below_set ?_ GE434.out | refine below_set ?_ GE445.out | refine below_set ?_ GE450.out | refine below_set ?_ GE456.out | refine below_set ?_ GE478.out) | exact HB.out)⟩⟩
                      case rest =>
                        clear HC103
                        try clear c1
                        try clear c2
                        try clear p2
                        try clear c3
                        try clear c3b0
                        try clear c4
                        try clear c5
                        try clear c6
                        try clear c7
                        try clear c8
                        try clear c9
                        try clear c10
                        try clear c11
                        try clear c12
                        try clear c13
                        try clear c14
                        try clear c16
                        try clear c18
                        try clear c19
                        try clear c20
                        try clear c26
                        try clear c27
                        try clear c28
                        try clear c29
                        try clear c32
                        try clear c33
                        try clear c34
                        try clear c38
                        try clear c39
                        try clear c40
                        try clear c41
                        try clear c43
                        try clear c44
                        try clear c47
                        try clear c48
                        try clear c49
                        try clear c51
                        try clear c52
                        try clear c55
                        try clear c58
                        try clear c65
                        try clear c66
                        try clear c67
                        try clear c70
                        try clear c70b0
                        try clear c72
                        try clear c73
                        try clear c74
                        try clear c75
                        try clear c77
                        try clear c78
                        try clear c81
                        try clear c82
                        try clear c83
                        try clear c85
                        try clear c86
                        try clear c89
                        try clear c92
                        try clear c92b0
                        try clear c93
                        try clear c94
                        try clear c95
                        try clear c100
                        try clear c100b0
                        try clear c100b1
                        try clear c104
                        try clear c105
                        try clear c106
                        try clear c111
                        try clear c112
                        try clear c118
                        try clear c119
                        try clear c120
                        try clear c121
                        try clear c125
                        try clear c126
                        try clear c127
                        try clear c128
                        try clear c129
                        try clear c131
                        try clear c132
                        try clear c133
                        try clear c136
                        try clear c137
                        try clear c138
                        try clear c139
                        try clear c141
                        try clear c142
                        try clear c143
                        try clear hcz107_0
                        try clear hcz107_1
                        try clear hcz109_0
                        try clear hcz109_1
                        try clear hcz113_0
                        try clear hcz113_1
                        try clear hcz122_0
                        try clear hcz122_1
                        try clear hcz130_0
                        try clear hcz130_1
                        try clear hcz134_0
                        try clear hcz134_1
                        try clear hcz13_0
                        try clear hcz13_1
                        try clear hcz140_0
                        try clear hcz140_1
                        try clear hcz144_0
                        try clear hcz144_1
                        try clear hcz15_0
                        try clear hcz15_1
                        try clear hcz21_0
                        try clear hcz21_1
                        try clear hcz23_0
                        try clear hcz23_1
                        try clear hcz28_0
                        try clear hcz28_1
                        try clear hcz35_0
                        try clear hcz35_1
                        try clear hcz42_0
                        try clear hcz42_1
                        try clear hcz45_0
                        try clear hcz45_1
                        try clear hcz50_0
                        try clear hcz50_1
                        try clear hcz53_0
                        try clear hcz53_1
                        try clear hcz5_0
                        try clear hcz5_1
                        try clear hcz68_0
                        try clear hcz68_1
                        try clear hcz76_0
                        try clear hcz76_1
                        try clear hcz79_0
                        try clear hcz79_1
                        try clear hcz84_0
                        try clear hcz84_1
                        try clear hcz87_0
                        try clear hcz87_1
                        try clear hcz96_0
                        try clear hcz96_1
                        try clear hcz98_0
                        try clear hcz98_1
                        try clear hfz107_0
                        try clear hfz107_1
                        try clear hfz109_0
                        try clear hfz109_1
                        try clear hfz113_0
                        try clear hfz113_1
                        try clear hfz122_0
                        try clear hfz122_1
                        try clear hfz130_0
                        try clear hfz130_1
                        try clear hfz134_0
                        try clear hfz134_1
                        try clear hfz13_0
                        try clear hfz13_1
                        try clear hfz140_0
                        try clear hfz140_1
                        try clear hfz144_0
                        try clear hfz144_1
                        try clear hfz15_0
                        try clear hfz15_1
                        try clear hfz21_0
                        try clear hfz21_1
                        try clear hfz23_0
                        try clear hfz23_1
                        try clear hfz28_0
                        try clear hfz28_1
                        try clear hfz35_0
                        try clear hfz35_1
                        try clear hfz42_0
                        try clear hfz42_1
                        try clear hfz45_0
                        try clear hfz45_1
                        try clear hfz50_0
                        try clear hfz50_1
                        try clear hfz53_0
                        try clear hfz53_1
                        try clear hfz5_0
                        try clear hfz5_1
                        try clear hfz68_0
                        try clear hfz68_1
                        try clear hfz76_0
                        try clear hfz76_1
                        try clear hfz79_0
                        try clear hfz79_1
                        try clear hfz84_0
                        try clear hfz84_1
                        try clear hfz87_0
                        try clear hfz87_1
                        try clear hfz96_0
                        try clear hfz96_1
                        try clear hfz98_0
                        try clear hfz98_1
                        try clear p2
                        obtain ⟨kq, x87_102, rfl, HA, HJ102, HO_446001, HO_451001, HO_457001, HO_479001, BK434, BK445, BK450, BK456, BK478, HB⟩ := hcut
                        have hl457001_102 := (Kd.R_reads' HO_457001.out).1
                        rw [hl457001_102] at HO_457001
                        (try simp only [hl457001_102])
                        (try simp only [hl457001_102] at BK434)
                        (try simp only [hl457001_102] at BK445)
                        (try simp only [hl457001_102] at BK450)
                        (try simp only [hl457001_102] at BK456)
                        (try simp only [hl457001_102] at BK478)
                        (try simp only [hl457001_102] at HO_446001)
                        (try simp only [hl457001_102] at HO_451001)
                        (try simp only [hl457001_102] at HO_479001)
                        cases kq with
                        | zero => exact absurd HA.out (by simp [laws_FnExactReduceLadder.j2])
                        | succ kj102 =>
                          have H := HA.out
                          clear HA
                          simp only [laws_FnExactReduceLadder.j2] at H
                          by_cases c146 : x87_102 = true
                          · subst c146
                            have H1 : (some false) = some r := by rw [if_pos rfl] at H; exact H
                            clear H
                            have H := H1
                            clear H1
                            obtain rfl := Option.some.inj H
                            go_wp2
                            go_ret
                            exact ⟨by first | rfl | (simp [errW_none, errW_some] <;> rfl) | (simp [*, errW_none, errW_some] <;> rfl), by repeat (first | (with_reducible first | exact HB.out | apply below_alloc | apply pw_below_drewN | apply below_drew1 | refine below_set ?_ GE434.out | refine below_set ?_ GE445.out | refine below_set ?_ GE450.out | refine below_set ?_ GE456.out | refine below_set ?_ GE478.out) | exact HB.out)⟩
                          · replace c146 := Bool.eq_false_iff.mpr c146
                            subst c146
                            have H1 : ((laws_heldLadder.f kj102 t451 t467 1).bind fun t480 => (if t480 < 0 then (some false) else (if t480 = t466 then (some true) else (some false)))) = some r := by rw [if_neg (show ¬ (false = true) by decide)] at H; exact H
                            clear H
                            have H := H1
                            clear H1
                            replace H := Option.bind_eq_some_iff.mp H
                            obtain ⟨t480, A1470, H⟩ := H
                            replace H : (if t480 < 0 then (some false) else (if t480 = t466 then (some true) else (some false))) = some r := H
                            have A147 := Aside0.mk A1470
                            clear A1470
                            by_cases c148 : t480 < 0
                            · rw [if_pos c148] at H
                              have c148b0 : decide (t480 < 0) = true := decide_eq_true c148
                              clear c148
                              obtain rfl := Option.some.inj H
                              have hnb149 := NB456_434.out
                              have hnc149 := NB434_456.out
                              have hnb150 := NB456_445.out
                              have hnc150 := NB445_456.out
                              have hnb151 := NB456_450.out
                              have hnc151 := NB450_456.out
                              have hnb152 := NB456_478.out
                              have hnc152 := NB478_456.out
                              have hcz153_0 : wc.cell? ⟨gb456, 0, none⟩ = some (.int .i64 t451) := (blk_cell BK456.out 0).trans rfl
                              have hcz153_1 : wc.cell? ⟨gb456, 1, none⟩ = some (.slice Ao36 t467.length co36) := (blk_cell BK456.out 1).trans rfl
                              have hfz153_0 := blk_frozen BK456.out 0
                              have hfz153_1 := blk_frozen BK456.out 1
                              go_wp2_with (first | ((with_reducible refine gate_callee (f := 20) rfl ?_); refine goesL_ (some 90) rfl rfl Try.func20 (by kernel_rfl) rfl #[.agg #[.int .i64 t451, .slice Ao36 t467.length co36], .int .i64 1] rfl (by (try simp only [List.map_toArray, List.map_cons, List.map_nil]); first | done | rfl | (simp only [List.length_drop, List.length_take]; rfl)) ?_; (with_reducible refine (laws_heldLadder.calls kj102 t451 _ _ t467 1 t480 _ ?side1 ?side2 A147.out).mono ?_); (case side1 => repeat (first | exact (Kd.R_reads' HO_457001.out).2.2 | (with_reducible refine Kd.C_alloc ?_ _) | (with_reducible refine Kd.C_drewN ?_ _) | (with_reducible refine Kd.C_drew ?_))); (case side2 => exact (Kd.R_reads' HO_457001.out).2.1); rintro e w154 ⟨rfl, hb⟩; refine ⟨_, rfl, ?_⟩; have n0_ := Aside0.mk (Kd.R_below (by (with_reducible repeat (first | apply Kd.R_alloc | apply Kd.R_drewN | apply Kd.R_drew)); exact HO_446001.out) hb); have n1_ := Aside0.mk (Kd.R_below (by (with_reducible repeat (first | apply Kd.R_alloc | apply Kd.R_drewN | apply Kd.R_drew)); exact HO_451001.out) hb); have n2_ := Aside0.mk (Kd.R_below (by (with_reducible repeat (first | apply Kd.R_alloc | apply Kd.R_drewN | apply Kd.R_drew)); exact HO_457001.out) hb); have n3_ := Aside0.mk (Kd.R_below (by (with_reducible repeat (first | apply Kd.R_alloc | apply Kd.R_drewN | apply Kd.R_drew)); exact HO_479001.out) hb); have n4_ := Aside0.mk (blk_below (g := gb434) (o := .cells #[.int .i64 a0_0, .slice A0_1 l0_1.length c0_1] 24 (0, 0)) (by (with_reducible repeat (first | refine blk_drewN ?_ _ | refine blk_drew ?_ | refine blk_alloc ?_ _)); exact BK434.out) hb); have n5_ := Aside0.mk (blk_below (g := gb445) (o := .cells #[.int .i64 t440, .slice Ao22 t441.length co22] 26 (0, 0)) (by (with_reducible repeat (first | refine blk_drewN ?_ _ | refine blk_drew ?_ | refine blk_alloc ?_ _)); exact BK445.out) hb); have n6_ := Aside0.mk (blk_below (g := gb450) (o := .cells #[.int .i64 t446, .slice Ao29 t464.length co29] 26 (0, 0)) (by (with_reducible repeat (first | refine blk_drewN ?_ _ | refine blk_drew ?_ | refine blk_alloc ?_ _)); exact BK450.out) hb); have n7_ := Aside0.mk (blk_below (g := gb456) (o := .cells #[.int .i64 t451, .slice Ao36 t467.length co36] 26 (0, 0)) (by (with_reducible repeat (first | refine blk_drewN ?_ _ | refine blk_drew ?_ | refine blk_alloc ?_ _)); exact BK456.out) hb); have n8_ := Aside0.mk (blk_below (g := gb478) (o := .cells #[.int .i64 t473, .slice Ao123 t474.length co123] 26 (0, 0)) (by (with_reducible repeat (first | refine blk_drewN ?_ _ | refine blk_drew ?_ | refine blk_alloc ?_ _)); exact BK478.out) hb); have n9_ := Aside0.mk (below_step (by repeat (first | (with_reducible first | exact HB.out | apply below_alloc | apply pw_below_drewN | apply below_drew1 | refine below_set ?_ GE434.out | refine below_set ?_ GE445.out | refine below_set ?_ GE450.out | refine below_set ?_ GE456.out | refine below_set ?_ GE478.out) | exact HB.out)) hb); clear HO_446001; clear HO_451001; clear HO_457001; clear HO_479001; clear BK434; clear BK445; clear BK450; clear BK456; clear BK478; clear HB; have HO_446001 := n0_; have HO_451001 := n1_; have HO_457001 := n2_; have HO_479001 := n3_; have BK434 := n4_; have BK445 := n5_; have BK450 := n6_; have BK456 := n7_; have BK478 := n8_; have HB := n9_; clear n0_ n1_ n2_ n3_ n4_ n5_ n6_ n7_ n8_ n9_; (try clear hb); (try clear hb2); (try clear hk); (try clear hi)))
                              go_ret
                              exact ⟨by first | rfl | (simp [errW_none, errW_some] <;> rfl) | (simp [*, errW_none, errW_some] <;> rfl), by repeat (first | (with_reducible first | exact HB.out | apply below_alloc | apply pw_below_drewN | apply below_drew1 | refine below_set ?_ GE434.out | refine below_set ?_ GE445.out | refine below_set ?_ GE450.out | refine below_set ?_ GE456.out | refine below_set ?_ GE478.out) | exact HB.out)⟩
                            · rw [if_neg c148] at H
                              have c148b0 : decide (t480 < 0) = false := decide_eq_false c148
                              clear c148
                              by_cases c155 : t480 = t466
                              · rw [if_pos c155] at H
                                have c155b0 : (t480 == t466) = true := beq_iff_eq.mpr c155
                                have c155b1 : (t480 != t466) = false := bne_eq_false_iff_eq.mpr c155
                                clear c155
                                obtain rfl := Option.some.inj H
                                have hnb156 := NB456_434.out
                                have hnc156 := NB434_456.out
                                have hnb157 := NB456_445.out
                                have hnc157 := NB445_456.out
                                have hnb158 := NB456_450.out
                                have hnc158 := NB450_456.out
                                have hnb159 := NB456_478.out
                                have hnc159 := NB478_456.out
                                have hcz160_0 : wc.cell? ⟨gb456, 0, none⟩ = some (.int .i64 t451) := (blk_cell BK456.out 0).trans rfl
                                have hcz160_1 : wc.cell? ⟨gb456, 1, none⟩ = some (.slice Ao36 t467.length co36) := (blk_cell BK456.out 1).trans rfl
                                have hfz160_0 := blk_frozen BK456.out 0
                                have hfz160_1 := blk_frozen BK456.out 1
                                go_wp2_with (first | ((with_reducible refine gate_callee (f := 20) rfl ?_); refine goesL_ (some 90) rfl rfl Try.func20 (by kernel_rfl) rfl #[.agg #[.int .i64 t451, .slice Ao36 t467.length co36], .int .i64 1] rfl (by (try simp only [List.map_toArray, List.map_cons, List.map_nil]); first | done | rfl | (simp only [List.length_drop, List.length_take]; rfl)) ?_; (with_reducible refine (laws_heldLadder.calls kj102 t451 _ _ t467 1 t480 _ ?side1 ?side2 A147.out).mono ?_); (case side1 => repeat (first | exact (Kd.R_reads' HO_457001.out).2.2 | (with_reducible refine Kd.C_alloc ?_ _) | (with_reducible refine Kd.C_drewN ?_ _) | (with_reducible refine Kd.C_drew ?_))); (case side2 => exact (Kd.R_reads' HO_457001.out).2.1); rintro e w161 ⟨rfl, hb⟩; refine ⟨_, rfl, ?_⟩; have n0_ := Aside0.mk (Kd.R_below (by (with_reducible repeat (first | apply Kd.R_alloc | apply Kd.R_drewN | apply Kd.R_drew)); exact HO_446001.out) hb); have n1_ := Aside0.mk (Kd.R_below (by (with_reducible repeat (first | apply Kd.R_alloc | apply Kd.R_drewN | apply Kd.R_drew)); exact HO_451001.out) hb); have n2_ := Aside0.mk (Kd.R_below (by (with_reducible repeat (first | apply Kd.R_alloc | apply Kd.R_drewN | apply Kd.R_drew)); exact HO_457001.out) hb); have n3_ := Aside0.mk (Kd.R_below (by (with_reducible repeat (first | apply Kd.R_alloc | apply Kd.R_drewN | apply Kd.R_drew)); exact HO_479001.out) hb); have n4_ := Aside0.mk (blk_below (g := gb434) (o := .cells #[.int .i64 a0_0, .slice A0_1 l0_1.length c0_1] 24 (0, 0)) (by (with_reducible repeat (first | refine blk_drewN ?_ _ | refine blk_drew ?_ | refine blk_alloc ?_ _)); exact BK434.out) hb); have n5_ := Aside0.mk (blk_below (g := gb445) (o := .cells #[.int .i64 t440, .slice Ao22 t441.length co22] 26 (0, 0)) (by (with_reducible repeat (first | refine blk_drewN ?_ _ | refine blk_drew ?_ | refine blk_alloc ?_ _)); exact BK445.out) hb); have n6_ := Aside0.mk (blk_below (g := gb450) (o := .cells #[.int .i64 t446, .slice Ao29 t464.length co29] 26 (0, 0)) (by (with_reducible repeat (first | refine blk_drewN ?_ _ | refine blk_drew ?_ | refine blk_alloc ?_ _)); exact BK450.out) hb); have n7_ := Aside0.mk (blk_below (g := gb456) (o := .cells #[.int .i64 t451, .slice Ao36 t467.length co36] 26 (0, 0)) (by (with_reducible repeat (first | refine blk_drewN ?_ _ | refine blk_drew ?_ | refine blk_alloc ?_ _)); exact BK456.out) hb); have n8_ := Aside0.mk (blk_below (g := gb478) (o := .cells #[.int .i64 t473, .slice Ao123 t474.length co123] 26 (0, 0)) (by (with_reducible repeat (first | refine blk_drewN ?_ _ | refine blk_drew ?_ | refine blk_alloc ?_ _)); exact BK478.out) hb); have n9_ := Aside0.mk (below_step (by repeat (first | (with_reducible first | exact HB.out | apply below_alloc | apply pw_below_drewN | apply below_drew1 | refine below_set ?_ GE434.out | refine below_set ?_ GE445.out | refine below_set ?_ GE450.out | refine below_set ?_ GE456.out | refine below_set ?_ GE478.out) | exact HB.out)) hb); clear HO_446001; clear HO_451001; clear HO_457001; clear HO_479001; clear BK434; clear BK445; clear BK450; clear BK456; clear BK478; clear HB; have HO_446001 := n0_; have HO_451001 := n1_; have HO_457001 := n2_; have HO_479001 := n3_; have BK434 := n4_; have BK445 := n5_; have BK450 := n6_; have BK456 := n7_; have BK478 := n8_; have HB := n9_; clear n0_ n1_ n2_ n3_ n4_ n5_ n6_ n7_ n8_ n9_; (try clear hb); (try clear hb2); (try clear hk); (try clear hi)))
                                go_ret
                                exact ⟨by first | rfl | (simp [errW_none, errW_some] <;> rfl) | (simp [*, errW_none, errW_some] <;> rfl), by repeat (first | (with_reducible first | exact HB.out | apply below_alloc | apply pw_below_drewN | apply below_drew1 | refine below_set ?_ GE434.out | refine below_set ?_ GE445.out | refine below_set ?_ GE450.out | refine below_set ?_ GE456.out | refine below_set ?_ GE478.out) | exact HB.out)⟩
                              · rw [if_neg c155] at H
                                have c155b0 : (t480 == t466) = false := beq_eq_false_iff_ne.mpr c155
                                have c155b1 : (t480 != t466) = true := bne_iff_ne.mpr c155
                                obtain rfl := Option.some.inj H
                                have hnb162 := NB456_434.out
                                have hnc162 := NB434_456.out
                                have hnb163 := NB456_445.out
                                have hnc163 := NB445_456.out
                                have hnb164 := NB456_450.out
                                have hnc164 := NB450_456.out
                                have hnb165 := NB456_478.out
                                have hnc165 := NB478_456.out
                                have hcz166_0 : wc.cell? ⟨gb456, 0, none⟩ = some (.int .i64 t451) := (blk_cell BK456.out 0).trans rfl
                                have hcz166_1 : wc.cell? ⟨gb456, 1, none⟩ = some (.slice Ao36 t467.length co36) := (blk_cell BK456.out 1).trans rfl
                                have hfz166_0 := blk_frozen BK456.out 0
                                have hfz166_1 := blk_frozen BK456.out 1
                                go_wp2_with (first | ((with_reducible refine gate_callee (f := 20) rfl ?_); refine goesL_ (some 90) rfl rfl Try.func20 (by kernel_rfl) rfl #[.agg #[.int .i64 t451, .slice Ao36 t467.length co36], .int .i64 1] rfl (by (try simp only [List.map_toArray, List.map_cons, List.map_nil]); first | done | rfl | (simp only [List.length_drop, List.length_take]; rfl)) ?_; (with_reducible refine (laws_heldLadder.calls kj102 t451 _ _ t467 1 t480 _ ?side1 ?side2 A147.out).mono ?_); (case side1 => repeat (first | exact (Kd.R_reads' HO_457001.out).2.2 | (with_reducible refine Kd.C_alloc ?_ _) | (with_reducible refine Kd.C_drewN ?_ _) | (with_reducible refine Kd.C_drew ?_))); (case side2 => exact (Kd.R_reads' HO_457001.out).2.1); rintro e w167 ⟨rfl, hb⟩; refine ⟨_, rfl, ?_⟩; have n0_ := Aside0.mk (Kd.R_below (by (with_reducible repeat (first | apply Kd.R_alloc | apply Kd.R_drewN | apply Kd.R_drew)); exact HO_446001.out) hb); have n1_ := Aside0.mk (Kd.R_below (by (with_reducible repeat (first | apply Kd.R_alloc | apply Kd.R_drewN | apply Kd.R_drew)); exact HO_451001.out) hb); have n2_ := Aside0.mk (Kd.R_below (by (with_reducible repeat (first | apply Kd.R_alloc | apply Kd.R_drewN | apply Kd.R_drew)); exact HO_457001.out) hb); have n3_ := Aside0.mk (Kd.R_below (by (with_reducible repeat (first | apply Kd.R_alloc | apply Kd.R_drewN | apply Kd.R_drew)); exact HO_479001.out) hb); have n4_ := Aside0.mk (blk_below (g := gb434) (o := .cells #[.int .i64 a0_0, .slice A0_1 l0_1.length c0_1] 24 (0, 0)) (by (with_reducible repeat (first | refine blk_drewN ?_ _ | refine blk_drew ?_ | refine blk_alloc ?_ _)); exact BK434.out) hb); have n5_ := Aside0.mk (blk_below (g := gb445) (o := .cells #[.int .i64 t440, .slice Ao22 t441.length co22] 26 (0, 0)) (by (with_reducible repeat (first | refine blk_drewN ?_ _ | refine blk_drew ?_ | refine blk_alloc ?_ _)); exact BK445.out) hb); have n6_ := Aside0.mk (blk_below (g := gb450) (o := .cells #[.int .i64 t446, .slice Ao29 t464.length co29] 26 (0, 0)) (by (with_reducible repeat (first | refine blk_drewN ?_ _ | refine blk_drew ?_ | refine blk_alloc ?_ _)); exact BK450.out) hb); have n7_ := Aside0.mk (blk_below (g := gb456) (o := .cells #[.int .i64 t451, .slice Ao36 t467.length co36] 26 (0, 0)) (by (with_reducible repeat (first | refine blk_drewN ?_ _ | refine blk_drew ?_ | refine blk_alloc ?_ _)); exact BK456.out) hb); have n8_ := Aside0.mk (blk_below (g := gb478) (o := .cells #[.int .i64 t473, .slice Ao123 t474.length co123] 26 (0, 0)) (by (with_reducible repeat (first | refine blk_drewN ?_ _ | refine blk_drew ?_ | refine blk_alloc ?_ _)); exact BK478.out) hb); have n9_ := Aside0.mk (below_step (by repeat (first | (with_reducible first | exact HB.out | apply below_alloc | apply pw_below_drewN | apply below_drew1 | refine below_set ?_ GE434.out | refine below_set ?_ GE445.out | refine below_set ?_ GE450.out | refine below_set ?_ GE456.out | refine below_set ?_ GE478.out) | exact HB.out)) hb); clear HO_446001; clear HO_451001; clear HO_457001; clear HO_479001; clear BK434; clear BK445; clear BK450; clear BK456; clear BK478; clear HB; have HO_446001 := n0_; have HO_451001 := n1_; have HO_457001 := n2_; have HO_479001 := n3_; have BK434 := n4_; have BK445 := n5_; have BK450 := n6_; have BK456 := n7_; have BK478 := n8_; have HB := n9_; clear n0_ n1_ n2_ n3_ n4_ n5_ n6_ n7_ n8_ n9_; (try clear hb); (try clear hb2); (try clear hk); (try clear hi)))
                                go_ret
                                exact ⟨by first | rfl | (simp [errW_none, errW_some] <;> rfl) | (simp [*, errW_none, errW_some] <;> rfl), by repeat (first | (with_reducible first | exact HB.out | apply below_alloc | apply pw_below_drewN | apply below_drew1 | refine below_set ?_ GE434.out | refine below_set ?_ GE445.out | refine below_set ?_ GE450.out | refine below_set ?_ GE456.out | refine below_set ?_ GE478.out) | exact HB.out)⟩
                    · rw [if_neg c100] at H
                      have c100b0 : (t468 == t466) = false := beq_eq_false_iff_ne.mpr c100
                      have c100b1 : (t468 != t466) = true := bne_iff_ne.mpr c100
                      obtain rfl := Option.some.inj H
                      have hnb168 := NB456_434.out
                      have hnc168 := NB434_456.out
                      have hnb169 := NB456_445.out
                      have hnc169 := NB445_456.out
                      have hnb170 := NB456_450.out
                      have hnc170 := NB450_456.out
                      have hcz171_0 : wc.cell? ⟨gb456, 0, none⟩ = some (.int .i64 t451) := (blk_cell BK456.out 0).trans rfl
                      have hcz171_1 : wc.cell? ⟨gb456, 1, none⟩ = some (.slice Ao36 t452.length co36) := (blk_cell BK456.out 1).trans rfl
                      have hfz171_0 := blk_frozen BK456.out 0
                      have hfz171_1 := blk_frozen BK456.out 1
                      go_wp2_with (first | ((with_reducible refine gate_callee (f := 19) rfl ?_); refine goesL_ (some 64) rfl rfl Try.func19 (by kernel_rfl) rfl #[.agg #[.int .i64 t451, .slice Ao36 t452.length co36], .int .i64 1] rfl (by (try simp only [List.map_toArray, List.map_cons, List.map_nil]); first | done | rfl | (simp only [List.length_drop, List.length_take]; rfl)) ?_; (with_reducible refine (laws_markLadder.calls kj59 t451 (fun k_ => some k_ = (.slice Ao36 t452.length co36 : Value).ownBlock) (.slice Ao36 t452.length co36) t452 1 t466 t467 w _ ?side1 ?side2 A90.out).mono ?_); (case side1 => repeat (first | (with_reducible first | exact HB.out | apply below_alloc | apply pw_below_drewN | apply below_drew1 | refine below_set ?_ GE434.out | refine below_set ?_ GE445.out | refine below_set ?_ GE450.out | refine below_set ?_ GE456.out) | exact HB.out)); (case side2 => exact Kd.R_tight rfl HO_457001.out); rintro e w172 ⟨rfl, hy0, hb, hkp⟩; refine ⟨_, rfl, ?_⟩; have n0_ := Aside0.mk (Kd.R_mono (ok' := fun k_ => some k_ ≠ (.slice Ao29 t464.length co29 : Value).ownBlock ∧ some k_ ≠ (.slice Ao36 t452.length co36 : Value).ownBlock) (Kd.R_keptB (HO_446001.out) hkp (fun k_ hk_ hs_ => (hk_.2) hs_)) (fun k_ hk_ => ⟨hk_.1.1, hk_.1.2⟩)); have n1_ := Aside0.mk (Kd.R_mono (ok' := fun k_ => some k_ ≠ (.slice Ao22 t441.length co22 : Value).ownBlock ∧ some k_ ≠ (.slice Ao36 t452.length co36 : Value).ownBlock) (Kd.R_keptB (HO_451001.out) hkp (fun k_ hk_ hs_ => (hk_.2) hs_)) (fun k_ hk_ => ⟨hk_.1.1, hk_.1.2⟩)); have n2_ := Aside0.mk (Kd.R_reok rfl hy0 (fun k_ e_ => HO_457001.out.1 k_ e_)); have n3_ := Aside0.mk (blk_kept (by (with_reducible repeat (first | refine blk_drewN ?_ _ | refine blk_drew ?_ | refine blk_alloc ?_ _)); exact BK434.out) hkp (fun hs_ => (fun e_ => (Kd.R_ne HO_457001.out BK434.out (by decide)) e_) hs_)); have n4_ := Aside0.mk (blk_kept (by (with_reducible repeat (first | refine blk_drewN ?_ _ | refine blk_drew ?_ | refine blk_alloc ?_ _)); exact BK445.out) hkp (fun hs_ => (fun e_ => (Kd.R_ne HO_457001.out BK445.out (by decide)) e_) hs_)); have n5_ := Aside0.mk (blk_kept (by (with_reducible repeat (first | refine blk_drewN ?_ _ | refine blk_drew ?_ | refine blk_alloc ?_ _)); exact BK450.out) hkp (fun hs_ => (fun e_ => (Kd.R_ne HO_457001.out BK450.out (by decide)) e_) hs_)); have n6_ := Aside0.mk (blk_kept (by (with_reducible repeat (first | refine blk_drewN ?_ _ | refine blk_drew ?_ | refine blk_alloc ?_ _)); exact BK456.out) hkp (fun hs_ => (fun e_ => (Kd.R_ne HO_457001.out BK456.out (by decide)) e_) hs_)); have n7_ := Aside0.mk (hb); clear HO_446001; clear HO_451001; clear HO_457001; clear BK434; clear BK445; clear BK450; clear BK456; clear HB; have HO_446001 := n0_; have HO_451001 := n1_; have HO_457001 := n2_; have BK434 := n3_; have BK445 := n4_; have BK450 := n5_; have BK456 := n6_; have HB := n7_; clear n0_ n1_ n2_ n3_ n4_ n5_ n6_ n7_; (try clear hb); (try clear hkp); (try clear hy0); have hcz173_0 : w172.cell? ⟨gb456, 0, none⟩ = some (.int .i64 t451) := (blk_cell BK456.out 0).trans rfl; have hcz173_1 : w172.cell? ⟨gb456, 1, none⟩ = some (.slice Ao36 t452.length co36) := (blk_cell BK456.out 1).trans rfl; have hfz173_0 := blk_frozen BK456.out 0; have hfz173_1 := blk_frozen BK456.out 1) | ((with_reducible refine gate_callee (f := 20) rfl ?_); refine goesL_ (some 67) rfl rfl Try.func20 (by kernel_rfl) rfl #[.agg #[.int .i64 t451, .slice Ao36 t467.length co36], .int .i64 1] rfl (by (try simp only [List.map_toArray, List.map_cons, List.map_nil]); first | done | (rw [show t467.length = t452.length from (Kd.R_reads' HO_457001.out).1.symm] <;> rfl) | rfl | (simp only [List.length_drop, List.length_take]; rfl)) ?_; (with_reducible refine (laws_heldLadder.calls kj59 t451 _ _ t467 1 t468 _ ?side1 ?side2 A91.out).mono ?_); (case side1 => repeat (first | exact (Kd.R_reads' HO_457001.out).2.2 | (with_reducible refine Kd.C_alloc ?_ _) | (with_reducible refine Kd.C_drewN ?_ _) | (with_reducible refine Kd.C_drew ?_))); (case side2 => rw [show t467.length = t452.length from (Kd.R_reads' HO_457001.out).1.symm]; exact (Kd.R_reads' HO_457001.out).2.1); rintro e w174 ⟨rfl, hb⟩; refine ⟨_, rfl, ?_⟩; have n0_ := Aside0.mk (Kd.R_below (by (with_reducible repeat (first | apply Kd.R_alloc | apply Kd.R_drewN | apply Kd.R_drew)); exact HO_446001.out) hb); have n1_ := Aside0.mk (Kd.R_below (by (with_reducible repeat (first | apply Kd.R_alloc | apply Kd.R_drewN | apply Kd.R_drew)); exact HO_451001.out) hb); have n2_ := Aside0.mk (Kd.R_below (by (with_reducible repeat (first | apply Kd.R_alloc | apply Kd.R_drewN | apply Kd.R_drew)); exact HO_457001.out) hb); have n3_ := Aside0.mk (blk_below (g := gb434) (o := .cells #[.int .i64 a0_0, .slice A0_1 l0_1.length c0_1] 24 (0, 0)) (by (with_reducible repeat (first | refine blk_drewN ?_ _ | refine blk_drew ?_ | refine blk_alloc ?_ _)); exact BK434.out) hb); have n4_ := Aside0.mk (blk_below (g := gb445) (o := .cells #[.int .i64 t440, .slice Ao22 t441.length co22] 26 (0, 0)) (by (with_reducible repeat (first | refine blk_drewN ?_ _ | refine blk_drew ?_ | refine blk_alloc ?_ _)); exact BK445.out) hb); have n5_ := Aside0.mk (blk_below (g := gb450) (o := .cells #[.int .i64 t446, .slice Ao29 t464.length co29] 26 (0, 0)) (by (with_reducible repeat (first | refine blk_drewN ?_ _ | refine blk_drew ?_ | refine blk_alloc ?_ _)); exact BK450.out) hb); have n6_ := Aside0.mk (blk_below (g := gb456) (o := .cells #[.int .i64 t451, .slice Ao36 t452.length co36] 26 (0, 0)) (by (with_reducible repeat (first | refine blk_drewN ?_ _ | refine blk_drew ?_ | refine blk_alloc ?_ _)); exact BK456.out) hb); have n7_ := Aside0.mk (below_step (by repeat (first | (with_reducible first | exact HB.out | apply below_alloc | apply pw_below_drewN | apply below_drew1 | refine below_set ?_ GE434.out | refine below_set ?_ GE445.out | refine below_set ?_ GE450.out | refine below_set ?_ GE456.out) | exact HB.out)) hb); clear HO_446001; clear HO_451001; clear HO_457001; clear BK434; clear BK445; clear BK450; clear BK456; clear HB; have HO_446001 := n0_; have HO_451001 := n1_; have HO_457001 := n2_; have BK434 := n3_; have BK445 := n4_; have BK450 := n5_; have BK456 := n6_; have HB := n7_; clear n0_ n1_ n2_ n3_ n4_ n5_ n6_ n7_; (try clear hb); (try clear hb2); (try clear hk); (try clear hi)))
                      go_ret
                      exact ⟨by first | rfl | (simp [errW_none, errW_some] <;> rfl) | (simp [*, errW_none, errW_some] <;> rfl), by repeat (first | (with_reducible first | exact HB.out | apply below_alloc | apply pw_below_drewN | apply below_drew1 | refine below_set ?_ GE434.out | refine below_set ?_ GE445.out | refine below_set ?_ GE450.out | refine below_set ?_ GE456.out) | exact HB.out)⟩
          · replace c58 := Bool.eq_false_iff.mpr c58
            subst c58
            have H1 : (some false) = some r := by rw [if_neg (show ¬ (false = true) by decide)] at H; exact H
            clear H
            have H := H1
            clear H1
            obtain rfl := Option.some.inj H
            try go_wp2
            have n0_ := Aside0.mk (Kd.R_drew HO_446001.out)
            have n1_ := Aside0.mk (Kd.R_drew HO_451001.out)
            have n2_ := Aside0.mk (Kd.R_drew HO_457001.out)
            have n3_ := Aside0.mk (blk_drew BK434.out)
            have n4_ := Aside0.mk (blk_drew BK445.out)
            have n5_ := Aside0.mk (blk_drew BK450.out)
            have n6_ := Aside0.mk (blk_drew BK456.out)
            have n7_ := Aside0.mk (below_drew1 HB.out)
            clear HO_446001
            clear HO_451001
            clear HO_457001
            clear BK434
            clear BK445
            clear BK450
            clear BK456
            clear HB
            have HO_446001 := n0_
            have HO_451001 := n1_
            have HO_457001 := n2_
            have BK434 := n3_
            have BK445 := n4_
            have BK450 := n5_
            have BK456 := n6_
            have HB := n7_
            clear n0_ n1_ n2_ n3_ n4_ n5_ n6_ n7_
            refine start_ (n := 5) (S := fun w' => w'.cell? ⟨gb450, 0, none⟩ = some (.int .i64 t446) ∧ w'.cell? ⟨gb450, 1, none⟩ = some (.slice Ao29 t447.length co29) ∧ w'.cell? ⟨gb434, 0, none⟩ = some (.int .i64 a0_0) ∧ w'.cell? ⟨gb434, 1, none⟩ = some (.slice A0_1 l0_1.length c0_1)) (ds := []) #[false, false, false, false, false] (by kernel_rfl) rfl rfl ⟨(blk_cell BK450.out 0).trans rfl, (blk_cell BK450.out 1).trans rfl, (blk_cell BK434.out 0).trans rfl, (blk_cell BK434.out 1).trans rfl⟩ (fun hHeld => ?_)
            generalize wc.drew = w175 at HO_446001 HO_451001 HO_457001 BK434 BK445 BK450 BK456 HB hHeld ⊢
            refine take_ (i := 0) (N := some 41) (v := ?_) (a' := ?_) #[true, false, false, false, false] rfl rfl (by kernel_rfl) (fun _ _ _ h => h) (Or.inl ⟨by rfl, ?_⟩) hHeld ?_ ?_
            rotate_left
            · rintro w' ⟨s0, s1, s2, s3⟩
              go_simp
              with_reducible rfl
            rotate_left
            · simp only [Act.put, List.setIfInBounds_toArray, List.set_cons_zero, List.set_cons_succ, i64_w, i32_w]
              rfl
            refine take_ (i := 1) (N := some 42) (v := ?_) (a' := ?_) #[true, true, false, false, false] rfl rfl (by kernel_rfl) (fun _ _ _ h => h) (Or.inl ⟨by rfl, ?_⟩) hHeld ?_ ?_
            rotate_left
            · rintro w' ⟨s0, s1, s2, s3⟩
              go_simp
              with_reducible rfl
            rotate_left
            · simp only [Act.put, List.setIfInBounds_toArray, List.set_cons_zero, List.set_cons_succ, i64_w, i32_w]
              rfl
            refine one_ (i := 2) (N := some 43) #[true, true, true, false, false] rfl rfl (by kernel_rfl) (by decide) (fun K hK => ?_)
            refine goes_ Try.func16 (by kernel_rfl) rfl #[.agg #[.int .i64 a0_0, .slice A0_1 l0_1.length c0_1]] (by rfl) rfl rfl (by (try simp only [List.map_toArray, List.map_cons, List.map_nil]); first | done | rfl | (simp only [List.length_drop, List.length_take]; rfl)) ?_
            with_reducible refine (laws_toLadder.calls kj10 a0_0 _ _ l0_1 t458 t459 _ ?side1 ?side2 A56.out).mono ?_
            (case side1 => repeat (first | exact (Kd.C_below HR0_1.out HB.out) | (with_reducible refine Kd.C_alloc ?_ _) | (with_reducible refine Kd.C_drewN ?_ _) | (with_reducible refine Kd.C_drew ?_)))
            (case side2 => exact HC0_1.out)
            rintro e w176 ⟨v460, rfl, ho0, hb⟩
            refine ⟨_, rfl, ?_⟩
            have n0_ := Aside0.mk (Kd.R_elder' (by (with_reducible repeat (first | apply Kd.R_alloc | apply Kd.R_drewN | apply Kd.R_drew)); exact HO_446001.out) (Kd.R_base ho0) hb)
            have n1_ := Aside0.mk (Kd.R_elder' (by (with_reducible repeat (first | apply Kd.R_alloc | apply Kd.R_drewN | apply Kd.R_drew)); exact HO_451001.out) (Kd.R_base ho0) hb)
            have n2_ := Aside0.mk (Kd.R_elder' (by (with_reducible repeat (first | apply Kd.R_alloc | apply Kd.R_drewN | apply Kd.R_drew)); exact HO_457001.out) (Kd.R_base ho0) hb)
            have n3_ := Aside0.mk (Kd.R_lower (Kd.R_new' (Kd.R_new' (Kd.R_new' ho0 (Kd.R_lt (by (with_reducible repeat (first | apply Kd.R_alloc | apply Kd.R_drewN | apply Kd.R_drew)); exact HO_446001.out))) (Kd.R_lt (by (with_reducible repeat (first | apply Kd.R_alloc | apply Kd.R_drewN | apply Kd.R_drew)); exact HO_451001.out))) (Kd.R_lt (by (with_reducible repeat (first | apply Kd.R_alloc | apply Kd.R_drewN | apply Kd.R_drew)); exact HO_457001.out))) (below_size (by repeat (first | (with_reducible first | exact HB.out | apply below_alloc | apply pw_below_drewN | apply below_drew1 | refine below_set ?_ GE434.out | refine below_set ?_ GE445.out | refine below_set ?_ GE450.out | refine below_set ?_ GE456.out) | exact HB.out))))
            have n4_ := Aside0.mk (blk_below (g := gb434) (o := .cells #[.int .i64 a0_0, .slice A0_1 l0_1.length c0_1] 24 (0, 0)) (by (with_reducible repeat (first | refine blk_drewN ?_ _ | refine blk_drew ?_ | refine blk_alloc ?_ _)); exact BK434.out) hb)
            have n5_ := Aside0.mk (blk_below (g := gb445) (o := .cells #[.int .i64 t440, .slice Ao22 t441.length co22] 26 (0, 0)) (by (with_reducible repeat (first | refine blk_drewN ?_ _ | refine blk_drew ?_ | refine blk_alloc ?_ _)); exact BK445.out) hb)
            have n6_ := Aside0.mk (blk_below (g := gb450) (o := .cells #[.int .i64 t446, .slice Ao29 t447.length co29] 26 (0, 0)) (by (with_reducible repeat (first | refine blk_drewN ?_ _ | refine blk_drew ?_ | refine blk_alloc ?_ _)); exact BK450.out) hb)
            have n7_ := Aside0.mk (blk_below (g := gb456) (o := .cells #[.int .i64 t451, .slice Ao36 t452.length co36] 26 (0, 0)) (by (with_reducible repeat (first | refine blk_drewN ?_ _ | refine blk_drew ?_ | refine blk_alloc ?_ _)); exact BK456.out) hb)
            have n8_ := Aside0.mk (below_step (by repeat (first | (with_reducible first | exact HB.out | apply below_alloc | apply pw_below_drewN | apply below_drew1 | refine below_set ?_ GE434.out | refine below_set ?_ GE445.out | refine below_set ?_ GE450.out | refine below_set ?_ GE456.out) | exact HB.out)) hb)
            clear HO_446001
            clear HO_451001
            clear HO_457001
            clear BK434
            clear BK445
            clear BK450
            clear BK456
            clear HB
            have HO_446001 := n0_
            have HO_451001 := n1_
            have HO_457001 := n2_
            have HO461 := n3_
            have BK434 := n4_
            have BK445 := n5_
            have BK450 := n6_
            have BK456 := n7_
            have HB := n8_
            clear n0_ n1_ n2_ n3_ n4_ n5_ n6_ n7_ n8_
            (try clear hb)
            (try clear hb2)
            (try clear hk)
            (try clear hi)
            (try clear ho0)
            obtain ⟨Ao177, co177, eo177⟩ := Kd.R_slice HO461.out
            (first | subst eo177 | (injection eo177 with f1_ f2_ f3_; have f4_ := f1_.symm; have f5_ := f3_.symm; clear f1_ f2_ f3_; subst f4_; subst f5_))
            refine hK.out _ _ ⟨(blk_cell BK450.out 0).trans rfl, (blk_cell BK450.out 1).trans rfl, (blk_cell BK434.out 0).trans rfl, (blk_cell BK434.out 1).trans rfl⟩ (fun hHeld => ?_)
            clear hK K
            refine norm_ (a' := ?_) ?_ ?_
            rotate_left
            · show Act.put _ (some 43) _ = _
              simp only [Act.put, List.setIfInBounds_toArray, List.set_cons_zero, List.set_cons_succ, i64_w, i32_w]
              rfl
            refine one_ (i := 3) (N := some 44) #[true, true, true, true, false] rfl rfl (by kernel_rfl) (by decide) (fun K hK => ?_)
            refine goes_ Try.func18 (by kernel_rfl) rfl #[.agg #[.int .i64 t446, .slice Ao29 t447.length co29], .agg #[.int .i64 t458, .slice Ao177 t459.length co177]] (by rfl) rfl rfl (by (try simp only [List.map_toArray, List.map_cons, List.map_nil]); first | done | rfl | (simp only [List.length_drop, List.length_take]; rfl)) ?_
            with_reducible refine (laws_eqLadder.calls kj10 t446 _ _ t447 t458 _ _ t459 false _ ?side1 ?side2 ?side3 ?side4 A57.out).mono ?_
            (case side1 => repeat (first | exact (Kd.R_reads' HO_451001.out).2.2 | (with_reducible refine Kd.C_alloc ?_ _) | (with_reducible refine Kd.C_drewN ?_ _) | (with_reducible refine Kd.C_drew ?_)))
            (case side2 => exact (Kd.R_reads' HO_451001.out).2.1)
            (case side3 => repeat (first | exact (Kd.R_reads' HO461.out).2.2 | (with_reducible refine Kd.C_alloc ?_ _) | (with_reducible refine Kd.C_drewN ?_ _) | (with_reducible refine Kd.C_drew ?_)))
            (case side4 => exact (Kd.R_reads' HO461.out).2.1)
            rintro e w178 ⟨rfl, hb⟩
            refine ⟨_, rfl, ?_⟩
            have n0_ := Aside0.mk (Kd.R_below (by (with_reducible repeat (first | apply Kd.R_alloc | apply Kd.R_drewN | apply Kd.R_drew)); exact HO_446001.out) hb)
            have n1_ := Aside0.mk (Kd.R_below (by (with_reducible repeat (first | apply Kd.R_alloc | apply Kd.R_drewN | apply Kd.R_drew)); exact HO_451001.out) hb)
            have n2_ := Aside0.mk (Kd.R_below (by (with_reducible repeat (first | apply Kd.R_alloc | apply Kd.R_drewN | apply Kd.R_drew)); exact HO_457001.out) hb)
            have n3_ := Aside0.mk (Kd.R_below (by (with_reducible repeat (first | apply Kd.R_alloc | apply Kd.R_drewN | apply Kd.R_drew)); exact HO461.out) hb)
            have n4_ := Aside0.mk (blk_below (g := gb434) (o := .cells #[.int .i64 a0_0, .slice A0_1 l0_1.length c0_1] 24 (0, 0)) (by (with_reducible repeat (first | refine blk_drewN ?_ _ | refine blk_drew ?_ | refine blk_alloc ?_ _)); exact BK434.out) hb)
            have n5_ := Aside0.mk (blk_below (g := gb445) (o := .cells #[.int .i64 t440, .slice Ao22 t441.length co22] 26 (0, 0)) (by (with_reducible repeat (first | refine blk_drewN ?_ _ | refine blk_drew ?_ | refine blk_alloc ?_ _)); exact BK445.out) hb)
            have n6_ := Aside0.mk (blk_below (g := gb450) (o := .cells #[.int .i64 t446, .slice Ao29 t447.length co29] 26 (0, 0)) (by (with_reducible repeat (first | refine blk_drewN ?_ _ | refine blk_drew ?_ | refine blk_alloc ?_ _)); exact BK450.out) hb)
            have n7_ := Aside0.mk (blk_below (g := gb456) (o := .cells #[.int .i64 t451, .slice Ao36 t452.length co36] 26 (0, 0)) (by (with_reducible repeat (first | refine blk_drewN ?_ _ | refine blk_drew ?_ | refine blk_alloc ?_ _)); exact BK456.out) hb)
            have n8_ := Aside0.mk (below_step (by repeat (first | (with_reducible first | exact HB.out | apply below_alloc | apply pw_below_drewN | apply below_drew1 | refine below_set ?_ GE434.out | refine below_set ?_ GE445.out | refine below_set ?_ GE450.out | refine below_set ?_ GE456.out) | exact HB.out)) hb)
            clear HO_446001
            clear HO_451001
            clear HO_457001
            clear HO461
            clear BK434
            clear BK445
            clear BK450
            clear BK456
            clear HB
            have HO_446001 := n0_
            have HO_451001 := n1_
            have HO_457001 := n2_
            have HO461 := n3_
            have BK434 := n4_
            have BK445 := n5_
            have BK450 := n6_
            have BK456 := n7_
            have HB := n8_
            clear n0_ n1_ n2_ n3_ n4_ n5_ n6_ n7_ n8_
            (try clear hb)
            (try clear hb2)
            (try clear hk)
            (try clear hi)
            refine hK.out _ _ ⟨(blk_cell BK450.out 0).trans rfl, (blk_cell BK450.out 1).trans rfl, (blk_cell BK434.out 0).trans rfl, (blk_cell BK434.out 1).trans rfl⟩ (fun hHeld => ?_)
            clear hK K
            refine norm_ (a' := ?_) ?_ ?_
            rotate_left
            · show Act.put _ (some 44) _ = _
              simp only [Act.put, List.setIfInBounds_toArray, List.set_cons_zero, List.set_cons_succ, i64_w, i32_w]
              rfl
            refine pure_ (i := 4) (N := some 45) (v := ?_) (a' := ?_) #[true, true, true, true, true] rfl rfl (by kernel_rfl) (fun _ _ _ h => h) (Or.inl ⟨by rfl, ?_⟩) ?_ ?_
            rotate_left
            · intro w'
              go_simp
              with_reducible rfl
            rotate_left
            · simp only [Act.put, List.setIfInBounds_toArray, List.set_cons_zero, List.set_cons_succ, i64_w, i32_w]
              rfl
            refine done_ (by kernel_rfl) ?_
            try go_wp2
            go_ret
            exact ⟨by first | rfl | (simp [errW_none, errW_some] <;> rfl) | (simp [*, errW_none, errW_some] <;> rfl), by repeat (first | (with_reducible first | exact HB.out | apply below_alloc | apply pw_below_drewN | apply below_drew1 | refine below_set ?_ GE434.out | refine below_set ?_ GE445.out | refine below_set ?_ GE450.out | refine below_set ?_ GE456.out) | exact HB.out)⟩

/-- THE ONE PURE STATEMENT of laws_FnExactReduceLadder. -/
def laws_FnExactReduceLadder.Pure : Prop := ∀ (a0_0 : Int) (l0_1 : List Int), (Lit.int .i64 a0_0).wf = true → l0_1.length ≤ maxLen → l0_1.length * 8 ≤ 140737488351232 → (∀ x ∈ l0_1, (Lit.int .i64 x).wf = true) → ∃ k, laws_FnExactReduceLadder.f k a0_0 l0_1 = some true
theorem laws_FnExactReduceLadder.walk (P : laws_FnExactReduceLadder.Pure) (a0_0 : Int) (a0_1 : Option Addr) (len0_1 cap0_1 : Nat) (z0_1 : List Int) (w : World) (w0_0 : (Lit.int .i64 a0_0).wf = true) (w0_1 : (a0_1 = none ∧ len0_1 = 0 ∧ cap0_1 = 0 ∧ z0_1 = []) ∨ ∃ x, a0_1 = some x ∧ len0_1 ≤ cap0_1 ∧ cap0_1 ≤ maxLen ∧ z0_1.length = cap0_1 ∧ (∀ i, i < z0_1.length → w.cell? (x.add i) = some (.int .i64 (z0_1.getD i 0))) ∧ ∀ n ∈ z0_1, (Lit.int .i64 n).wf = true) (y0_1 : len0_1 * 8 ≤ 140737488351232) :
    Calls Try.prog 6 #[.agg #[.int .i64 a0_0, .slice a0_1 len0_1 cap0_1]] w fun e w' => e = .returned (.bool true) ∧ Below w.heap.size w w' := by
  obtain ⟨l0_1, rfl, hr0_1, hm0_1, hw0_1, hc0_1⟩ := ReadsInt.ofRowC w0_1
  obtain ⟨k, h⟩ := P a0_0 l0_1 w0_0 hm0_1 y0_1 hw0_1
  refine (laws_FnExactReduceLadder.calls k a0_0 _ _ l0_1 true w (Kd.C_of_reads (d := (0 : Int)) (h1 := fun _ => rfl) hr0_1) hc0_1 h).mono ?_
  rintro e w' ⟨rfl, hd⟩
  exact ⟨rfl, hd⟩

end Go.Proofs.Ytmoobmeihckaiaa.PAll
