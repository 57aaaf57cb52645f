-- Written for this claim by a program of this session (myprint.py) over the kit's printer.
import Derived.Test.YtlmiiijjjcddkaaPKbx0
import Derived.Test.YtlmiiijjjcddkaaPKbx1
import Derived.Test.YtlmiiijjjcddkaaPKbx3
import Derived.Test.YtlmiiijjjcddkaaPKbx6
namespace Go.Proofs.Ytlmiiijjjcddkaa.PKb
noncomputable section
open Go.RowKit Go.Proofs.YtlmiiijjjcddkaaW.PrintWords Go.Proofs.YtlmiiijjjcddkaaW.PrintLast Go.Proofs.YtlmiiijjjcddkaaW.PrintMore
attribute [local go_sem] max2_int min2_int max_two min_two max_three min_three max_four min_four   -- for this text's walks alone
open List (setIfInBounds_toArray set_cons_zero set_cons_succ)
set_option maxHeartbeats 8000000
set_option maxRecDepth 100000
set_option linter.unusedVariables false
set_option linter.unusedSimpArgs false
theorem pRq7 {α : Type} {d : Kd α} {e base : Nat} {ok : Nat → Prop} {v : Value} {xs : List α} {w W : World} (h0 : Aside0 (Kd.R d e w base ok v xs)) (hp : Kd.R d e W base ok v xs := by (with_reducible repeat (first | apply Kd.R_alloc | apply Kd.R_drewN | apply Kd.R_drew)); exact Aside0.out (by with_reducible assumption)) : Kd.R d e W base ok v xs := hp
theorem pKq7 {g : Nat} {o : Obj} {w W : World} (h0 : Aside0 (w.heap[g]? = some o)) (hp : W.heap[g]? = some o := by (with_reducible repeat (first | refine blk_drewN ?_ _ | refine blk_drew ?_ | refine blk_alloc ?_ _)); exact Aside0.out (by with_reducible assumption)) : W.heap[g]? = some o := hp
theorem pBq7 {b : Nat} {w0 w W : World} (h0 : Aside0 (Below b w0 w)) (hp : Below b w0 W := by repeat (first | (with_reducible first | exact Aside0.out (by assumption) | apply below_alloc | apply pw_below_drewN | apply below_drew1 | refine below_set ?_ (Aside0.out (by assumption))))) : Below b w0 W := hp
/-! ### laws_FnExactSizesOfClasses: function 4 -/
mutual
def laws_FnExactSizesOfClasses.j0 : Nat → List Int → List Int → Bool → List Int → List Int → Bool → Bool → Option (Bool)
 | 0, _, _, _, _, _, _, _ => none
 | k + 1, x0, x3, x4, x5, x6, x7, x37 => if x37 = true then (some false) else ((laws_toIntS.f k x0).bind fun t322 => ((laws_eqIntS.f k x5 t322).bind fun t325 => (if t325 = true then ((laws_markIntS.f k x5 1).bind fun bt326 => (if bt326.1 < 0 then (laws_FnExactSizesOfClasses.j1 k x0 x3 x4 x6 true) else ((laws_eqIntS.f k x6 x3).bind fun t328 => (if t328 = true then (laws_FnExactSizesOfClasses.j1 k x0 x3 x4 x6 (x7 != x4)) else (laws_FnExactSizesOfClasses.j1 k x0 x3 x4 x6 true))))) else (some false))))
def laws_FnExactSizesOfClasses.j1 : Nat → List Int → List Int → Bool → List Int → Bool → Option (Bool)
 | 0, _, _, _, _, _ => none
 | k + 1, x0, x3, x4, x6, x58 => if x58 = true then (some false) else ((laws_markIntS.f k x6 1).bind fun bt329 => ((laws_heldIntS.f k bt329.2 1).bind fun t331 => (if t331 < 0 then (some false) else (if t331 = bt329.1 then ((laws_toIntS.f k x0).bind fun t332 => ((impl_SizesOfClasses.f t332).bind fun bt335 => ((laws_eqIntS.f k bt335.1 x3).bind fun t339 => (if t339 = true then (laws_FnExactSizesOfClasses.j2 k bt329.2 bt329.1 (bt335.2 != x4)) else (laws_FnExactSizesOfClasses.j2 k bt329.2 bt329.1 true))))) else (some false)))))
def laws_FnExactSizesOfClasses.j2 : Nat → List Int → Int → Bool → Option (Bool)
 | 0, _, _, _ => none
 | k + 1, x6, x9, x84 => if x84 = true then (some false) else ((laws_heldIntS.f k x6 1).bind fun t340 => (if t340 < 0 then (some false) else (if t340 = x9 then (some true) else (some false))))
end
def laws_FnExactSizesOfClasses.f (k : Nat) (l0 : List Int) : Option (Bool) := if (l0.length : Int) > 1048576 then (some true) else ((laws_toIntS.f k l0).bind fun t307 => ((spec_SizesOfClasses.f k t307).bind fun bt310 => ((laws_toIntS.f k l0).bind fun t314 => ((impl_SizesOfClasses.f t314).bind fun bt317 => ((laws_eqIntS.f k bt317.1 bt310.1).bind fun t321 => (if t321 = true then (laws_FnExactSizesOfClasses.j0 k l0 bt310.1 bt310.2 t314 bt317.1 bt317.2 (bt317.2 != bt310.2)) else (laws_FnExactSizesOfClasses.j0 k l0 bt310.1 bt310.2 t314 bt317.1 bt317.2 true)))))))
theorem laws_FnExactSizesOfClasses.mono_l : ∀ k, (∀ y0 y1 y2 y3 y4 y5 y6, LeO (laws_FnExactSizesOfClasses.j0 k y0 y1 y2 y3 y4 y5 y6) (laws_FnExactSizesOfClasses.j0 (k + 1) y0 y1 y2 y3 y4 y5 y6)) ∧ (∀ y0 y1 y2 y3 y4, LeO (laws_FnExactSizesOfClasses.j1 k y0 y1 y2 y3 y4) (laws_FnExactSizesOfClasses.j1 (k + 1) y0 y1 y2 y3 y4)) ∧ (∀ y0 y1 y2, LeO (laws_FnExactSizesOfClasses.j2 k y0 y1 y2) (laws_FnExactSizesOfClasses.j2 (k + 1) y0 y1 y2))
 | 0 => ⟨fun _ _ _ _ _ _ _ r h => by simp [laws_FnExactSizesOfClasses.j0] at h, fun _ _ _ _ _ r h => by simp [laws_FnExactSizesOfClasses.j1] at h, fun _ _ _ r h => by simp [laws_FnExactSizesOfClasses.j2] at h⟩
 | k + 1 => by
  obtain ⟨ih0, ih1, ih2⟩ := laws_FnExactSizesOfClasses.mono_l k
  refine ⟨?_, ?_, ?_⟩
  ·intro y0 y1 y2 y3 y4 y5 y6
   unfold laws_FnExactSizesOfClasses.j0
   repeat' first | (with_reducible first | exact ih0 _ _ _ _ _ _ _ | exact ih1 _ _ _ _ _ | exact ih2 _ _ _ | exact laws_eqIntS.mono _ _ _ | exact laws_heldIntS.mono _ _ _ | exact laws_markIntS.mono _ _ _ | exact laws_toIntS.mono _ _ | exact spec_SizesOfClasses.mono _ _ | exact LeO.refl _ | exact LeO.none _ | refine LeO.ite ?_ ?_ | refine LeO.bind ?_ (fun _ => ?_))
  ·intro y0 y1 y2 y3 y4
   unfold laws_FnExactSizesOfClasses.j1
   repeat' first | (with_reducible first | exact ih0 _ _ _ _ _ _ _ | exact ih1 _ _ _ _ _ | exact ih2 _ _ _ | exact laws_eqIntS.mono _ _ _ | exact laws_heldIntS.mono _ _ _ | exact laws_markIntS.mono _ _ _ | exact laws_toIntS.mono _ _ | exact spec_SizesOfClasses.mono _ _ | exact LeO.refl _ | exact LeO.none _ | refine LeO.ite ?_ ?_ | refine LeO.bind ?_ (fun _ => ?_))
  ·intro y0 y1 y2
   unfold laws_FnExactSizesOfClasses.j2
   repeat' first | (with_reducible first | exact ih0 _ _ _ _ _ _ _ | exact ih1 _ _ _ _ _ | exact ih2 _ _ _ | exact laws_eqIntS.mono _ _ _ | exact laws_heldIntS.mono _ _ _ | exact laws_markIntS.mono _ _ _ | exact laws_toIntS.mono _ _ | exact spec_SizesOfClasses.mono _ _ | exact LeO.refl _ | exact LeO.none _ | refine LeO.ite ?_ ?_ | refine LeO.bind ?_ (fun _ => ?_))
theorem laws_FnExactSizesOfClasses.mono : ∀ a0 k, LeO (laws_FnExactSizesOfClasses.f k a0) (laws_FnExactSizesOfClasses.f (k + 1) a0) := by
 intro a0 k
 obtain ⟨ih0, ih1, ih2⟩ := laws_FnExactSizesOfClasses.mono_l k
 unfold laws_FnExactSizesOfClasses.f
 repeat' first | (with_reducible first | exact ih0 _ _ _ _ _ _ _ | exact ih1 _ _ _ _ _ | exact ih2 _ _ _ | exact laws_eqIntS.mono _ _ _ | exact laws_heldIntS.mono _ _ _ | exact laws_markIntS.mono _ _ _ | exact laws_toIntS.mono _ _ | exact spec_SizesOfClasses.mono _ _ | exact LeO.refl _ | exact LeO.none _ | refine LeO.ite ?_ ?_ | refine LeO.bind ?_ (fun _ => ?_))
theorem laws_FnExactSizesOfClasses.calls (k : Nat) (A0 : Option Addr) (c0 : Nat) (l0 : List Int) (r : Bool) (w : World) (hr0 : Kd.C (Kd.int .i64) w A0 l0.length l0) (hc0 : l0.length ≤ c0) (h : laws_FnExactSizesOfClasses.f k l0 = some r) :
  Calls Try.prog 4 #[.slice A0 l0.length c0] w fun e w' => e = .returned (.bool r) ∧ Below w.heap.size w w' := by
 have HR0 := am hr0
 have HC0 := am hc0
 clear hr0 hc0
 have HB := am (Below.refl w.heap.size w)
 have H : (if (l0.length : Int) > 1048576 then (some true) else ((laws_toIntS.f k l0).bind fun t307 => ((spec_SizesOfClasses.f k t307).bind fun bt310 => ((laws_toIntS.f k l0).bind fun t314 => ((impl_SizesOfClasses.f t314).bind fun bt317 => ((laws_eqIntS.f k bt317.1 bt310.1).bind fun t321 => (if t321 = true then (laws_FnExactSizesOfClasses.j0 k l0 bt310.1 bt310.2 t314 bt317.1 bt317.2 (bt317.2 != bt310.2)) else (laws_FnExactSizesOfClasses.j0 k l0 bt310.1 bt310.2 t314 bt317.1 bt317.2 true)))))))) = some r := h
 clear h
 by_cases c2 : (l0.length : Int) > 1048576
 ·rw [if_pos c2] at H
  have c2b0 : decide (1048576 < (l0.length : Int)) = true := decide_eq_true c2
  have c2b1 : decide (1048576 < l0.length) = true := decide_eq_true zq10
  clear c2
  obtain rfl := Option.some.inj H
  go_enter Try.func4, Try.ntmps4
  go_wp2
  go_ret
  exact ⟨zq6, zq1⟩
 ·rw [if_neg c2] at H
  have c2b0 : decide (1048576 < (l0.length : Int)) = false := decide_eq_false c2
  have c2b1 : decide (1048576 < l0.length) = false := decide_eq_false zq10
  clear c2
  obtain ⟨t307, A3, H⟩ := zS H
  (try dsimp only at H)
  replace H := Option.bind_eq_some_iff.mp H
  obtain ⟨⟨t310, t311⟩, A40, H⟩ := H
  (try dsimp only at H)
  have A4 := am A40
  clear A40
  obtain ⟨t314, A5, H⟩ := zS H
  (try dsimp only at H)
  replace H := Option.bind_eq_some_iff.mp H
  obtain ⟨⟨t317, t318⟩, A60, H⟩ := H
  (try dsimp only at H)
  have A6 := am A60
  clear A60
  have HC7 := am H
  clear H
  go_enter Try.func4, Try.ntmps4
  go_upto_region 6 with (first | ((with_reducible refine gate_callee (f := 6) rfl ?_); refine goesL_ (some 18) rfl rfl Try.func6 zq20 rfl #[.slice A0 l0.length c0] rfl zq2 ?_; (with_reducible refine (laws_toIntS.calls k _ _ l0 t307 _ ?side1 ?side2 A3.out).mono ?_); (case side1 => exact zq9); (case side2 => exact HC0.out); rintro e w8 ⟨v308, rfl, ho0, hb⟩; refine ⟨_, rfl, ?_⟩; have HO309 := am (Kd.R_lower ho0 (below_size (pBq7 HB))); replace HB := am (below_step (pBq7 HB) hb); (try clear hb ho0); obtain ⟨Ao9, co9, eo9⟩ := Kd.R_slice HO309.out; subst eo9) | ((with_reducible refine gate_callee (f := 13) rfl ?_); refine goesL_ (some 19) rfl rfl Try.func13 zq20 rfl #[.slice Ao9 t307.length co9] rfl zq2 ?_; (with_reducible refine (spec_SizesOfClasses.calls k _ _ t307 t310 t311 _ ?side1 ?side2 A4.out).mono ?_); (case side1 => repeat (first | exact (Kd.R_reads' HO309.out).2.2 | (with_reducible refine Kd.C_alloc ?_ _) | (with_reducible refine Kd.C_drewN ?_ _) | (with_reducible refine Kd.C_drew ?_))); (case side2 => exact (Kd.R_reads' HO309.out).2.1); rintro e w10 ⟨v312, rfl, ho0, hb⟩; refine ⟨_, rfl, ?_⟩; have HO313 := am (Kd.R_lower (Kd.R_new' ho0 (Kd.R_lt (pRq7 HO309))) (below_size (pBq7 HB))); replace HO309 := am (Kd.R_elder' (pRq7 HO309) (Kd.R_base ho0) hb); replace HB := am (below_step (pBq7 HB) hb); (try clear hb ho0)) | ((with_reducible refine gate_callee (f := 6) rfl ?_); refine goesL_ (some 23) rfl rfl Try.func6 zq20 rfl #[.slice A0 l0.length c0] rfl zq2 ?_; (with_reducible refine (laws_toIntS.calls k _ _ l0 t314 _ ?side1 ?side2 A5.out).mono ?_); (case side1 => exact zq7); (case side2 => exact HC0.out); rintro e w11 ⟨v315, rfl, ho0, hb⟩; refine ⟨_, rfl, ?_⟩; have HO316 := am (Kd.R_lower (Kd.R_new' (Kd.R_new' ho0 (Kd.R_lt (pRq7 HO309))) (Kd.R_lt (pRq7 HO313))) (below_size (pBq7 HB))); replace HO309 := am (Kd.R_elder' (pRq7 HO309) (Kd.R_base ho0) hb); replace HO313 := am (Kd.R_elder' (pRq7 HO313) (Kd.R_base ho0) hb); replace HB := am (below_step (pBq7 HB) hb); (try clear hb ho0); obtain ⟨Ao12, co12, eo12⟩ := Kd.R_slice HO316.out; subst eo12) | ((with_reducible refine gate_callee (f := 14) rfl ?_); refine goesL_ (some 26) rfl rfl Try.func14 zq20 rfl #[.slice Ao12 t314.length co12] rfl zq2 ?_; (with_reducible refine (impl_SizesOfClasses.calls _ _ t314 t317 t318 _ ?side1 ?side2 A6.out).mono ?_); (case side1 => repeat (first | exact (Kd.R_reads' HO316.out).2.2 | (with_reducible refine Kd.C_alloc ?_ _) | (with_reducible refine Kd.C_drewN ?_ _) | (with_reducible refine Kd.C_drew ?_))); (case side2 => exact (Kd.R_reads' HO316.out).2.1); rintro e w13 ⟨v319, rfl, ho0, hb⟩; refine ⟨_, rfl, ?_⟩; have HO320 := am (Kd.R_lower (Kd.R_new' (Kd.R_new' (Kd.R_new' ho0 (Kd.R_lt (pRq7 HO309))) (Kd.R_lt (pRq7 HO313))) (Kd.R_lt (pRq7 HO316))) (below_size (pBq7 HB))); replace HO309 := am (Kd.R_elder' (pRq7 HO309) (Kd.R_base ho0) hb); replace HO313 := am (Kd.R_elder' (pRq7 HO313) (Kd.R_base ho0) hb); replace HO316 := am (Kd.R_elder' (pRq7 HO316) (Kd.R_base ho0) hb); replace HB := am (below_step (pBq7 HB) hb); (try clear hb ho0)))
  (try simp only [Act.put, setIfInBounds_toArray, set_cons_zero, set_cons_succ])
  go_cut [37] (fun v37 wc => ∃ (kq : Nat) (x37_6 : Bool), v37 = .bool x37_6 ∧ Aside0 (laws_FnExactSizesOfClasses.j0 kq l0 t310 t311 t314 t317 t318 x37_6 = some r) ∧ Aside0 (kq ≤ k) ∧ Aside0 (Kd.R (Kd.int .i64) 3 wc w.heap.size (fun k_ => some k_ ≠ ((.slice Ao12 t314.length co12) : Value).ownBlock ∧ some k_ ≠ (v319 : Value).ownBlock) v312 t310) ∧ Aside0 (Kd.R (Kd.int .i64) 3 wc w.heap.size (fun k_ => some k_ ≠ (v312 : Value).ownBlock ∧ some k_ ≠ (v319 : Value).ownBlock) (.slice Ao12 t314.length co12) t314) ∧ Aside0 (Kd.R (Kd.int .i64) 3 wc w.heap.size (fun k_ => some k_ ≠ (v312 : Value).ownBlock ∧ some k_ ≠ ((.slice Ao12 t314.length co12) : Value).ownBlock) v319 t317) ∧ Aside0 (Below w.heap.size w wc))
  case first =>
   have H := HC7.out
   clear HC7
   obtain ⟨t321, A14, H⟩ := zS H
   (try dsimp only at H)
   by_cases c15 : t321 = true
   ·subst c15
    rw [if_pos rfl] at H
    have H' := am H
    clear H
    obtain ⟨Ao16, co16, eo16⟩ := Kd.R_slice HO320.out
    subst eo16
    obtain ⟨Ao17, co17, eo17⟩ := Kd.R_slice HO313.out
    subst eo17
    go_wp2_with (first | ((with_reducible refine gate_callee (f := 9) rfl ?_); refine goesL_ (some 31) rfl rfl Try.func9 zq20 rfl #[.slice Ao16 t317.length co16, .slice Ao17 t310.length co17] rfl zq2 ?_; (with_reducible refine (laws_eqIntS.calls k _ _ t317 _ _ t310 true _ ?side1 ?side2 ?side3 ?side4 A14.out).mono ?_); (case side1 => exact zq75); (case side2 => exact (Kd.R_reads' HO320.out).2.1); (case side3 => exact zq76); (case side4 => exact (Kd.R_reads' HO313.out).2.1); rintro e w' ⟨rfl, ⟨nd, rfl⟩⟩; refine ⟨_, rfl, ?_⟩))
    go_meet
    case rel => exact ⟨_, ((t318 != t311)), zq3, H', ⟨by first | omega | exact Nat.le_refl _⟩, ⟨zq81⟩, ⟨zq80⟩, ⟨zq79⟩, ⟨zq1⟩⟩
   ·replace c15 := Bool.eq_false_iff.mpr c15
    subst c15
    rw [if_neg (show ¬ (false = true) by decide)] at H
    have H' := am H
    clear H
    obtain ⟨Ao18, co18, eo18⟩ := Kd.R_slice HO320.out
    subst eo18
    obtain ⟨Ao19, co19, eo19⟩ := Kd.R_slice HO313.out
    subst eo19
    go_wp2_with (first | ((with_reducible refine gate_callee (f := 9) rfl ?_); refine goesL_ (some 31) rfl rfl Try.func9 zq20 rfl #[.slice Ao18 t317.length co18, .slice Ao19 t310.length co19] rfl zq2 ?_; (with_reducible refine (laws_eqIntS.calls k _ _ t317 _ _ t310 false _ ?side1 ?side2 ?side3 ?side4 A14.out).mono ?_); (case side1 => exact zq75); (case side2 => exact (Kd.R_reads' HO320.out).2.1); (case side3 => exact zq76); (case side4 => exact (Kd.R_reads' HO313.out).2.1); rintro e w' ⟨rfl, ⟨nd, rfl⟩⟩; refine ⟨_, rfl, ?_⟩))
    go_meet
    case rel => exact ⟨_, (true), zq3, H', ⟨by first | omega | exact Nat.le_refl _⟩, ⟨zq81⟩, ⟨zq80⟩, ⟨zq79⟩, ⟨zq1⟩⟩
  case rest =>
   clear HC7
   try clear c1
   try clear c2
   try clear c2b0
   try clear c2b1
   try clear p2
   try clear c4
   try clear c6
   try clear c9
   try clear c13
   try clear c14
   try clear c15
   obtain ⟨kq, x37_6, rfl, HA, HJ6, HO_3, HO_5, HO_6, HB⟩ := hcut
   cases kq with
   | zero => exact absurd HA.out (by simp [laws_FnExactSizesOfClasses.j0])
   | succ kj6 =>
    have H := HA.out
    clear HA
    simp only [laws_FnExactSizesOfClasses.j0] at H
    by_cases c20 : x37_6 = true
    ·subst c20
     rw [if_pos rfl] at H
     obtain rfl := Option.some.inj H
     go_wp2
     go_ret
     exact ⟨zq6, zq1⟩
    ·replace c20 := Bool.eq_false_iff.mpr c20
     subst c20
     rw [if_neg (show ¬ (false = true) by decide)] at H
     obtain ⟨t322, A21, H⟩ := zS H
     (try dsimp only at H)
     obtain ⟨t325, A22, H⟩ := zS H
     (try dsimp only at H)
     by_cases c23 : t325 = true
     ·subst c23
      rw [if_pos rfl] at H
      replace H := Option.bind_eq_some_iff.mp H
      obtain ⟨⟨t326, t327⟩, A240, H⟩ := H
      (try dsimp only at H)
      have A24 := am A240
      clear A240
      have HC25 := am H
      clear H
      go_upto_region 12 with (first | ((with_reducible refine gate_callee (f := 6) rfl ?_); refine goesL_ (some 40) rfl rfl Try.func6 zq20 rfl #[.slice A0 l0.length c0] rfl zq2 ?_; (with_reducible refine (laws_toIntS.calls kj6 _ _ l0 t322 _ ?side1 ?side2 A21.out).mono ?_); (case side1 => exact zq7); (case side2 => exact HC0.out); rintro e w26 ⟨v323, rfl, ho0, hb⟩; refine ⟨_, rfl, ?_⟩; have HO324 := am (Kd.R_lower (Kd.R_new' (Kd.R_new' (Kd.R_new' ho0 (Kd.R_lt (pRq7 HO_3))) (Kd.R_lt (pRq7 HO_5))) (Kd.R_lt (pRq7 HO_6))) (below_size (pBq7 HB))); replace HO_3 := am (Kd.R_elder' (pRq7 HO_3) (Kd.R_base ho0) hb); replace HO_5 := am (Kd.R_elder' (pRq7 HO_5) (Kd.R_base ho0) hb); replace HO_6 := am (Kd.R_elder' (pRq7 HO_6) (Kd.R_base ho0) hb); replace HB := am (below_step (pBq7 HB) hb); (try clear hb ho0); obtain ⟨Ao27, co27, eo27⟩ := Kd.R_slice HO324.out; subst eo27) | ((with_reducible refine gate_callee (f := 9) rfl ?_); refine goesL_ (some 41) rfl rfl Try.func9 zq20 rfl #[.slice Ao12 t314.length co12, .slice Ao27 t322.length co27] rfl zq2 ?_; (with_reducible refine (laws_eqIntS.calls kj6 _ _ t314 _ _ t322 true _ ?side1 ?side2 ?side3 ?side4 A22.out).mono ?_); (case side1 => exact zq78); (case side2 => exact (Kd.R_reads' HO_5.out).2.1); (case side3 => exact zq74); (case side4 => exact (Kd.R_reads' HO324.out).2.1); rintro e w' ⟨rfl, ⟨nd, rfl⟩⟩; refine ⟨_, rfl, ?_⟩) | ((with_reducible refine gate_callee (f := 10) rfl ?_); refine goesL_ (some 45) rfl rfl Try.func10 zq20 rfl #[.slice Ao12 t314.length co12, .int .i64 1] rfl zq2 ?_; (with_reducible refine (laws_markIntS.calls kj6 (fun k_ => some k_ = (.slice Ao12 t314.length co12 : Value).ownBlock) (.slice Ao12 t314.length co12) t314 1 t326 t327 w _ ?side1 ?side2 A24.out).mono ?_); (case side1 => exact zq1); (case side2 => exact Kd.R_tight rfl HO_5.out); rintro e w28 ⟨rfl, hy0, hb, hkp⟩; refine ⟨_, rfl, ?_⟩; replace HO_3 := am (Kd.R_mono (ok' := fun k_ => some k_ ≠ (.slice Ao12 t314.length co12 : Value).ownBlock ∧ some k_ ≠ (v319 : Value).ownBlock ∧ some k_ ≠ (.slice Ao27 t322.length co27 : Value).ownBlock) (Kd.R_keptB (HO_3.out) hkp (fun k_ hk_ hs_ => (hk_.1.1) hs_)) (fun k_ hk_ => ⟨hk_.1.1.1, hk_.1.1.2, hk_.1.2⟩)); replace HO_5 := am (Kd.R_reok rfl hy0 (fun k_ e_ => HO_5.out.1 k_ e_)); replace HO_6 := am (Kd.R_mono (ok' := fun k_ => some k_ ≠ (v312 : Value).ownBlock ∧ some k_ ≠ (.slice Ao12 t314.length co12 : Value).ownBlock ∧ some k_ ≠ (.slice Ao27 t322.length co27 : Value).ownBlock) (Kd.R_keptB (HO_6.out) hkp (fun k_ hk_ hs_ => (hk_.1.2) hs_)) (fun k_ hk_ => ⟨hk_.1.1.1, hk_.1.1.2, hk_.1.2⟩)); replace HO324 := am (Kd.R_mono (ok' := fun k_ => some k_ ≠ (v312 : Value).ownBlock ∧ some k_ ≠ (.slice Ao12 t314.length co12 : Value).ownBlock ∧ some k_ ≠ (v319 : Value).ownBlock) (Kd.R_keptB (HO324.out) hkp (fun k_ hk_ hs_ => (hk_.1.2) hs_)) (fun k_ hk_ => ⟨hk_.1.1.1.2, hk_.1.1.2, hk_.1.2⟩)); replace HB := am (hb); (try clear hb hkp hy0)))
      (try simp only [Act.put, setIfInBounds_toArray, set_cons_zero, set_cons_succ])
      go_cut [58] (fun v58 wc => ∃ (kq : Nat) (x58_24 : Bool), v58 = .bool x58_24 ∧ Aside0 (laws_FnExactSizesOfClasses.j1 kq l0 t310 t311 t317 x58_24 = some r) ∧ Aside0 (kq ≤ kj6) ∧ Aside0 (Kd.R (Kd.int .i64) 3 wc w.heap.size (fun k_ => some k_ ≠ (v319 : Value).ownBlock) v312 t310) ∧ Aside0 (Kd.R (Kd.int .i64) 3 wc w.heap.size (fun k_ => some k_ ≠ (v312 : Value).ownBlock) v319 t317) ∧ Aside0 (Below w.heap.size w wc))
      case first =>
       have H := HC25.out
       clear HC25
       by_cases c29 : t326 < 0
       ·rw [if_pos c29] at H
        have c29b0 : decide (t326 < 0) = true := decide_eq_true c29
        clear c29
        (first | rw [c29b0] | (simp only [i64_w, i32_w]; rw [c29b0]) | skip)
        have H' := am H
        clear H
        go_wp2
        go_meet
        case rel => exact ⟨_, (true), zq3, H', ⟨by have := HJ6.out; first | omega | exact Nat.le_refl _⟩, ⟨zq52⟩, ⟨zq53⟩, ⟨zq1⟩⟩
       ·rw [if_neg c29] at H
        have c29b0 : decide (t326 < 0) = false := decide_eq_false c29
        clear c29
        (first | rw [c29b0] | (simp only [i64_w, i32_w]; rw [c29b0]) | skip)
        obtain ⟨t328, A30, H⟩ := zS H
        (try dsimp only at H)
        by_cases c31 : t328 = true
        ·subst c31
         rw [if_pos rfl] at H
         have H' := am H
         clear H
         obtain ⟨Ao32, co32, eo32⟩ := Kd.R_slice HO_6.out
         subst eo32
         obtain ⟨Ao33, co33, eo33⟩ := Kd.R_slice HO_3.out
         subst eo33
         go_wp2_with (first | (go_at_call 9; (with_reducible refine (laws_eqIntS.calls kj6 _ _ t317 _ _ t310 true _ ?side1 ?side2 ?side3 ?side4 A30.out).mono ?_); (case side1 => exact zq12); (case side2 => exact (Kd.R_reads' HO_6.out).2.1); (case side3 => exact zq28); (case side4 => exact (Kd.R_reads' HO_3.out).2.1); rintro e w' ⟨rfl, ⟨nd, rfl⟩⟩))
         go_meet
         case rel => exact ⟨_, ((t318 != t311)), zq3, H', ⟨by have := HJ6.out; first | omega | exact Nat.le_refl _⟩, ⟨zq52⟩, ⟨zq53⟩, ⟨zq1⟩⟩
        ·replace c31 := Bool.eq_false_iff.mpr c31
         subst c31
         rw [if_neg (show ¬ (false = true) by decide)] at H
         have H' := am H
         clear H
         obtain ⟨Ao34, co34, eo34⟩ := Kd.R_slice HO_6.out
         subst eo34
         obtain ⟨Ao35, co35, eo35⟩ := Kd.R_slice HO_3.out
         subst eo35
         go_wp2_with (first | (go_at_call 9; (with_reducible refine (laws_eqIntS.calls kj6 _ _ t317 _ _ t310 false _ ?side1 ?side2 ?side3 ?side4 A30.out).mono ?_); (case side1 => exact zq12); (case side2 => exact (Kd.R_reads' HO_6.out).2.1); (case side3 => exact zq28); (case side4 => exact (Kd.R_reads' HO_3.out).2.1); rintro e w' ⟨rfl, ⟨nd, rfl⟩⟩))
         go_meet
         case rel => exact ⟨_, (true), zq3, H', ⟨by have := HJ6.out; first | omega | exact Nat.le_refl _⟩, ⟨zq52⟩, ⟨zq53⟩, ⟨zq1⟩⟩
      case rest =>
       clear HC25
       try clear c1
       try clear c2
       try clear c2b0
       try clear c2b1
       try clear p2
       try clear c3
       try clear c4
       try clear c6
       try clear c9
       try clear c10
       try clear c13
       try clear c14
       try clear c15
       try clear c20
       try clear c23
       try clear c29
       try clear c29b0
       try clear c31
       try clear p2
       obtain ⟨kq, x58_24, rfl, HA, HJ24, HO_3, HO_6, HB⟩ := hcut
       cases kq with
       | zero => exact absurd HA.out (by simp [laws_FnExactSizesOfClasses.j1])
       | succ kj24 =>
        have H := HA.out
        clear HA
        simp only [laws_FnExactSizesOfClasses.j1] at H
        by_cases c36 : x58_24 = true
        ·subst c36
         rw [if_pos rfl] at H
         obtain rfl := Option.some.inj H
         go_wp2
         go_ret
         exact ⟨zq6, zq1⟩
        ·replace c36 := Bool.eq_false_iff.mpr c36
         subst c36
         rw [if_neg (show ¬ (false = true) by decide)] at H
         replace H := Option.bind_eq_some_iff.mp H
         obtain ⟨⟨t329, t330⟩, A370, H⟩ := H
         (try dsimp only at H)
         have A37 := am A370
         clear A370
         obtain ⟨t331, A38, H⟩ := zS H
         (try dsimp only at H)
         by_cases c39 : t331 < 0
         ·rw [if_pos c39] at H
          have c39b0 : decide (t331 < 0) = true := decide_eq_true c39
          clear c39
          obtain rfl := Option.some.inj H
          obtain ⟨Ao40, co40, eo40⟩ := Kd.R_slice HO_6.out
          subst eo40
          go_wp2_with (first | ((with_reducible refine gate_callee (f := 10) rfl ?_); refine goesL_ (some 61) rfl rfl Try.func10 zq20 rfl #[.slice Ao40 t317.length co40, .int .i64 1] rfl zq2 ?_; (with_reducible refine (laws_markIntS.calls kj24 (fun k_ => some k_ = (.slice Ao40 t317.length co40 : Value).ownBlock) (.slice Ao40 t317.length co40) t317 1 t329 t330 w _ ?side1 ?side2 A37.out).mono ?_); (case side1 => exact zq1); (case side2 => exact Kd.R_tight rfl HO_6.out); rintro e w41 ⟨rfl, hy0, hb, hkp⟩; refine ⟨_, rfl, ?_⟩; replace HO_3 := am (Kd.R_mono (ok' := fun k_ => some k_ ≠ (.slice Ao40 t317.length co40 : Value).ownBlock) (Kd.R_keptB (HO_3.out) hkp (fun k_ hk_ hs_ => (hk_) hs_)) (fun k_ hk_ => hk_.1)); replace HO_6 := am (Kd.R_reok rfl hy0 (fun k_ e_ => HO_6.out.1 k_ e_)); replace HB := am (hb); (try clear hb hkp hy0)) | ((with_reducible refine gate_callee (f := 15) rfl ?_); refine goesL_ (some 64) rfl rfl Try.func15 zq20 rfl #[.slice Ao40 t330.length co40, .int .i64 1] rfl zq30 ?_; (with_reducible refine (laws_heldIntS.calls kj24 _ _ t330 1 t331 _ ?side1 ?side2 A38.out).mono ?_); (case side1 => exact zq12); (case side2 => exact zq65); rintro e w' ⟨rfl, ⟨nd, rfl⟩⟩; refine ⟨_, rfl, ?_⟩))
          go_ret
          exact ⟨zq6, zq1⟩
         ·rw [if_neg c39] at H
          have c39b0 : decide (t331 < 0) = false := decide_eq_false c39
          clear c39
          by_cases c42 : t331 = t329
          ·rw [if_pos c42] at H
           have c42b0 : (t331 == t329) = true := beq_iff_eq.mpr c42
           have c42b1 : (t331 != t329) = false := bne_eq_false_iff_eq.mpr c42
           clear c42
           obtain ⟨t332, A43, H⟩ := zS H
           (try dsimp only at H)
           replace H := Option.bind_eq_some_iff.mp H
           obtain ⟨⟨t335, t336⟩, A440, H⟩ := H
           (try dsimp only at H)
           have A44 := am A440
           clear A440
           have HC45 := am H
           clear H
           obtain ⟨Ao46, co46, eo46⟩ := Kd.R_slice HO_6.out
           subst eo46
           go_upto_region 23 with (first | ((with_reducible refine gate_callee (f := 10) rfl ?_); refine goesL_ (some 61) rfl rfl Try.func10 zq20 rfl #[.slice Ao46 t317.length co46, .int .i64 1] rfl zq2 ?_; (with_reducible refine (laws_markIntS.calls kj24 (fun k_ => some k_ = (.slice Ao46 t317.length co46 : Value).ownBlock) (.slice Ao46 t317.length co46) t317 1 t329 t330 w _ ?side1 ?side2 A37.out).mono ?_); (case side1 => exact zq1); (case side2 => exact Kd.R_tight rfl HO_6.out); rintro e w47 ⟨rfl, hy0, hb, hkp⟩; refine ⟨_, rfl, ?_⟩; replace HO_3 := am (Kd.R_mono (ok' := fun k_ => some k_ ≠ (.slice Ao46 t317.length co46 : Value).ownBlock) (Kd.R_keptB (HO_3.out) hkp (fun k_ hk_ hs_ => (hk_) hs_)) (fun k_ hk_ => hk_.1)); replace HO_6 := am (Kd.R_reok rfl hy0 (fun k_ e_ => HO_6.out.1 k_ e_)); replace HB := am (hb); (try clear hb hkp hy0)) | ((with_reducible refine gate_callee (f := 15) rfl ?_); refine goesL_ (some 64) rfl rfl Try.func15 zq20 rfl #[.slice Ao46 t330.length co46, .int .i64 1] rfl zq30 ?_; (with_reducible refine (laws_heldIntS.calls kj24 _ _ t330 1 t331 _ ?side1 ?side2 A38.out).mono ?_); (case side1 => exact zq12); (case side2 => exact zq65); rintro e w' ⟨rfl, ⟨nd, rfl⟩⟩; refine ⟨_, rfl, ?_⟩) | ((with_reducible refine gate_callee (f := 6) rfl ?_); refine goesL_ (some 72) rfl rfl Try.func6 zq20 rfl #[.slice A0 l0.length c0] rfl zq2 ?_; (with_reducible refine (laws_toIntS.calls kj24 _ _ l0 t332 _ ?side1 ?side2 A43.out).mono ?_); (case side1 => repeat (first | exact (Kd.C_below HR0.out (pBq7 HB)) | (with_reducible refine Kd.C_alloc ?_ _) | (with_reducible refine Kd.C_drewN ?_ _) | (with_reducible refine Kd.C_drew ?_))); (case side2 => exact HC0.out); rintro e w48 ⟨v333, rfl, ho0, hb⟩; refine ⟨_, rfl, ?_⟩; have HO334 := am (Kd.R_lower (Kd.R_new' (Kd.R_new' ho0 (Kd.R_lt (pRq7 HO_3))) (Kd.R_lt (pRq7 HO_6))) (below_size (pBq7 HB))); replace HO_3 := am (Kd.R_elder' (pRq7 HO_3) (Kd.R_base ho0) hb); replace HO_6 := am (Kd.R_elder' (pRq7 HO_6) (Kd.R_base ho0) hb); replace HB := am (below_step (pBq7 HB) hb); (try clear hb ho0); obtain ⟨Ao49, co49, eo49⟩ := Kd.R_slice HO334.out; subst eo49) | ((with_reducible refine gate_callee (f := 14) rfl ?_); refine goesL_ (some 73) rfl rfl Try.func14 zq20 rfl #[.slice Ao49 t332.length co49] rfl zq2 ?_; (with_reducible refine (impl_SizesOfClasses.calls _ _ t332 t335 t336 _ ?side1 ?side2 A44.out).mono ?_); (case side1 => repeat (first | exact (Kd.R_reads' HO334.out).2.2 | (with_reducible refine Kd.C_alloc ?_ _) | (with_reducible refine Kd.C_drewN ?_ _) | (with_reducible refine Kd.C_drew ?_))); (case side2 => exact (Kd.R_reads' HO334.out).2.1); rintro e w50 ⟨v337, rfl, ho0, hb⟩; refine ⟨_, rfl, ?_⟩; have HO338 := am (Kd.R_lower (Kd.R_new' (Kd.R_new' (Kd.R_new' ho0 (Kd.R_lt (pRq7 HO_3))) (Kd.R_lt (pRq7 HO_6))) (Kd.R_lt (pRq7 HO334))) (below_size (pBq7 HB))); replace HO_3 := am (Kd.R_elder' (pRq7 HO_3) (Kd.R_base ho0) hb); replace HO_6 := am (Kd.R_elder' (pRq7 HO_6) (Kd.R_base ho0) hb); replace HO334 := am (Kd.R_elder' (pRq7 HO334) (Kd.R_base ho0) hb); replace HB := am (below_step (pBq7 HB) hb); (try clear hb ho0)))
           (try simp only [Act.put, setIfInBounds_toArray, set_cons_zero, set_cons_succ])
           go_cut [84] (fun v84 wc => ∃ (kq : Nat) (x84_44 : Bool), v84 = .bool x84_44 ∧ Aside0 (laws_FnExactSizesOfClasses.j2 kq t330 t329 x84_44 = some r) ∧ Aside0 (kq ≤ kj24) ∧ Aside0 (Kd.R (Kd.int .i64) 3 wc w.heap.size (fun _ => True) (.slice Ao46 t317.length co46) t330) ∧ Aside0 (Below w.heap.size w wc))
           case first =>
            have H := HC45.out
            clear HC45
            obtain ⟨t339, A51, H⟩ := zS H
            (try dsimp only at H)
            by_cases c52 : t339 = true
            ·subst c52
             rw [if_pos rfl] at H
             have H' := am H
             clear H
             obtain ⟨Ao53, co53, eo53⟩ := Kd.R_slice HO338.out
             subst eo53
             obtain ⟨Ao54, co54, eo54⟩ := Kd.R_slice HO_3.out
             subst eo54
             go_wp2_with (first | ((with_reducible refine gate_callee (f := 9) rfl ?_); refine goesL_ (some 78) rfl rfl Try.func9 zq20 rfl #[.slice Ao53 t335.length co53, .slice Ao54 t310.length co54] rfl zq2 ?_; (with_reducible refine (laws_eqIntS.calls kj24 _ _ t335 _ _ t310 true _ ?side1 ?side2 ?side3 ?side4 A51.out).mono ?_); (case side1 => exact zq73); (case side2 => exact (Kd.R_reads' HO338.out).2.1); (case side3 => exact zq28); (case side4 => exact (Kd.R_reads' HO_3.out).2.1); rintro e w' ⟨rfl, ⟨nd, rfl⟩⟩; refine ⟨_, rfl, ?_⟩))
             go_meet
             case rel => exact ⟨_, ((t336 != t311)), zq3, H', ⟨by have := HJ6.out; have := HJ24.out; first | omega | exact Nat.le_refl _⟩, ⟨zq91⟩, ⟨zq1⟩⟩
            ·replace c52 := Bool.eq_false_iff.mpr c52
             subst c52
             rw [if_neg (show ¬ (false = true) by decide)] at H
             have H' := am H
             clear H
             obtain ⟨Ao55, co55, eo55⟩ := Kd.R_slice HO338.out
             subst eo55
             obtain ⟨Ao56, co56, eo56⟩ := Kd.R_slice HO_3.out
             subst eo56
             go_wp2_with (first | ((with_reducible refine gate_callee (f := 9) rfl ?_); refine goesL_ (some 78) rfl rfl Try.func9 zq20 rfl #[.slice Ao55 t335.length co55, .slice Ao56 t310.length co56] rfl zq2 ?_; (with_reducible refine (laws_eqIntS.calls kj24 _ _ t335 _ _ t310 false _ ?side1 ?side2 ?side3 ?side4 A51.out).mono ?_); (case side1 => exact zq73); (case side2 => exact (Kd.R_reads' HO338.out).2.1); (case side3 => exact zq28); (case side4 => exact (Kd.R_reads' HO_3.out).2.1); rintro e w' ⟨rfl, ⟨nd, rfl⟩⟩; refine ⟨_, rfl, ?_⟩))
             go_meet
             case rel => exact ⟨_, (true), zq3, H', ⟨by have := HJ6.out; have := HJ24.out; first | omega | exact Nat.le_refl _⟩, ⟨zq91⟩, ⟨zq1⟩⟩
           case rest =>
            clear HC45
            try clear c1
            try clear c2
            try clear c2b0
            try clear c2b1
            try clear p2
            try clear c3
            try clear c4
            try clear c5
            try clear c6
            try clear c9
            try clear c10
            try clear c13
            try clear c14
            try clear c15
            try clear c20
            try clear c23
            try clear c29
            try clear c29b0
            try clear c31
            try clear c36
            try clear c39
            try clear c39b0
            try clear c42
            try clear c42b0
            try clear c42b1
            try clear c52
            try clear p2
            obtain ⟨kq, x84_44, rfl, HA, HJ44, HO_6, HB⟩ := hcut
            have hl6_44 := (Kd.R_reads' HO_6.out).1
            rw [hl6_44] at HO_6
            (try simp only [hl6_44])
            cases kq with
            | zero => exact absurd HA.out (by simp [laws_FnExactSizesOfClasses.j2])
            | succ kj44 =>
             have H := HA.out
             clear HA
             simp only [laws_FnExactSizesOfClasses.j2] at H
             by_cases c57 : x84_44 = true
             ·subst c57
              rw [if_pos rfl] at H
              obtain rfl := Option.some.inj H
              go_wp2
              go_ret
              exact ⟨zq6, zq1⟩
             ·replace c57 := Bool.eq_false_iff.mpr c57
              subst c57
              rw [if_neg (show ¬ (false = true) by decide)] at H
              obtain ⟨t340, A58, H⟩ := zS H
              (try dsimp only at H)
              by_cases c59 : t340 < 0
              ·rw [if_pos c59] at H
               have c59b0 : decide (t340 < 0) = true := decide_eq_true c59
               clear c59
               obtain rfl := Option.some.inj H
               go_wp2_with (first | ((with_reducible refine gate_callee (f := 15) rfl ?_); refine goesL_ (some 87) rfl rfl Try.func15 zq20 rfl #[.slice Ao46 t330.length co46, .int .i64 1] rfl zq2 ?_; (with_reducible refine (laws_heldIntS.calls kj44 _ _ t330 1 t340 _ ?side1 ?side2 A58.out).mono ?_); (case side1 => exact zq12); (case side2 => exact (Kd.R_reads' HO_6.out).2.1); rintro e w' ⟨rfl, ⟨nd, rfl⟩⟩; refine ⟨_, rfl, ?_⟩))
               go_ret
               exact ⟨zq6, zq1⟩
              ·rw [if_neg c59] at H
               have c59b0 : decide (t340 < 0) = false := decide_eq_false c59
               clear c59
               by_cases c60 : t340 = t329
               ·rw [if_pos c60] at H
                have c60b0 : (t340 == t329) = true := beq_iff_eq.mpr c60
                have c60b1 : (t340 != t329) = false := bne_eq_false_iff_eq.mpr c60
                clear c60
                obtain rfl := Option.some.inj H
                go_wp2_with (first | ((with_reducible refine gate_callee (f := 15) rfl ?_); refine goesL_ (some 87) rfl rfl Try.func15 zq20 rfl #[.slice Ao46 t330.length co46, .int .i64 1] rfl zq2 ?_; (with_reducible refine (laws_heldIntS.calls kj44 _ _ t330 1 t340 _ ?side1 ?side2 A58.out).mono ?_); (case side1 => exact zq12); (case side2 => exact (Kd.R_reads' HO_6.out).2.1); rintro e w' ⟨rfl, ⟨nd, rfl⟩⟩; refine ⟨_, rfl, ?_⟩))
                go_ret
                exact ⟨zq6, zq1⟩
               ·rw [if_neg c60] at H
                have c60b0 : (t340 == t329) = false := beq_eq_false_iff_ne.mpr c60
                have c60b1 : (t340 != t329) = true := bne_iff_ne.mpr c60
                obtain rfl := Option.some.inj H
                go_wp2_with (first | ((with_reducible refine gate_callee (f := 15) rfl ?_); refine goesL_ (some 87) rfl rfl Try.func15 zq20 rfl #[.slice Ao46 t330.length co46, .int .i64 1] rfl zq2 ?_; (with_reducible refine (laws_heldIntS.calls kj44 _ _ t330 1 t340 _ ?side1 ?side2 A58.out).mono ?_); (case side1 => exact zq12); (case side2 => exact (Kd.R_reads' HO_6.out).2.1); rintro e w' ⟨rfl, ⟨nd, rfl⟩⟩; refine ⟨_, rfl, ?_⟩))
                go_ret
                exact ⟨zq6, zq1⟩
          ·rw [if_neg c42] at H
           have c42b0 : (t331 == t329) = false := beq_eq_false_iff_ne.mpr c42
           have c42b1 : (t331 != t329) = true := bne_iff_ne.mpr c42
           obtain rfl := Option.some.inj H
           obtain ⟨Ao61, co61, eo61⟩ := Kd.R_slice HO_6.out
           subst eo61
           go_wp2_with (first | ((with_reducible refine gate_callee (f := 10) rfl ?_); refine goesL_ (some 61) rfl rfl Try.func10 zq20 rfl #[.slice Ao61 t317.length co61, .int .i64 1] rfl zq2 ?_; (with_reducible refine (laws_markIntS.calls kj24 (fun k_ => some k_ = (.slice Ao61 t317.length co61 : Value).ownBlock) (.slice Ao61 t317.length co61) t317 1 t329 t330 w _ ?side1 ?side2 A37.out).mono ?_); (case side1 => exact zq1); (case side2 => exact Kd.R_tight rfl HO_6.out); rintro e w62 ⟨rfl, hy0, hb, hkp⟩; refine ⟨_, rfl, ?_⟩; replace HO_3 := am (Kd.R_mono (ok' := fun k_ => some k_ ≠ (.slice Ao61 t317.length co61 : Value).ownBlock) (Kd.R_keptB (HO_3.out) hkp (fun k_ hk_ hs_ => (hk_) hs_)) (fun k_ hk_ => hk_.1)); replace HO_6 := am (Kd.R_reok rfl hy0 (fun k_ e_ => HO_6.out.1 k_ e_)); replace HB := am (hb); (try clear hb hkp hy0)) | ((with_reducible refine gate_callee (f := 15) rfl ?_); refine goesL_ (some 64) rfl rfl Try.func15 zq20 rfl #[.slice Ao61 t330.length co61, .int .i64 1] rfl zq30 ?_; (with_reducible refine (laws_heldIntS.calls kj24 _ _ t330 1 t331 _ ?side1 ?side2 A38.out).mono ?_); (case side1 => exact zq12); (case side2 => exact zq65); rintro e w' ⟨rfl, ⟨nd, rfl⟩⟩; refine ⟨_, rfl, ?_⟩))
           go_ret
           exact ⟨zq6, zq1⟩
     ·replace c23 := Bool.eq_false_iff.mpr c23
      subst c23
      rw [if_neg (show ¬ (false = true) by decide)] at H
      obtain rfl := Option.some.inj H
      go_wp2_with (first | ((with_reducible refine gate_callee (f := 6) rfl ?_); refine goesL_ (some 40) rfl rfl Try.func6 zq20 rfl #[.slice A0 l0.length c0] rfl zq2 ?_; (with_reducible refine (laws_toIntS.calls kj6 _ _ l0 t322 _ ?side1 ?side2 A21.out).mono ?_); (case side1 => exact zq7); (case side2 => exact HC0.out); rintro e w63 ⟨v323, rfl, ho0, hb⟩; refine ⟨_, rfl, ?_⟩; have HO324 := am (Kd.R_lower (Kd.R_new' (Kd.R_new' (Kd.R_new' ho0 (Kd.R_lt (pRq7 HO_3))) (Kd.R_lt (pRq7 HO_5))) (Kd.R_lt (pRq7 HO_6))) (below_size (pBq7 HB))); replace HO_3 := am (Kd.R_elder' (pRq7 HO_3) (Kd.R_base ho0) hb); replace HO_5 := am (Kd.R_elder' (pRq7 HO_5) (Kd.R_base ho0) hb); replace HO_6 := am (Kd.R_elder' (pRq7 HO_6) (Kd.R_base ho0) hb); replace HB := am (below_step (pBq7 HB) hb); (try clear hb ho0); obtain ⟨Ao64, co64, eo64⟩ := Kd.R_slice HO324.out; subst eo64) | ((with_reducible refine gate_callee (f := 9) rfl ?_); refine goesL_ (some 41) rfl rfl Try.func9 zq20 rfl #[.slice Ao12 t314.length co12, .slice Ao64 t322.length co64] rfl zq2 ?_; (with_reducible refine (laws_eqIntS.calls kj6 _ _ t314 _ _ t322 false _ ?side1 ?side2 ?side3 ?side4 A22.out).mono ?_); (case side1 => exact zq78); (case side2 => exact (Kd.R_reads' HO_5.out).2.1); (case side3 => exact zq74); (case side4 => exact (Kd.R_reads' HO324.out).2.1); rintro e w' ⟨rfl, ⟨nd, rfl⟩⟩; refine ⟨_, rfl, ?_⟩))
      go_ret
      exact ⟨zq6, zq1⟩
/-- THE ONE PURE STATEMENT of laws_FnExactSizesOfClasses. -/
def laws_FnExactSizesOfClasses.Pure : Prop := ∀ (l0 : List Int), l0.length ≤ maxLen → l0.length * 8 ≤ 140737488351232 → (∀ x ∈ l0, (Lit.int .i64 x).wf = true) → ∃ k, laws_FnExactSizesOfClasses.f k l0 = some true
theorem laws_FnExactSizesOfClasses.walk (P : laws_FnExactSizesOfClasses.Pure) (a0 : Option Addr) (len0 cap0 : Nat) (z0 : List Int) (w : World) (w0 : (a0 = none ∧ len0 = 0 ∧ cap0 = 0 ∧ z0 = []) ∨ ∃ x, a0 = some x ∧ len0 ≤ cap0 ∧ cap0 ≤ maxLen ∧ z0.length = cap0 ∧ (∀ i, i < z0.length → w.cell? (x.add i) = some (.int .i64 (z0.getD i 0))) ∧ ∀ n ∈ z0, (Lit.int .i64 n).wf = true) (y0 : len0 * 8 ≤ 140737488351232) :
  Calls Try.prog 4 #[.slice a0 len0 cap0] w fun e w' => e = .returned (.bool true) ∧ Below w.heap.size w w' := by
 obtain ⟨l0, rfl, hr0, hm0, hw0, hc0⟩ := ReadsInt.ofRowC w0
 obtain ⟨k, h⟩ := P l0 hm0 y0 hw0
 refine (laws_FnExactSizesOfClasses.calls k _ _ l0 true w (Kd.C_of_reads (d := (0 : Int)) (h1 := fun _ => rfl) hr0) hc0 h).mono ?_
 rintro e w' ⟨rfl, hd⟩
 exact ⟨rfl, hd⟩
end
end Go.Proofs.Ytlmiiijjjcddkaa.PKb
