-- Written for this claim by a program of this session (myprint.py) over the kit's printer.
import Derived.Test.YtnddmmjofpfmfaaPLcx0
import Derived.Test.YtnddmmjofpfmfaaPLcx2
import Derived.Test.YtnddmmjofpfmfaaPLcx4
import Derived.Test.YtnddmmjofpfmfaaPLcx5
namespace Go.Proofs.Ytnddmmjofpfmfaa.PLc
noncomputable section
open Go.RowKit Go.Proofs.YtnddmmjofpfmfaaW.PrintWords Go.Proofs.YtnddmmjofpfmfaaW.PrintLast Go.Proofs.YtnddmmjofpfmfaaW.PrintMore
attribute [local go_sem] max2_int min2_int max_two min_two max_three min_three max_four min_four   -- for this text's walks alone
set_option linter.unusedVariables false
set_option linter.unusedSimpArgs false

/-! ### laws_FnLongestCounted: function 8 -/
mutual
def laws_FnLongestCounted.j0 : Nat → Int → List Int → Bool → Int → Int → Bool → Option (Bool)
  | 0, _, _, _, _, _, _ => none
  | k + 1, x5, x6, x7, x10, x14, x95 => if x95 = true then (some false) else (if x7 = true then (laws_FnLongestCounted.l0 k x5 x6 x10 x14 ([] : List Int) (wrap64 (x5 - 1))) else (some true))
def laws_FnLongestCounted.l0 : Nat → Int → List Int → Int → Int → List Int → Int → Option (Bool)
  | 0, _, _, _, _, _, _ => none
  | k + 1, x5, x6, x10, x14, x18, x19 => if x19 ≥ 0 then (if x18.length < 17592186044416 then (laws_FnLongestCounted.l0 k x5 x6 x10 x14 (x18 ++ [x19]) (wrap64 (x19 - 1))) else (none)) else ((impl_CountLeast.f x18).bind fun bt262 => (if (x6.length : Int) = (wrap64 ((wrap64 (Int.tdiv (wrap64 (x5 * (wrap64 (x5 - 1)))) 2)) + 1)) then ((laws_nSum.f k x6).bind fun t264 => (if t264 = x10 then (if 0 < (x6.length : Int) then (if (rd x6 0) = 1 then (if 1 < (x6.length : Int) then (if (rd x6 1) = (wrap64 (x5 - 1)) then (if 0 ≤ (wrap64 ((x6.length : Int) - 1)) then (if (wrap64 ((x6.length : Int) - 1)) < (x6.length : Int) then (if (rd x6 (wrap64 ((x6.length : Int) - 1))) = x14 then (if bt262.2 = true then (if bt262.1 = x14 then (some true) else (some false)) else (some false)) else (some false)) else (none)) else (none)) else (some false)) else (none)) else (some false)) else (none)) else (some false))) else (some false)))
end
def laws_FnLongestCounted.f (k : Nat) (l0 : List Int) (l1 : List Int) : Option (Bool) := (laws_big.f l0 l1).bind fun t240 => (if t240 = true then (some true) else ((spec_DrawCountByLength.f l0).bind fun t241 => ((impl_CountByLength.f t241).bind fun bt242 => ((spec_CountByLength.f t241).bind fun bt246 => ((impl_CountAllLeast.f k t241).bind fun bt250 => ((spec_CountAllLeast.f k t241).bind fun bt252 => ((impl_LongestByFormula.f k t241).bind fun bt254 => ((spec_LongestByFormula.f k t241).bind fun bt256 => (if (bt242.2 != bt246.2) = true then (laws_FnLongestCounted.j0 k t241 bt242.1 bt242.2 bt250.1 bt254.1 true) else ((laws_nSame.f k bt242.1 bt246.1).bind fun t258 => (if t258 = true then (if (bt250.2 != bt252.2) = true then (laws_FnLongestCounted.j0 k t241 bt242.1 bt242.2 bt250.1 bt254.1 true) else (if bt250.1 = bt252.1 then (if (bt254.2 != bt256.2) = true then (laws_FnLongestCounted.j0 k t241 bt242.1 bt242.2 bt250.1 bt254.1 true) else (if bt254.1 = bt256.1 then (if (bt250.2 != bt242.2) = true then (laws_FnLongestCounted.j0 k t241 bt242.1 bt242.2 bt250.1 bt254.1 true) else (laws_FnLongestCounted.j0 k t241 bt242.1 bt242.2 bt250.1 bt254.1 (bt254.2 != bt242.2))) else (laws_FnLongestCounted.j0 k t241 bt242.1 bt242.2 bt250.1 bt254.1 true))) else (laws_FnLongestCounted.j0 k t241 bt242.1 bt242.2 bt250.1 bt254.1 true))) else (laws_FnLongestCounted.j0 k t241 bt242.1 bt242.2 bt250.1 bt254.1 true))))))))))))
theorem laws_FnLongestCounted.mono_l : ∀ k, (∀ y0 y1 y2 y3 y4 y5, LeO (laws_FnLongestCounted.j0 k y0 y1 y2 y3 y4 y5) (laws_FnLongestCounted.j0 (k + 1) y0 y1 y2 y3 y4 y5)) ∧ (∀ y0 y1 y2 y3 y4 y5, LeO (laws_FnLongestCounted.l0 k y0 y1 y2 y3 y4 y5) (laws_FnLongestCounted.l0 (k + 1) y0 y1 y2 y3 y4 y5))
  | 0 => ⟨fun _ _ _ _ _ _ r h => by simp [laws_FnLongestCounted.j0] at h, fun _ _ _ _ _ _ r h => by simp [laws_FnLongestCounted.l0] at h⟩
  | k + 1 => by
    obtain ⟨ih0, ih1⟩ := laws_FnLongestCounted.mono_l k
    refine ⟨?_, ?_⟩
    · intro y0 y1 y2 y3 y4 y5
      unfold laws_FnLongestCounted.j0
      repeat' first
      | (with_reducible exact ih0 _ _ _ _ _ _)
      | (with_reducible exact ih1 _ _ _ _ _ _)
      | (with_reducible exact impl_CountAllLeast.mono _ _)
      | (with_reducible exact impl_LongestByFormula.mono _ _)
      | (with_reducible exact laws_nSame.mono _ _ _)
      | (with_reducible exact laws_nSum.mono _ _)
      | (with_reducible exact spec_CountAllLeast.mono _ _)
      | (with_reducible exact spec_LongestByFormula.mono _ _)
      | (with_reducible exact LeO.refl _)
      | (with_reducible exact LeO.none _)
      | (with_reducible refine LeO.ite ?_ ?_)
      | (with_reducible refine LeO.bind ?_ (fun _ => ?_))
      | exact ih0 _ _ _ _ _ _
      | exact ih1 _ _ _ _ _ _
      | exact impl_CountAllLeast.mono _ _
      | exact impl_LongestByFormula.mono _ _
      | exact laws_nSame.mono _ _ _
      | exact laws_nSum.mono _ _
      | exact spec_CountAllLeast.mono _ _
      | exact spec_LongestByFormula.mono _ _
      | exact LeO.none _
      | refine LeO.ite ?_ ?_
      | refine LeO.bind ?_ (fun _ => ?_)
    · intro y0 y1 y2 y3 y4 y5
      unfold laws_FnLongestCounted.l0
      repeat' first
      | (with_reducible exact ih0 _ _ _ _ _ _)
      | (with_reducible exact ih1 _ _ _ _ _ _)
      | (with_reducible exact impl_CountAllLeast.mono _ _)
      | (with_reducible exact impl_LongestByFormula.mono _ _)
      | (with_reducible exact laws_nSame.mono _ _ _)
      | (with_reducible exact laws_nSum.mono _ _)
      | (with_reducible exact spec_CountAllLeast.mono _ _)
      | (with_reducible exact spec_LongestByFormula.mono _ _)
      | (with_reducible exact LeO.refl _)
      | (with_reducible exact LeO.none _)
      | (with_reducible refine LeO.ite ?_ ?_)
      | (with_reducible refine LeO.bind ?_ (fun _ => ?_))
      | exact ih0 _ _ _ _ _ _
      | exact ih1 _ _ _ _ _ _
      | exact impl_CountAllLeast.mono _ _
      | exact impl_LongestByFormula.mono _ _
      | exact laws_nSame.mono _ _ _
      | exact laws_nSum.mono _ _
      | exact spec_CountAllLeast.mono _ _
      | exact spec_LongestByFormula.mono _ _
      | exact LeO.none _
      | refine LeO.ite ?_ ?_
      | refine LeO.bind ?_ (fun _ => ?_)
theorem laws_FnLongestCounted.mono : ∀ a0 a1 k, LeO (laws_FnLongestCounted.f k a0 a1) (laws_FnLongestCounted.f (k + 1) a0 a1) := by
  intro a0 a1 k
  obtain ⟨ih0, ih1⟩ := laws_FnLongestCounted.mono_l k
  unfold laws_FnLongestCounted.f
  repeat' first
      | (with_reducible exact ih0 _ _ _ _ _ _)
      | (with_reducible exact ih1 _ _ _ _ _ _)
      | (with_reducible exact impl_CountAllLeast.mono _ _)
      | (with_reducible exact impl_LongestByFormula.mono _ _)
      | (with_reducible exact laws_nSame.mono _ _ _)
      | (with_reducible exact laws_nSum.mono _ _)
      | (with_reducible exact spec_CountAllLeast.mono _ _)
      | (with_reducible exact spec_LongestByFormula.mono _ _)
      | (with_reducible exact LeO.refl _)
      | (with_reducible exact LeO.none _)
      | (with_reducible refine LeO.ite ?_ ?_)
      | (with_reducible refine LeO.bind ?_ (fun _ => ?_))
      | exact ih0 _ _ _ _ _ _
      | exact ih1 _ _ _ _ _ _
      | exact impl_CountAllLeast.mono _ _
      | exact impl_LongestByFormula.mono _ _
      | exact laws_nSame.mono _ _ _
      | exact laws_nSum.mono _ _
      | exact spec_CountAllLeast.mono _ _
      | exact spec_LongestByFormula.mono _ _
      | exact LeO.none _
      | refine LeO.ite ?_ ?_
      | refine LeO.bind ?_ (fun _ => ?_)
set_option maxHeartbeats 8000000 in
set_option maxRecDepth 100000 in
theorem laws_FnLongestCounted.calls (k : Nat) (A0 : Option Addr) (c0 : Nat) (l0 : List Int) (A1 : Option Addr) (c1 : Nat) (l1 : List Int) (r : Bool) (w : World) (hr0 : Kd.C (Kd.int .u8) w A0 l0.length l0) (hc0 : l0.length ≤ c0) (hr1 : Kd.C (Kd.int .u8) w A1 l1.length l1) (hc1 : l1.length ≤ c1) (h : laws_FnLongestCounted.f k l0 l1 = some r) :
    Calls Try.prog 8 #[.slice A0 l0.length c0, .slice A1 l1.length c1] w fun e w' => e = .returned (.bool r) ∧ Below w.heap.size w w' := by
  have HR0 := Aside0.mk hr0
  have HC0 := Aside0.mk hc0
  clear hr0 hc0
  have HR1 := Aside0.mk hr1
  have HC1 := Aside0.mk hc1
  clear hr1 hc1
  have HB := Aside0.mk (Below.refl w.heap.size w)
  have H : ((laws_big.f l0 l1).bind fun t240 => (if t240 = true then (some true) else ((spec_DrawCountByLength.f l0).bind fun t241 => ((impl_CountByLength.f t241).bind fun bt242 => ((spec_CountByLength.f t241).bind fun bt246 => ((impl_CountAllLeast.f k t241).bind fun bt250 => ((spec_CountAllLeast.f k t241).bind fun bt252 => ((impl_LongestByFormula.f k t241).bind fun bt254 => ((spec_LongestByFormula.f k t241).bind fun bt256 => (if (bt242.2 != bt246.2) = true then (laws_FnLongestCounted.j0 k t241 bt242.1 bt242.2 bt250.1 bt254.1 true) else ((laws_nSame.f k bt242.1 bt246.1).bind fun t258 => (if t258 = true then (if (bt250.2 != bt252.2) = true then (laws_FnLongestCounted.j0 k t241 bt242.1 bt242.2 bt250.1 bt254.1 true) else (if bt250.1 = bt252.1 then (if (bt254.2 != bt256.2) = true then (laws_FnLongestCounted.j0 k t241 bt242.1 bt242.2 bt250.1 bt254.1 true) else (if bt254.1 = bt256.1 then (if (bt250.2 != bt242.2) = true then (laws_FnLongestCounted.j0 k t241 bt242.1 bt242.2 bt250.1 bt254.1 true) else (laws_FnLongestCounted.j0 k t241 bt242.1 bt242.2 bt250.1 bt254.1 (bt254.2 != bt242.2))) else (laws_FnLongestCounted.j0 k t241 bt242.1 bt242.2 bt250.1 bt254.1 true))) else (laws_FnLongestCounted.j0 k t241 bt242.1 bt242.2 bt250.1 bt254.1 true))) else (laws_FnLongestCounted.j0 k t241 bt242.1 bt242.2 bt250.1 bt254.1 true))))))))))))) = some r := h
  clear h
  replace H := Option.bind_eq_some_iff.mp H
  obtain ⟨t240, A30, H⟩ := H
  replace H : (if t240 = true then (some true) else ((spec_DrawCountByLength.f l0).bind fun t241 => ((impl_CountByLength.f t241).bind fun bt242 => ((spec_CountByLength.f t241).bind fun bt246 => ((impl_CountAllLeast.f k t241).bind fun bt250 => ((spec_CountAllLeast.f k t241).bind fun bt252 => ((impl_LongestByFormula.f k t241).bind fun bt254 => ((spec_LongestByFormula.f k t241).bind fun bt256 => (if (bt242.2 != bt246.2) = true then (laws_FnLongestCounted.j0 k t241 bt242.1 bt242.2 bt250.1 bt254.1 true) else ((laws_nSame.f k bt242.1 bt246.1).bind fun t258 => (if t258 = true then (if (bt250.2 != bt252.2) = true then (laws_FnLongestCounted.j0 k t241 bt242.1 bt242.2 bt250.1 bt254.1 true) else (if bt250.1 = bt252.1 then (if (bt254.2 != bt256.2) = true then (laws_FnLongestCounted.j0 k t241 bt242.1 bt242.2 bt250.1 bt254.1 true) else (if bt254.1 = bt256.1 then (if (bt250.2 != bt242.2) = true then (laws_FnLongestCounted.j0 k t241 bt242.1 bt242.2 bt250.1 bt254.1 true) else (laws_FnLongestCounted.j0 k t241 bt242.1 bt242.2 bt250.1 bt254.1 (bt254.2 != bt242.2))) else (laws_FnLongestCounted.j0 k t241 bt242.1 bt242.2 bt250.1 bt254.1 true))) else (laws_FnLongestCounted.j0 k t241 bt242.1 bt242.2 bt250.1 bt254.1 true))) else (laws_FnLongestCounted.j0 k t241 bt242.1 bt242.2 bt250.1 bt254.1 true)))))))))))) = some r := H
  have A3 := Aside0.mk A30
  clear A30
  by_cases c4 : t240 = true
  · subst c4
    have H1 : (some true) = some r := by rw [if_pos rfl] at H; exact H
    clear H
    have H := H1
    clear H1
    obtain rfl := Option.some.inj H
    go_enter Try.func8, Try.ntmps8
    go_wp2_with (first | ((with_reducible refine gate_callee (f := 32) rfl ?_); refine goesL_ (some 24) rfl rfl Try.func32 (by kernel_rfl) rfl #[.slice A0 l0.length c0, .slice A1 l1.length c1] rfl (by (try simp only [List.map_toArray, List.map_cons, List.map_nil]); first | done | rfl | (simp only [List.length_drop, List.length_take]; rfl)) ?_; (with_reducible refine (laws_big.calls _ _ l0 _ _ l1 true _ ?side1 ?side2 ?side3 ?side4 A3.out).mono ?_); (case side1 => repeat (first | exact HR0.out | (with_reducible refine Kd.C_alloc ?_ _) | (with_reducible refine Kd.C_drewN ?_ _) | (with_reducible refine Kd.C_drew ?_))); (case side2 => exact HC0.out); (case side3 => repeat (first | exact HR1.out | (with_reducible refine Kd.C_alloc ?_ _) | (with_reducible refine Kd.C_drewN ?_ _) | (with_reducible refine Kd.C_drew ?_))); (case side4 => exact HC1.out); rintro e w' ⟨rfl, ⟨nd, rfl⟩⟩; refine ⟨_, rfl, ?_⟩))
    go_ret
    exact ⟨by first | rfl | (simp [errW_none, errW_some] <;> rfl) | (simp [*, errW_none, errW_some] <;> rfl), by repeat (first | (with_reducible first | exact HB.out | apply below_alloc | apply pw_below_drewN | apply below_drew1) | exact HB.out)⟩
  · replace c4 := Bool.eq_false_iff.mpr c4
    subst c4
    have H1 : ((spec_DrawCountByLength.f l0).bind fun t241 => ((impl_CountByLength.f t241).bind fun bt242 => ((spec_CountByLength.f t241).bind fun bt246 => ((impl_CountAllLeast.f k t241).bind fun bt250 => ((spec_CountAllLeast.f k t241).bind fun bt252 => ((impl_LongestByFormula.f k t241).bind fun bt254 => ((spec_LongestByFormula.f k t241).bind fun bt256 => (if (bt242.2 != bt246.2) = true then (laws_FnLongestCounted.j0 k t241 bt242.1 bt242.2 bt250.1 bt254.1 true) else ((laws_nSame.f k bt242.1 bt246.1).bind fun t258 => (if t258 = true then (if (bt250.2 != bt252.2) = true then (laws_FnLongestCounted.j0 k t241 bt242.1 bt242.2 bt250.1 bt254.1 true) else (if bt250.1 = bt252.1 then (if (bt254.2 != bt256.2) = true then (laws_FnLongestCounted.j0 k t241 bt242.1 bt242.2 bt250.1 bt254.1 true) else (if bt254.1 = bt256.1 then (if (bt250.2 != bt242.2) = true then (laws_FnLongestCounted.j0 k t241 bt242.1 bt242.2 bt250.1 bt254.1 true) else (laws_FnLongestCounted.j0 k t241 bt242.1 bt242.2 bt250.1 bt254.1 (bt254.2 != bt242.2))) else (laws_FnLongestCounted.j0 k t241 bt242.1 bt242.2 bt250.1 bt254.1 true))) else (laws_FnLongestCounted.j0 k t241 bt242.1 bt242.2 bt250.1 bt254.1 true))) else (laws_FnLongestCounted.j0 k t241 bt242.1 bt242.2 bt250.1 bt254.1 true))))))))))) = some r := by rw [if_neg (show ¬ (false = true) by decide)] at H; exact H
    clear H
    have H := H1
    clear H1
    replace H := Option.bind_eq_some_iff.mp H
    obtain ⟨t241, A50, H⟩ := H
    replace H : ((impl_CountByLength.f t241).bind fun bt242 => ((spec_CountByLength.f t241).bind fun bt246 => ((impl_CountAllLeast.f k t241).bind fun bt250 => ((spec_CountAllLeast.f k t241).bind fun bt252 => ((impl_LongestByFormula.f k t241).bind fun bt254 => ((spec_LongestByFormula.f k t241).bind fun bt256 => (if (bt242.2 != bt246.2) = true then (laws_FnLongestCounted.j0 k t241 bt242.1 bt242.2 bt250.1 bt254.1 true) else ((laws_nSame.f k bt242.1 bt246.1).bind fun t258 => (if t258 = true then (if (bt250.2 != bt252.2) = true then (laws_FnLongestCounted.j0 k t241 bt242.1 bt242.2 bt250.1 bt254.1 true) else (if bt250.1 = bt252.1 then (if (bt254.2 != bt256.2) = true then (laws_FnLongestCounted.j0 k t241 bt242.1 bt242.2 bt250.1 bt254.1 true) else (if bt254.1 = bt256.1 then (if (bt250.2 != bt242.2) = true then (laws_FnLongestCounted.j0 k t241 bt242.1 bt242.2 bt250.1 bt254.1 true) else (laws_FnLongestCounted.j0 k t241 bt242.1 bt242.2 bt250.1 bt254.1 (bt254.2 != bt242.2))) else (laws_FnLongestCounted.j0 k t241 bt242.1 bt242.2 bt250.1 bt254.1 true))) else (laws_FnLongestCounted.j0 k t241 bt242.1 bt242.2 bt250.1 bt254.1 true))) else (laws_FnLongestCounted.j0 k t241 bt242.1 bt242.2 bt250.1 bt254.1 true)))))))))) = some r := H
    have A5 := Aside0.mk A50
    clear A50
    replace H := Option.bind_eq_some_iff.mp H
    obtain ⟨⟨t242, t243⟩, A60, H⟩ := H
    replace H : ((spec_CountByLength.f t241).bind fun bt246 => ((impl_CountAllLeast.f k t241).bind fun bt250 => ((spec_CountAllLeast.f k t241).bind fun bt252 => ((impl_LongestByFormula.f k t241).bind fun bt254 => ((spec_LongestByFormula.f k t241).bind fun bt256 => (if (t243 != bt246.2) = true then (laws_FnLongestCounted.j0 k t241 t242 t243 bt250.1 bt254.1 true) else ((laws_nSame.f k t242 bt246.1).bind fun t258 => (if t258 = true then (if (bt250.2 != bt252.2) = true then (laws_FnLongestCounted.j0 k t241 t242 t243 bt250.1 bt254.1 true) else (if bt250.1 = bt252.1 then (if (bt254.2 != bt256.2) = true then (laws_FnLongestCounted.j0 k t241 t242 t243 bt250.1 bt254.1 true) else (if bt254.1 = bt256.1 then (if (bt250.2 != t243) = true then (laws_FnLongestCounted.j0 k t241 t242 t243 bt250.1 bt254.1 true) else (laws_FnLongestCounted.j0 k t241 t242 t243 bt250.1 bt254.1 (bt254.2 != t243))) else (laws_FnLongestCounted.j0 k t241 t242 t243 bt250.1 bt254.1 true))) else (laws_FnLongestCounted.j0 k t241 t242 t243 bt250.1 bt254.1 true))) else (laws_FnLongestCounted.j0 k t241 t242 t243 bt250.1 bt254.1 true))))))))) = some r := H
    have A6 := Aside0.mk A60
    clear A60
    replace H := Option.bind_eq_some_iff.mp H
    obtain ⟨⟨t246, t247⟩, A70, H⟩ := H
    replace H : ((impl_CountAllLeast.f k t241).bind fun bt250 => ((spec_CountAllLeast.f k t241).bind fun bt252 => ((impl_LongestByFormula.f k t241).bind fun bt254 => ((spec_LongestByFormula.f k t241).bind fun bt256 => (if (t243 != t247) = true then (laws_FnLongestCounted.j0 k t241 t242 t243 bt250.1 bt254.1 true) else ((laws_nSame.f k t242 t246).bind fun t258 => (if t258 = true then (if (bt250.2 != bt252.2) = true then (laws_FnLongestCounted.j0 k t241 t242 t243 bt250.1 bt254.1 true) else (if bt250.1 = bt252.1 then (if (bt254.2 != bt256.2) = true then (laws_FnLongestCounted.j0 k t241 t242 t243 bt250.1 bt254.1 true) else (if bt254.1 = bt256.1 then (if (bt250.2 != t243) = true then (laws_FnLongestCounted.j0 k t241 t242 t243 bt250.1 bt254.1 true) else (laws_FnLongestCounted.j0 k t241 t242 t243 bt250.1 bt254.1 (bt254.2 != t243))) else (laws_FnLongestCounted.j0 k t241 t242 t243 bt250.1 bt254.1 true))) else (laws_FnLongestCounted.j0 k t241 t242 t243 bt250.1 bt254.1 true))) else (laws_FnLongestCounted.j0 k t241 t242 t243 bt250.1 bt254.1 true)))))))) = some r := H
    have A7 := Aside0.mk A70
    clear A70
    replace H := Option.bind_eq_some_iff.mp H
    obtain ⟨⟨t250, t251⟩, A80, H⟩ := H
    replace H : ((spec_CountAllLeast.f k t241).bind fun bt252 => ((impl_LongestByFormula.f k t241).bind fun bt254 => ((spec_LongestByFormula.f k t241).bind fun bt256 => (if (t243 != t247) = true then (laws_FnLongestCounted.j0 k t241 t242 t243 t250 bt254.1 true) else ((laws_nSame.f k t242 t246).bind fun t258 => (if t258 = true then (if (t251 != bt252.2) = true then (laws_FnLongestCounted.j0 k t241 t242 t243 t250 bt254.1 true) else (if t250 = bt252.1 then (if (bt254.2 != bt256.2) = true then (laws_FnLongestCounted.j0 k t241 t242 t243 t250 bt254.1 true) else (if bt254.1 = bt256.1 then (if (t251 != t243) = true then (laws_FnLongestCounted.j0 k t241 t242 t243 t250 bt254.1 true) else (laws_FnLongestCounted.j0 k t241 t242 t243 t250 bt254.1 (bt254.2 != t243))) else (laws_FnLongestCounted.j0 k t241 t242 t243 t250 bt254.1 true))) else (laws_FnLongestCounted.j0 k t241 t242 t243 t250 bt254.1 true))) else (laws_FnLongestCounted.j0 k t241 t242 t243 t250 bt254.1 true))))))) = some r := H
    have A8 := Aside0.mk A80
    clear A80
    replace H := Option.bind_eq_some_iff.mp H
    obtain ⟨⟨t252, t253⟩, A90, H⟩ := H
    replace H : ((impl_LongestByFormula.f k t241).bind fun bt254 => ((spec_LongestByFormula.f k t241).bind fun bt256 => (if (t243 != t247) = true then (laws_FnLongestCounted.j0 k t241 t242 t243 t250 bt254.1 true) else ((laws_nSame.f k t242 t246).bind fun t258 => (if t258 = true then (if (t251 != t253) = true then (laws_FnLongestCounted.j0 k t241 t242 t243 t250 bt254.1 true) else (if t250 = t252 then (if (bt254.2 != bt256.2) = true then (laws_FnLongestCounted.j0 k t241 t242 t243 t250 bt254.1 true) else (if bt254.1 = bt256.1 then (if (t251 != t243) = true then (laws_FnLongestCounted.j0 k t241 t242 t243 t250 bt254.1 true) else (laws_FnLongestCounted.j0 k t241 t242 t243 t250 bt254.1 (bt254.2 != t243))) else (laws_FnLongestCounted.j0 k t241 t242 t243 t250 bt254.1 true))) else (laws_FnLongestCounted.j0 k t241 t242 t243 t250 bt254.1 true))) else (laws_FnLongestCounted.j0 k t241 t242 t243 t250 bt254.1 true)))))) = some r := H
    have A9 := Aside0.mk A90
    clear A90
    replace H := Option.bind_eq_some_iff.mp H
    obtain ⟨⟨t254, t255⟩, A100, H⟩ := H
    replace H : ((spec_LongestByFormula.f k t241).bind fun bt256 => (if (t243 != t247) = true then (laws_FnLongestCounted.j0 k t241 t242 t243 t250 t254 true) else ((laws_nSame.f k t242 t246).bind fun t258 => (if t258 = true then (if (t251 != t253) = true then (laws_FnLongestCounted.j0 k t241 t242 t243 t250 t254 true) else (if t250 = t252 then (if (t255 != bt256.2) = true then (laws_FnLongestCounted.j0 k t241 t242 t243 t250 t254 true) else (if t254 = bt256.1 then (if (t251 != t243) = true then (laws_FnLongestCounted.j0 k t241 t242 t243 t250 t254 true) else (laws_FnLongestCounted.j0 k t241 t242 t243 t250 t254 (t255 != t243))) else (laws_FnLongestCounted.j0 k t241 t242 t243 t250 t254 true))) else (laws_FnLongestCounted.j0 k t241 t242 t243 t250 t254 true))) else (laws_FnLongestCounted.j0 k t241 t242 t243 t250 t254 true))))) = some r := H
    have A10 := Aside0.mk A100
    clear A100
    replace H := Option.bind_eq_some_iff.mp H
    obtain ⟨⟨t256, t257⟩, A110, H⟩ := H
    replace H : (if (t243 != t247) = true then (laws_FnLongestCounted.j0 k t241 t242 t243 t250 t254 true) else ((laws_nSame.f k t242 t246).bind fun t258 => (if t258 = true then (if (t251 != t253) = true then (laws_FnLongestCounted.j0 k t241 t242 t243 t250 t254 true) else (if t250 = t252 then (if (t255 != t257) = true then (laws_FnLongestCounted.j0 k t241 t242 t243 t250 t254 true) else (if t254 = t256 then (if (t251 != t243) = true then (laws_FnLongestCounted.j0 k t241 t242 t243 t250 t254 true) else (laws_FnLongestCounted.j0 k t241 t242 t243 t250 t254 (t255 != t243))) else (laws_FnLongestCounted.j0 k t241 t242 t243 t250 t254 true))) else (laws_FnLongestCounted.j0 k t241 t242 t243 t250 t254 true))) else (laws_FnLongestCounted.j0 k t241 t242 t243 t250 t254 true)))) = some r := H
    have A11 := Aside0.mk A110
    clear A110
    have HC12 := Aside0.mk H
    clear H
    go_enter Try.func8, Try.ntmps8
    go_upto_region 10 with (first | ((with_reducible refine gate_callee (f := 32) rfl ?_); refine goesL_ (some 24) rfl rfl Try.func32 (by kernel_rfl) rfl #[.slice A0 l0.length c0, .slice A1 l1.length c1] rfl (by (try simp only [List.map_toArray, List.map_cons, List.map_nil]); first | done | rfl | (simp only [List.length_drop, List.length_take]; rfl)) ?_; (with_reducible refine (laws_big.calls _ _ l0 _ _ l1 false _ ?side1 ?side2 ?side3 ?side4 A3.out).mono ?_); (case side1 => repeat (first | exact HR0.out | (with_reducible refine Kd.C_alloc ?_ _) | (with_reducible refine Kd.C_drewN ?_ _) | (with_reducible refine Kd.C_drew ?_))); (case side2 => exact HC0.out); (case side3 => repeat (first | exact HR1.out | (with_reducible refine Kd.C_alloc ?_ _) | (with_reducible refine Kd.C_drewN ?_ _) | (with_reducible refine Kd.C_drew ?_))); (case side4 => exact HC1.out); rintro e w' ⟨rfl, ⟨nd, rfl⟩⟩; refine ⟨_, rfl, ?_⟩) | ((with_reducible refine gate_callee (f := 33) rfl ?_); refine goesL_ (some 26) rfl rfl Try.func33 (by kernel_rfl) rfl #[.slice A0 l0.length c0] rfl (by (try simp only [List.map_toArray, List.map_cons, List.map_nil]); first | done | rfl | (simp only [List.length_drop, List.length_take]; rfl)) ?_; (with_reducible refine (spec_DrawCountByLength.calls _ _ l0 t241 _ ?side1 ?side2 A5.out).mono ?_); (case side1 => repeat (first | exact HR0.out | (with_reducible refine Kd.C_alloc ?_ _) | (with_reducible refine Kd.C_drewN ?_ _) | (with_reducible refine Kd.C_drew ?_))); (case side2 => exact HC0.out); rintro e w13 ⟨rfl, hb⟩; refine ⟨_, rfl, ?_⟩; have n0_ := Aside0.mk (below_step (by repeat (first | (with_reducible first | exact HB.out | apply below_alloc | apply pw_below_drewN | apply below_drew1) | exact HB.out)) hb); clear HB; have HB := n0_; clear n0_; (try clear hb); (try clear hb2); (try clear hk); (try clear hi)) | ((with_reducible refine gate_callee (f := 13) rfl ?_); refine goesL_ (some 29) rfl rfl Try.func13 (by kernel_rfl) rfl #[.int .i64 t241] rfl (by (try simp only [List.map_toArray, List.map_cons, List.map_nil]); first | done | rfl | (simp only [List.length_drop, List.length_take]; rfl)) ?_; (with_reducible refine (impl_CountByLength.calls t241 t242 t243 _ A6.out).mono ?_); rintro e w14 ⟨v244, rfl, ho0, hb⟩; refine ⟨_, rfl, ?_⟩; have n0_ := Aside0.mk (Kd.R_lower ho0 (below_size (by repeat (first | (with_reducible first | exact HB.out | apply below_alloc | apply pw_below_drewN | apply below_drew1) | exact HB.out)))); have n1_ := Aside0.mk (below_step (by repeat (first | (with_reducible first | exact HB.out | apply below_alloc | apply pw_below_drewN | apply below_drew1) | exact HB.out)) hb); clear HB; have HO245 := n0_; have HB := n1_; clear n0_ n1_; (try clear hb); (try clear hb2); (try clear hk); (try clear hi); (try clear ho0)) | ((with_reducible refine gate_callee (f := 12) rfl ?_); refine goesL_ (some 34) rfl rfl Try.func12 (by kernel_rfl) rfl #[.int .i64 t241] rfl (by (try simp only [List.map_toArray, List.map_cons, List.map_nil]); first | done | rfl | (simp only [List.length_drop, List.length_take]; rfl)) ?_; (with_reducible refine (spec_CountByLength.calls t241 t246 t247 _ A7.out).mono ?_); rintro e w15 ⟨v248, rfl, ho0, hb⟩; refine ⟨_, rfl, ?_⟩; have n0_ := Aside0.mk (Kd.R_elder' (by (with_reducible repeat (first | apply Kd.R_alloc | apply Kd.R_drewN | apply Kd.R_drew)); exact HO245.out) (Kd.R_base ho0) hb); have n1_ := Aside0.mk (Kd.R_lower (Kd.R_new' ho0 (Kd.R_lt (by (with_reducible repeat (first | apply Kd.R_alloc | apply Kd.R_drewN | apply Kd.R_drew)); exact HO245.out))) (below_size (by repeat (first | (with_reducible first | exact HB.out | apply below_alloc | apply pw_below_drewN | apply below_drew1) | exact HB.out)))); have n2_ := Aside0.mk (below_step (by repeat (first | (with_reducible first | exact HB.out | apply below_alloc | apply pw_below_drewN | apply below_drew1) | exact HB.out)) hb); clear HO245; clear HB; have HO245 := n0_; have HO249 := n1_; have HB := n2_; clear n0_ n1_ n2_; (try clear hb); (try clear hb2); (try clear hk); (try clear hi); (try clear ho0)) | ((with_reducible refine gate_callee (f := 11) rfl ?_); refine goesL_ (some 39) rfl rfl Try.func11 (by kernel_rfl) rfl #[.int .i64 t241] rfl (by (try simp only [List.map_toArray, List.map_cons, List.map_nil]); first | done | rfl | (simp only [List.length_drop, List.length_take]; rfl)) ?_; (with_reducible refine (impl_CountAllLeast.calls k t241 t250 t251 _ A8.out).mono ?_); rintro e w16 ⟨rfl, hb⟩; refine ⟨_, rfl, ?_⟩; have n0_ := Aside0.mk (Kd.R_below (by (with_reducible repeat (first | apply Kd.R_alloc | apply Kd.R_drewN | apply Kd.R_drew)); exact HO245.out) hb); have n1_ := Aside0.mk (Kd.R_below (by (with_reducible repeat (first | apply Kd.R_alloc | apply Kd.R_drewN | apply Kd.R_drew)); exact HO249.out) hb); have n2_ := Aside0.mk (below_step (by repeat (first | (with_reducible first | exact HB.out | apply below_alloc | apply pw_below_drewN | apply below_drew1) | exact HB.out)) hb); clear HO245; clear HO249; clear HB; have HO245 := n0_; have HO249 := n1_; have HB := n2_; clear n0_ n1_ n2_; (try clear hb); (try clear hb2); (try clear hk); (try clear hi)) | ((with_reducible refine gate_callee (f := 10) rfl ?_); refine goesL_ (some 44) rfl rfl Try.func10 (by kernel_rfl) rfl #[.int .i64 t241] rfl (by (try simp only [List.map_toArray, List.map_cons, List.map_nil]); first | done | rfl | (simp only [List.length_drop, List.length_take]; rfl)) ?_; (with_reducible refine (spec_CountAllLeast.calls k t241 t252 t253 _ A9.out).mono ?_); rintro e w17 ⟨rfl, hb⟩; refine ⟨_, rfl, ?_⟩; have n0_ := Aside0.mk (Kd.R_below (by (with_reducible repeat (first | apply Kd.R_alloc | apply Kd.R_drewN | apply Kd.R_drew)); exact HO245.out) hb); have n1_ := Aside0.mk (Kd.R_below (by (with_reducible repeat (first | apply Kd.R_alloc | apply Kd.R_drewN | apply Kd.R_drew)); exact HO249.out) hb); have n2_ := Aside0.mk (below_step (by repeat (first | (with_reducible first | exact HB.out | apply below_alloc | apply pw_below_drewN | apply below_drew1) | exact HB.out)) hb); clear HO245; clear HO249; clear HB; have HO245 := n0_; have HO249 := n1_; have HB := n2_; clear n0_ n1_ n2_; (try clear hb); (try clear hb2); (try clear hk); (try clear hi)) | ((with_reducible refine gate_callee (f := 34) rfl ?_); refine goesL_ (some 49) rfl rfl Try.func34 (by kernel_rfl) rfl #[.int .i64 t241] rfl (by (try simp only [List.map_toArray, List.map_cons, List.map_nil]); first | done | rfl | (simp only [List.length_drop, List.length_take]; rfl)) ?_; (with_reducible refine (impl_LongestByFormula.calls k t241 t254 t255 _ A10.out).mono ?_); rintro e w' ⟨rfl, ⟨nd, rfl⟩⟩; refine ⟨_, rfl, ?_⟩) | ((with_reducible refine gate_callee (f := 35) rfl ?_); refine goesL_ (some 54) rfl rfl Try.func35 (by kernel_rfl) rfl #[.int .i64 t241] rfl (by (try simp only [List.map_toArray, List.map_cons, List.map_nil]); first | done | rfl | (simp only [List.length_drop, List.length_take]; rfl)) ?_; (with_reducible refine (spec_LongestByFormula.calls k t241 t256 t257 _ A11.out).mono ?_); rintro e w' ⟨rfl, ⟨nd, rfl⟩⟩; refine ⟨_, rfl, ?_⟩))
    (try simp only [Act.put, List.setIfInBounds_toArray, List.set_cons_zero, List.set_cons_succ])
    go_cut [95] (fun v95 wc => ∃ (kq : Nat) (x95_11 : Bool), v95 = .bool x95_11 ∧ Aside0 (laws_FnLongestCounted.j0 kq t241 t242 t243 t250 t254 x95_11 = some r) ∧ Aside0 (kq ≤ k) ∧ Aside0 (Kd.R (Kd.int .i64) 3 wc w.heap.size (fun _ => True) v244 t242) ∧ Aside0 (Below w.heap.size w wc))
    case first =>
      have H := HC12.out
      clear HC12
      by_cases c18 : (t243 != t247) = true
      · rw [if_pos c18] at H
        have c18b0 : (t243 != t247) = true := c18
        (try (have c18b1 : decide (t243 = t247) = false := by simpa using c18))
        (try (have c18b2 : (t243 == t247) = false := by simpa using c18))
        (try (have c18b3 : ¬ (t243 = t247) := by simpa using c18))
        clear c18
        (first | rw [c18b0] | (simp only [i64_w, i32_w]; rw [c18b0]) | skip)
        have H' := Aside0.mk H
        clear H
        go_wp2
        go_meet
        case rel => exact ⟨_, (true), (by first | rfl | (simp; done) | (simp [*]; done)), H', ⟨by first | omega | exact Nat.le_refl _⟩, ⟨by (with_reducible repeat (first | apply Kd.R_alloc | apply Kd.R_drewN | apply Kd.R_drew)); exact Kd.R_mono HO245.out (fun _ hk => trivial)⟩, ⟨by repeat (first | (with_reducible first | exact HB.out | apply below_alloc | apply pw_below_drewN | apply below_drew1) | exact HB.out)⟩⟩
      · rw [if_neg c18] at H
        have c18b0 : (t243 != t247) = false := by simpa using c18
        (try (have c18b1 : decide (t243 = t247) = true := by simpa using c18))
        (try (have c18b2 : (t243 == t247) = true := by simpa using c18))
        clear c18
        (first | rw [c18b0] | (simp only [i64_w, i32_w]; rw [c18b0]) | skip)
        replace H := Option.bind_eq_some_iff.mp H
        obtain ⟨t258, A190, H⟩ := H
        replace H : (if t258 = true then (if (t251 != t253) = true then (laws_FnLongestCounted.j0 k t241 t242 t243 t250 t254 true) else (if t250 = t252 then (if (t255 != t257) = true then (laws_FnLongestCounted.j0 k t241 t242 t243 t250 t254 true) else (if t254 = t256 then (if (t251 != t243) = true then (laws_FnLongestCounted.j0 k t241 t242 t243 t250 t254 true) else (laws_FnLongestCounted.j0 k t241 t242 t243 t250 t254 (t255 != t243))) else (laws_FnLongestCounted.j0 k t241 t242 t243 t250 t254 true))) else (laws_FnLongestCounted.j0 k t241 t242 t243 t250 t254 true))) else (laws_FnLongestCounted.j0 k t241 t242 t243 t250 t254 true)) = some r := H
        have A19 := Aside0.mk A190
        clear A190
        by_cases c20 : t258 = true
        · subst c20
          have H1 : (if (t251 != t253) = true then (laws_FnLongestCounted.j0 k t241 t242 t243 t250 t254 true) else (if t250 = t252 then (if (t255 != t257) = true then (laws_FnLongestCounted.j0 k t241 t242 t243 t250 t254 true) else (if t254 = t256 then (if (t251 != t243) = true then (laws_FnLongestCounted.j0 k t241 t242 t243 t250 t254 true) else (laws_FnLongestCounted.j0 k t241 t242 t243 t250 t254 (t255 != t243))) else (laws_FnLongestCounted.j0 k t241 t242 t243 t250 t254 true))) else (laws_FnLongestCounted.j0 k t241 t242 t243 t250 t254 true))) = some r := by rw [if_pos rfl] at H; exact H
          clear H
          have H := H1
          clear H1
          by_cases c21 : (t251 != t253) = true
          · rw [if_pos c21] at H
            have c21b0 : (t251 != t253) = true := c21
            (try (have c21b1 : decide (t251 = t253) = false := by simpa using c21))
            (try (have c21b2 : (t251 == t253) = false := by simpa using c21))
            (try (have c21b3 : ¬ (t251 = t253) := by simpa using c21))
            clear c21
            have H' := Aside0.mk H
            clear H
            obtain ⟨Ao22, co22, eo22⟩ := Kd.R_slice HO245.out
            subst eo22
            obtain ⟨Ao23, co23, eo23⟩ := Kd.R_slice HO249.out
            subst eo23
            go_wp2_with (first | (go_at_call 36; (with_reducible refine (laws_nSame.calls k _ _ t242 _ _ t246 true _ ?side1 ?side2 ?side3 ?side4 A19.out).mono ?_); (case side1 => repeat (first | exact (Kd.R_reads' HO245.out).2.2 | (with_reducible refine Kd.C_alloc ?_ _) | (with_reducible refine Kd.C_drewN ?_ _) | (with_reducible refine Kd.C_drew ?_))); (case side2 => exact (Kd.R_reads' HO245.out).2.1); (case side3 => repeat (first | exact (Kd.R_reads' HO249.out).2.2 | (with_reducible refine Kd.C_alloc ?_ _) | (with_reducible refine Kd.C_drewN ?_ _) | (with_reducible refine Kd.C_drew ?_))); (case side4 => exact (Kd.R_reads' HO249.out).2.1); rintro e w' ⟨rfl, ⟨nd, rfl⟩⟩))
            go_meet
            case rel => exact ⟨_, (true), (by first | rfl | (simp; done) | (simp [*]; done)), H', ⟨by first | omega | exact Nat.le_refl _⟩, ⟨by (with_reducible repeat (first | apply Kd.R_alloc | apply Kd.R_drewN | apply Kd.R_drew)); exact Kd.R_mono HO245.out (fun _ hk => trivial)⟩, ⟨by repeat (first | (with_reducible first | exact HB.out | apply below_alloc | apply pw_below_drewN | apply below_drew1) | exact HB.out)⟩⟩
          · rw [if_neg c21] at H
            have c21b0 : (t251 != t253) = false := by simpa using c21
            (try (have c21b1 : decide (t251 = t253) = true := by simpa using c21))
            (try (have c21b2 : (t251 == t253) = true := by simpa using c21))
            clear c21
            by_cases c24 : t250 = t252
            · rw [if_pos c24] at H
              have c24b0 : (t250 == t252) = true := beq_iff_eq.mpr c24
              have c24b1 : (t250 != t252) = false := bne_eq_false_iff_eq.mpr c24
              clear c24
              by_cases c25 : (t255 != t257) = true
              · rw [if_pos c25] at H
                have c25b0 : (t255 != t257) = true := c25
                (try (have c25b1 : decide (t255 = t257) = false := by simpa using c25))
                (try (have c25b2 : (t255 == t257) = false := by simpa using c25))
                (try (have c25b3 : ¬ (t255 = t257) := by simpa using c25))
                clear c25
                have H' := Aside0.mk H
                clear H
                obtain ⟨Ao26, co26, eo26⟩ := Kd.R_slice HO245.out
                subst eo26
                obtain ⟨Ao27, co27, eo27⟩ := Kd.R_slice HO249.out
                subst eo27
                go_wp2_with (first | (go_at_call 36; (with_reducible refine (laws_nSame.calls k _ _ t242 _ _ t246 true _ ?side1 ?side2 ?side3 ?side4 A19.out).mono ?_); (case side1 => repeat (first | exact (Kd.R_reads' HO245.out).2.2 | (with_reducible refine Kd.C_alloc ?_ _) | (with_reducible refine Kd.C_drewN ?_ _) | (with_reducible refine Kd.C_drew ?_))); (case side2 => exact (Kd.R_reads' HO245.out).2.1); (case side3 => repeat (first | exact (Kd.R_reads' HO249.out).2.2 | (with_reducible refine Kd.C_alloc ?_ _) | (with_reducible refine Kd.C_drewN ?_ _) | (with_reducible refine Kd.C_drew ?_))); (case side4 => exact (Kd.R_reads' HO249.out).2.1); rintro e w' ⟨rfl, ⟨nd, rfl⟩⟩))
                go_meet
                case rel => exact ⟨_, (true), (by first | rfl | (simp; done) | (simp [*]; done)), H', ⟨by first | omega | exact Nat.le_refl _⟩, ⟨by (with_reducible repeat (first | apply Kd.R_alloc | apply Kd.R_drewN | apply Kd.R_drew)); exact Kd.R_mono HO245.out (fun _ hk => trivial)⟩, ⟨by repeat (first | (with_reducible first | exact HB.out | apply below_alloc | apply pw_below_drewN | apply below_drew1) | exact HB.out)⟩⟩
              · rw [if_neg c25] at H
                have c25b0 : (t255 != t257) = false := by simpa using c25
                (try (have c25b1 : decide (t255 = t257) = true := by simpa using c25))
                (try (have c25b2 : (t255 == t257) = true := by simpa using c25))
                clear c25
                by_cases c28 : t254 = t256
                · rw [if_pos c28] at H
                  have c28b0 : (t254 == t256) = true := beq_iff_eq.mpr c28
                  have c28b1 : (t254 != t256) = false := bne_eq_false_iff_eq.mpr c28
                  clear c28
                  by_cases c29 : (t251 != t243) = true
                  · rw [if_pos c29] at H
                    have c29b0 : (t251 != t243) = true := c29
                    (try (have c29b1 : decide (t251 = t243) = false := by simpa using c29))
                    (try (have c29b2 : (t251 == t243) = false := by simpa using c29))
                    (try (have c29b3 : ¬ (t251 = t243) := by simpa using c29))
                    clear c29
                    have H' := Aside0.mk H
                    clear H
                    obtain ⟨Ao30, co30, eo30⟩ := Kd.R_slice HO245.out
                    subst eo30
                    obtain ⟨Ao31, co31, eo31⟩ := Kd.R_slice HO249.out
                    subst eo31
                    go_wp2_with (first | (go_at_call 36; (with_reducible refine (laws_nSame.calls k _ _ t242 _ _ t246 true _ ?side1 ?side2 ?side3 ?side4 A19.out).mono ?_); (case side1 => repeat (first | exact (Kd.R_reads' HO245.out).2.2 | (with_reducible refine Kd.C_alloc ?_ _) | (with_reducible refine Kd.C_drewN ?_ _) | (with_reducible refine Kd.C_drew ?_))); (case side2 => exact (Kd.R_reads' HO245.out).2.1); (case side3 => repeat (first | exact (Kd.R_reads' HO249.out).2.2 | (with_reducible refine Kd.C_alloc ?_ _) | (with_reducible refine Kd.C_drewN ?_ _) | (with_reducible refine Kd.C_drew ?_))); (case side4 => exact (Kd.R_reads' HO249.out).2.1); rintro e w' ⟨rfl, ⟨nd, rfl⟩⟩))
                    go_meet
                    case rel => exact ⟨_, (true), (by first | rfl | (simp; done) | (simp [*]; done)), H', ⟨by first | omega | exact Nat.le_refl _⟩, ⟨by (with_reducible repeat (first | apply Kd.R_alloc | apply Kd.R_drewN | apply Kd.R_drew)); exact Kd.R_mono HO245.out (fun _ hk => trivial)⟩, ⟨by repeat (first | (with_reducible first | exact HB.out | apply below_alloc | apply pw_below_drewN | apply below_drew1) | exact HB.out)⟩⟩
                  · rw [if_neg c29] at H
                    have c29b0 : (t251 != t243) = false := by simpa using c29
                    (try (have c29b1 : decide (t251 = t243) = true := by simpa using c29))
                    (try (have c29b2 : (t251 == t243) = true := by simpa using c29))
                    clear c29
                    have H' := Aside0.mk H
                    clear H
                    obtain ⟨Ao32, co32, eo32⟩ := Kd.R_slice HO245.out
                    subst eo32
                    obtain ⟨Ao33, co33, eo33⟩ := Kd.R_slice HO249.out
                    subst eo33
                    go_wp2_with (first | (go_at_call 36; (with_reducible refine (laws_nSame.calls k _ _ t242 _ _ t246 true _ ?side1 ?side2 ?side3 ?side4 A19.out).mono ?_); (case side1 => repeat (first | exact (Kd.R_reads' HO245.out).2.2 | (with_reducible refine Kd.C_alloc ?_ _) | (with_reducible refine Kd.C_drewN ?_ _) | (with_reducible refine Kd.C_drew ?_))); (case side2 => exact (Kd.R_reads' HO245.out).2.1); (case side3 => repeat (first | exact (Kd.R_reads' HO249.out).2.2 | (with_reducible refine Kd.C_alloc ?_ _) | (with_reducible refine Kd.C_drewN ?_ _) | (with_reducible refine Kd.C_drew ?_))); (case side4 => exact (Kd.R_reads' HO249.out).2.1); rintro e w' ⟨rfl, ⟨nd, rfl⟩⟩))
                    go_meet
                    case rel => exact ⟨_, ((t255 != t243)), (by first | rfl | (simp; done) | (simp [*]; done)), H', ⟨by first | omega | exact Nat.le_refl _⟩, ⟨by (with_reducible repeat (first | apply Kd.R_alloc | apply Kd.R_drewN | apply Kd.R_drew)); exact Kd.R_mono HO245.out (fun _ hk => trivial)⟩, ⟨by repeat (first | (with_reducible first | exact HB.out | apply below_alloc | apply pw_below_drewN | apply below_drew1) | exact HB.out)⟩⟩
                · rw [if_neg c28] at H
                  have c28b0 : (t254 == t256) = false := beq_eq_false_iff_ne.mpr c28
                  have c28b1 : (t254 != t256) = true := bne_iff_ne.mpr c28
                  have H' := Aside0.mk H
                  clear H
                  obtain ⟨Ao34, co34, eo34⟩ := Kd.R_slice HO245.out
                  subst eo34
                  obtain ⟨Ao35, co35, eo35⟩ := Kd.R_slice HO249.out
                  subst eo35
                  go_wp2_with (first | (go_at_call 36; (with_reducible refine (laws_nSame.calls k _ _ t242 _ _ t246 true _ ?side1 ?side2 ?side3 ?side4 A19.out).mono ?_); (case side1 => repeat (first | exact (Kd.R_reads' HO245.out).2.2 | (with_reducible refine Kd.C_alloc ?_ _) | (with_reducible refine Kd.C_drewN ?_ _) | (with_reducible refine Kd.C_drew ?_))); (case side2 => exact (Kd.R_reads' HO245.out).2.1); (case side3 => repeat (first | exact (Kd.R_reads' HO249.out).2.2 | (with_reducible refine Kd.C_alloc ?_ _) | (with_reducible refine Kd.C_drewN ?_ _) | (with_reducible refine Kd.C_drew ?_))); (case side4 => exact (Kd.R_reads' HO249.out).2.1); rintro e w' ⟨rfl, ⟨nd, rfl⟩⟩))
                  go_meet
                  case rel => exact ⟨_, (true), (by first | rfl | (simp; done) | (simp [*]; done)), H', ⟨by first | omega | exact Nat.le_refl _⟩, ⟨by (with_reducible repeat (first | apply Kd.R_alloc | apply Kd.R_drewN | apply Kd.R_drew)); exact Kd.R_mono HO245.out (fun _ hk => trivial)⟩, ⟨by repeat (first | (with_reducible first | exact HB.out | apply below_alloc | apply pw_below_drewN | apply below_drew1) | exact HB.out)⟩⟩
            · rw [if_neg c24] at H
              have c24b0 : (t250 == t252) = false := beq_eq_false_iff_ne.mpr c24
              have c24b1 : (t250 != t252) = true := bne_iff_ne.mpr c24
              have H' := Aside0.mk H
              clear H
              obtain ⟨Ao36, co36, eo36⟩ := Kd.R_slice HO245.out
              subst eo36
              obtain ⟨Ao37, co37, eo37⟩ := Kd.R_slice HO249.out
              subst eo37
              go_wp2_with (first | (go_at_call 36; (with_reducible refine (laws_nSame.calls k _ _ t242 _ _ t246 true _ ?side1 ?side2 ?side3 ?side4 A19.out).mono ?_); (case side1 => repeat (first | exact (Kd.R_reads' HO245.out).2.2 | (with_reducible refine Kd.C_alloc ?_ _) | (with_reducible refine Kd.C_drewN ?_ _) | (with_reducible refine Kd.C_drew ?_))); (case side2 => exact (Kd.R_reads' HO245.out).2.1); (case side3 => repeat (first | exact (Kd.R_reads' HO249.out).2.2 | (with_reducible refine Kd.C_alloc ?_ _) | (with_reducible refine Kd.C_drewN ?_ _) | (with_reducible refine Kd.C_drew ?_))); (case side4 => exact (Kd.R_reads' HO249.out).2.1); rintro e w' ⟨rfl, ⟨nd, rfl⟩⟩))
              go_meet
              case rel => exact ⟨_, (true), (by first | rfl | (simp; done) | (simp [*]; done)), H', ⟨by first | omega | exact Nat.le_refl _⟩, ⟨by (with_reducible repeat (first | apply Kd.R_alloc | apply Kd.R_drewN | apply Kd.R_drew)); exact Kd.R_mono HO245.out (fun _ hk => trivial)⟩, ⟨by repeat (first | (with_reducible first | exact HB.out | apply below_alloc | apply pw_below_drewN | apply below_drew1) | exact HB.out)⟩⟩
        · replace c20 := Bool.eq_false_iff.mpr c20
          subst c20
          have H1 : (laws_FnLongestCounted.j0 k t241 t242 t243 t250 t254 true) = some r := by rw [if_neg (show ¬ (false = true) by decide)] at H; exact H
          clear H
          have H := H1
          clear H1
          have H' := Aside0.mk H
          clear H
          obtain ⟨Ao38, co38, eo38⟩ := Kd.R_slice HO245.out
          subst eo38
          obtain ⟨Ao39, co39, eo39⟩ := Kd.R_slice HO249.out
          subst eo39
          go_wp2_with (first | (go_at_call 36; (with_reducible refine (laws_nSame.calls k _ _ t242 _ _ t246 false _ ?side1 ?side2 ?side3 ?side4 A19.out).mono ?_); (case side1 => repeat (first | exact (Kd.R_reads' HO245.out).2.2 | (with_reducible refine Kd.C_alloc ?_ _) | (with_reducible refine Kd.C_drewN ?_ _) | (with_reducible refine Kd.C_drew ?_))); (case side2 => exact (Kd.R_reads' HO245.out).2.1); (case side3 => repeat (first | exact (Kd.R_reads' HO249.out).2.2 | (with_reducible refine Kd.C_alloc ?_ _) | (with_reducible refine Kd.C_drewN ?_ _) | (with_reducible refine Kd.C_drew ?_))); (case side4 => exact (Kd.R_reads' HO249.out).2.1); rintro e w' ⟨rfl, ⟨nd, rfl⟩⟩))
          go_meet
          case rel => exact ⟨_, (true), (by first | rfl | (simp; done) | (simp [*]; done)), H', ⟨by first | omega | exact Nat.le_refl _⟩, ⟨by (with_reducible repeat (first | apply Kd.R_alloc | apply Kd.R_drewN | apply Kd.R_drew)); exact Kd.R_mono HO245.out (fun _ hk => trivial)⟩, ⟨by repeat (first | (with_reducible first | exact HB.out | apply below_alloc | apply pw_below_drewN | apply below_drew1) | exact HB.out)⟩⟩
    case rest =>
      clear HC12
      try clear c1
      try clear c2
      try clear p2
      try clear c3
      try clear c4
      try clear c8
      try clear c10
      try clear c11
      try clear c12
      try clear c13
      try clear c18
      try clear c18b0
      try clear c18b1
      try clear c18b2
      try clear c20
      try clear c21
      try clear c21b0
      try clear c21b1
      try clear c21b2
      try clear c24
      try clear c24b0
      try clear c24b1
      try clear c25
      try clear c25b0
      try clear c25b1
      try clear c25b2
      try clear c28
      try clear c28b0
      try clear c28b1
      try clear c29
      try clear c29b0
      try clear c29b1
      try clear c29b2
      try clear c32
      try clear c33
      try clear c34
      try clear c35
      obtain ⟨kq, x95_11, rfl, HA, HJ11, HO_6, HB⟩ := hcut
      cases kq with
      | zero => exact absurd HA.out (by simp [laws_FnLongestCounted.j0])
      | succ kj11 =>
        have H := HA.out
        clear HA
        simp only [laws_FnLongestCounted.j0] at H
        by_cases c40 : x95_11 = true
        · subst c40
          have H1 : (some false) = some r := by rw [if_pos rfl] at H; exact H
          clear H
          have H := H1
          clear H1
          obtain rfl := Option.some.inj H
          go_wp2
          go_ret
          exact ⟨by first | rfl | (simp [errW_none, errW_some] <;> rfl) | (simp [*, errW_none, errW_some] <;> rfl), by repeat (first | (with_reducible first | exact HB.out | apply below_alloc | apply pw_below_drewN | apply below_drew1) | exact HB.out)⟩
        · replace c40 := Bool.eq_false_iff.mpr c40
          subst c40
          have H1 : (if t243 = true then (laws_FnLongestCounted.l0 kj11 t241 t242 t250 t254 ([] : List Int) (wrap64 (t241 - 1))) else (some true)) = some r := by rw [if_neg (show ¬ (false = true) by decide)] at H; exact H
          clear H
          have H := H1
          clear H1
          by_cases c41 : t243 = true
          · subst c41
            have H1 : (laws_FnLongestCounted.l0 kj11 t241 t242 t250 t254 ([] : List Int) (wrap64 (t241 - 1))) = some r := by rw [if_pos rfl] at H; exact H
            clear H
            have H := H1
            clear H1
            have H' := Aside0.mk H
            clear H
            go_wp2
            go_loopg [18, 19] kj11 (fun kq v18 v19 w' => ∃ (x18_2 : List Int) (x19_2 : Int), v19 = .int .i64 x19_2 ∧ Aside0 (laws_FnLongestCounted.l0 kq t241 t242 t250 t254 x18_2 x19_2 = some r) ∧ Aside0 (kq ≤ kj11) ∧ Aside0 (Kd.R (Kd.int .i64) 3 w' w.heap.size (fun k_ => some k_ ≠ (v18 : Value).ownBlock) v244 t242) ∧ Aside0 (Kd.R (Kd.int .i64) 3 w' w.heap.size (fun k_ => some k_ ≠ (v244 : Value).ownBlock) v18 x18_2) ∧ Aside0 (Below w.heap.size w w'))
            case atStart => exact ⟨(([] : List Int)), (wrap64 (t241 - 1)), (by first | rfl | (simp; done) | (simp [*]; done)), H', ⟨Nat.le_refl _⟩, ⟨by (with_reducible repeat (first | apply Kd.R_alloc | apply Kd.R_drewN | apply Kd.R_drew)); exact Kd.R_mono HO_6.out (fun _ hk => (by simp [Value.ownBlock]))⟩, ⟨by first | exact Kd.R_nil _ _ _ _ _ | exact Kd.N_nil _ _ _ _ _ | exact Kd.V_nil _ _ _ _ _ | exact Kd.Q_nil _ _ _ _ _ | exact Kd.S_nil _ _ _ _ _⟩, ⟨by repeat (first | (with_reducible first | exact HB.out | apply below_alloc | apply pw_below_drewN | apply below_drew1) | exact HB.out)⟩⟩
            case round =>
              clear H'
              try clear c1
              try clear c2
              try clear p2
              try clear c3
              try clear c4
              try clear p6
              try clear c8
              try clear c10
              try clear c11
              try clear c12
              try clear c13
              try clear c18
              try clear c18b0
              try clear c18b1
              try clear c18b2
              try clear c20
              try clear c21
              try clear c21b0
              try clear c21b1
              try clear c21b2
              try clear c24
              try clear c24b0
              try clear c24b1
              try clear c25
              try clear c25b0
              try clear c25b1
              try clear c25b2
              try clear c28
              try clear c28b0
              try clear c28b1
              try clear c29
              try clear c29b0
              try clear c29b1
              try clear c29b2
              try clear c32
              try clear c33
              try clear c34
              try clear c35
              try clear c40
              try clear c41
              try clear p2
              obtain ⟨x18_2, x19_2, rfl, HA, HK2, HO_6, HO_18, HB⟩ := hrel
              cases gk with
              | zero => exact absurd HA.out (by simp [laws_FnLongestCounted.l0])
              | succ k2 =>
                have H := HA.out
                clear HA
                simp only [laws_FnLongestCounted.l0] at H
                by_cases c42 : x19_2 ≥ 0
                · rw [if_pos c42] at H
                  have c42b0 : decide (0 ≤ x19_2) = true := decide_eq_true c42
                  clear c42
                  by_cases c43 : x18_2.length < 17592186044416
                  · rw [if_pos c43] at H
                    have LMc43 := Aside0.mk c43
                    clear c43
                    obtain ⟨y259, hy259⟩ : ∃ y_ : List Int, y_ = (x18_2 ++ [x19_2]) := ⟨_, rfl⟩
                    replace H : (laws_FnLongestCounted.l0 k2 t241 t242 t250 t254 y259 (wrap64 (x19_2 - 1))) = some r := by first | (rw [hy259]; with_reducible exact H) | (have H2_ := (Option.bind_some _ _).symm.trans H; rw [hy259]; with_reducible exact H2_) | (have H2_ := (Option.bind_some _ _).symm.trans H; with_reducible exact H2_) | with_reducible exact H | (rw [hy259]; exact H) | exact H
                    have Ny259 := Aside0.mk hy259
                    clear hy259
                    have H' := Aside0.mk H
                    clear H
                    go_wp2_with (first | ((with_reducible refine gate_builtin (b := .append) (xs := #[.tmp 103, .tmp 105]) rfl ?_); (try (refine gate_guard (by rfl) ?_; dsimp only)); at_builtin; refine Kd.R_append (Kd.int .i64) (w0 := w) w.heap.size rfl (.tmp 103) (.tmp 105) 25 3 (.int .i64 0) 8 rfl Try.underlying25 info3 rfl (by decide) (by omega) u18 x18_2 x19_2 [.int .i64 x19_2] (fun k_ => some k_ ≠ (v244 : Value).ownBlock) (fun _ => False) rfl rfl ?aP (fun _ hk => hk.elim) ?aF ?aO ?aB ?aS ?aL ?_; (case aP => exact rfl); (case aB => exact (by repeat (first | (with_reducible first | exact HB.out | apply below_alloc | apply pw_below_drewN | apply below_drew1) | exact HB.out))); (case aF => exact (fun k_ hk => Kd.fresh' (Kd.R_lt (by (with_reducible repeat (first | apply Kd.R_alloc | apply Kd.R_drewN | apply Kd.R_drew)); exact HO_6.out)) k_ hk)); (case aO => exact (by (with_reducible repeat (first | apply Kd.R_alloc | apply Kd.R_drewN | apply Kd.R_drew)); exact HO_18.out)); (case aS => exact (below_size (by repeat (first | (with_reducible first | exact HB.out | apply below_alloc | apply pw_below_drewN | apply below_drew1) | exact HB.out)))); (case aL => have := LMc43.out; omega); intro v260 w44 ho hb hg hat; rw [← Ny259.out] at ho; have n0_ := Aside0.mk (Kd.R_after (ok := (fun _ => True)) (by (with_reducible repeat (first | apply Kd.R_alloc | apply Kd.R_drewN | apply Kd.R_drew)); exact Kd.R_mono HO_6.out (fun _ hk => ⟨trivial, hk⟩)) hg hat); have n1_ := Aside0.mk (hb); have n2_ := Aside0.mk (ho); clear HO_6; clear HB; clear HO_18; have HO_6 := n0_; have HB := n1_; have HO261 := n2_; clear n0_ n1_ n2_; clear ho hb hg hat))
                    go_roundg k2
                    case measure => have := HJ11.out; have := HK2.out; omega
                    case rel => exact ⟨(y259), (wrap64 (x19_2 - 1)), (by first | rfl | (simp; done) | (simp [*]; done)), H', ⟨by have := HJ11.out; have := HK2.out; omega⟩, ⟨by (with_reducible repeat (first | apply Kd.R_alloc | apply Kd.R_drewN | apply Kd.R_drew)); exact Kd.R_mono HO_6.out (fun _ hk => hk.2)⟩, ⟨by (with_reducible repeat (first | apply Kd.R_alloc | apply Kd.R_drewN | apply Kd.R_drew)); exact HO261.out⟩, ⟨by repeat (first | (with_reducible first | exact HB.out | apply below_alloc | apply pw_below_drewN | apply below_drew1) | exact HB.out)⟩⟩
                  · rw [if_neg c43] at H
                    exact absurd H (by simp)
                · rw [if_neg c42] at H
                  have c42b0 : decide (0 ≤ x19_2) = false := decide_eq_false c42
                  clear c42
                  replace H := Option.bind_eq_some_iff.mp H
                  obtain ⟨⟨t262, t263⟩, A450, H⟩ := H
                  replace H : (if (t242.length : Int) = (wrap64 ((wrap64 (Int.tdiv (wrap64 (t241 * (wrap64 (t241 - 1)))) 2)) + 1)) then ((laws_nSum.f k2 t242).bind fun t264 => (if t264 = t250 then (if 0 < (t242.length : Int) then (if (rd t242 0) = 1 then (if 1 < (t242.length : Int) then (if (rd t242 1) = (wrap64 (t241 - 1)) then (if 0 ≤ (wrap64 ((t242.length : Int) - 1)) then (if (wrap64 ((t242.length : Int) - 1)) < (t242.length : Int) then (if (rd t242 (wrap64 ((t242.length : Int) - 1))) = t254 then (if t263 = true then (if t262 = t254 then (some true) else (some false)) else (some false)) else (some false)) else (none)) else (none)) else (some false)) else (none)) else (some false)) else (none)) else (some false))) else (some false)) = some r := H
                  have A45 := Aside0.mk A450
                  clear A450
                  by_cases c46 : (t242.length : Int) = (wrap64 ((wrap64 (Int.tdiv (wrap64 (t241 * (wrap64 (t241 - 1)))) 2)) + 1))
                  · rw [if_pos c46] at H
                    have c46b0 : ((t242.length : Int) == (wrap64 ((wrap64 (Int.tdiv (wrap64 (t241 * (wrap64 (t241 - 1)))) 2)) + 1))) = true := beq_iff_eq.mpr c46
                    have c46b1 : ((t242.length : Int) != (wrap64 ((wrap64 (Int.tdiv (wrap64 (t241 * (wrap64 (t241 - 1)))) 2)) + 1))) = false := bne_eq_false_iff_eq.mpr c46
                    clear c46
                    replace H := Option.bind_eq_some_iff.mp H
                    obtain ⟨t264, A470, H⟩ := H
                    replace H : (if t264 = t250 then (if 0 < (t242.length : Int) then (if (rd t242 0) = 1 then (if 1 < (t242.length : Int) then (if (rd t242 1) = (wrap64 (t241 - 1)) then (if 0 ≤ (wrap64 ((t242.length : Int) - 1)) then (if (wrap64 ((t242.length : Int) - 1)) < (t242.length : Int) then (if (rd t242 (wrap64 ((t242.length : Int) - 1))) = t254 then (if t263 = true then (if t262 = t254 then (some true) else (some false)) else (some false)) else (some false)) else (none)) else (none)) else (some false)) else (none)) else (some false)) else (none)) else (some false)) = some r := H
                    have A47 := Aside0.mk A470
                    clear A470
                    by_cases c48 : t264 = t250
                    · rw [if_pos c48] at H
                      have c48b0 : (t264 == t250) = true := beq_iff_eq.mpr c48
                      have c48b1 : (t264 != t250) = false := bne_eq_false_iff_eq.mpr c48
                      clear c48
                      by_cases c49 : 0 < (t242.length : Int)
                      · rw [if_pos c49] at H
                        have c49b0 : decide (0 < (t242.length : Int)) = true := decide_eq_true c49
                        have c49b1 : decide (0 < t242.length) = true := decide_eq_true (by omega)
                        clear c49
                        by_cases c50 : (rd t242 0) = 1
                        · rw [if_pos c50] at H
                          have c50b0 : ((rd t242 0) == 1) = true := beq_iff_eq.mpr c50
                          have c50b1 : ((rd t242 0) != 1) = false := bne_eq_false_iff_eq.mpr c50
                          clear c50
                          by_cases c51 : 1 < (t242.length : Int)
                          · rw [if_pos c51] at H
                            have c51b0 : decide (1 < (t242.length : Int)) = true := decide_eq_true c51
                            have c51b1 : decide (1 < t242.length) = true := decide_eq_true (by omega)
                            clear c51
                            by_cases c52 : (rd t242 1) = (wrap64 (t241 - 1))
                            · rw [if_pos c52] at H
                              have c52b0 : ((rd t242 1) == (wrap64 (t241 - 1))) = true := beq_iff_eq.mpr c52
                              have c52b1 : ((rd t242 1) != (wrap64 (t241 - 1))) = false := bne_eq_false_iff_eq.mpr c52
                              clear c52
                              obtain ⟨ji53, hji53⟩ : ∃ j_ : Int, (wrap64 ((t242.length : Int) - 1)) = j_ := ⟨_, rfl⟩
                              replace H : (if 0 ≤ (ji53) then (if (ji53) < (t242.length : Int) then (if (rd t242 (ji53)) = t254 then (if t263 = true then (if t262 = t254 then (some true) else (some false)) else (some false)) else (some false)) else (none)) else (none)) = some r := by first | (rw [hji53] at H; exact H) | (simp only [hji53] at H ⊢; exact H)
                              (try rw [hji53] at A45)
                              (try rw [hji53] at A47)
                              have hji53w : (IntKind.i64.wrap ((t242.length : Int) - 1)) = ji53 := (i64_w _).trans hji53
                              by_cases c54 : 0 ≤ (ji53)
                              · rw [if_pos c54] at H
                                have c54b0 : decide (0 ≤ (ji53)) = true := decide_eq_true c54
                                clear c54
                                by_cases c55 : (ji53) < (t242.length : Int)
                                · rw [if_pos c55] at H
                                  have c55b0 : decide ((ji53) < (t242.length : Int)) = true := decide_eq_true c55
                                  clear c55
                                  by_cases c56 : (rd t242 (ji53)) = t254
                                  · rw [if_pos c56] at H
                                    have c56b0 : ((rd t242 (ji53)) == t254) = true := beq_iff_eq.mpr c56
                                    have c56b1 : ((rd t242 (ji53)) != t254) = false := bne_eq_false_iff_eq.mpr c56
                                    clear c56
                                    by_cases c57 : t263 = true
                                    · subst c57
                                      have H1 : (if t262 = t254 then (some true) else (some false)) = some r := by rw [if_pos rfl] at H; exact H
                                      clear H
                                      have H := H1
                                      clear H1
                                      by_cases c58 : t262 = t254
                                      · rw [if_pos c58] at H
                                        have c58b0 : (t262 == t254) = true := beq_iff_eq.mpr c58
                                        have c58b1 : (t262 != t254) = false := bne_eq_false_iff_eq.mpr c58
                                        clear c58
                                        obtain rfl := Option.some.inj H
                                        obtain ⟨Ao59, co59, eo59⟩ := Kd.R_slice HO_18.out
                                        subst eo59
                                        go_wp2_with (first | ((with_reducible refine gate_callee (f := 37) rfl ?_); refine goesL_ (some 109) rfl rfl Try.func37 (by kernel_rfl) rfl #[.slice Ao59 x18_2.length co59] rfl (by (try simp only [List.map_toArray, List.map_cons, List.map_nil]); first | done | rfl | (simp only [List.length_drop, List.length_take]; rfl)) ?_; (with_reducible refine (impl_CountLeast.calls _ _ x18_2 t262 true _ ?side1 ?side2 A45.out).mono ?_); (case side1 => repeat (first | exact (Kd.R_reads' HO_18.out).2.2 | (with_reducible refine Kd.C_alloc ?_ _) | (with_reducible refine Kd.C_drewN ?_ _) | (with_reducible refine Kd.C_drew ?_))); (case side2 => exact (Kd.R_reads' HO_18.out).2.1); rintro e w60 ⟨rfl, hb⟩; refine ⟨_, rfl, ?_⟩; have n0_ := Aside0.mk (Kd.R_below (by (with_reducible repeat (first | apply Kd.R_alloc | apply Kd.R_drewN | apply Kd.R_drew)); exact HO_6.out) hb); have n1_ := Aside0.mk (Kd.R_below (by (with_reducible repeat (first | apply Kd.R_alloc | apply Kd.R_drewN | apply Kd.R_drew)); exact HO_18.out) hb); have n2_ := Aside0.mk (below_step (by repeat (first | (with_reducible first | exact HB.out | apply below_alloc | apply pw_below_drewN | apply below_drew1) | exact HB.out)) hb); clear HO_6; clear HO_18; clear HB; have HO_6 := n0_; have HO_18 := n1_; have HB := n2_; clear n0_ n1_ n2_; (try clear hb); (try clear hb2); (try clear hk); (try clear hi); obtain ⟨Ao61, co61, eo61⟩ := Kd.R_slice HO_6.out; subst eo61) | (go_at_call 38; (with_reducible refine (laws_nSum.calls k2 _ _ t242 t264 _ ?side1 ?side2 A47.out).mono ?_); (case side1 => repeat (first | exact (Kd.R_reads' HO_6.out).2.2 | (with_reducible refine Kd.C_alloc ?_ _) | (with_reducible refine Kd.C_drewN ?_ _) | (with_reducible refine Kd.C_drew ?_))); (case side2 => exact (Kd.R_reads' HO_6.out).2.1); rintro e w' ⟨rfl, ⟨nd, rfl⟩⟩; have p265 : 0 ≤ (0 : Int) := (by omega); have q265 : 0 < (t242.length : Int) := of_decide_eq_true (by first | (with_reducible assumption) | assumption); obtain ⟨ad265, e265, hx265_0⟩ := Kd.at_int (Kd.R_reads' HO_6.out).2.2 0 p265 q265; cases e265; have qi265 : (0 < t242.length) = True := eq_true (by omega); (try rw [show ((0 : Int)).toNat = 0 from rfl] at hx265_0); (try rw [Addr.add_zero'] at hx265_0); replace p265 := eq_true p265; replace q265 := eq_true q265; have p266 : 0 ≤ (1 : Int) := (by omega); have q266 : 1 < (t242.length : Int) := of_decide_eq_true (by first | (with_reducible assumption) | assumption); obtain ⟨ad266, e266, hx266_0⟩ := Kd.at_int (Kd.R_reads' HO_6.out).2.2 1 p266 q266; obtain rfl : ad265 = ad266 := (by injection e266); (try simp only [show (1 : Int).toNat = 1 from rfl, Nat.reduceMul, Nat.reduceEqDiff, Go.Addr.add, ↓reduceIte] at hx266_0); have qi266 : (1 < t242.length) = True := eq_true (by omega); (try rw [show ((1 : Int)).toNat = 1 from rfl] at hx266_0); replace p266 := eq_true p266; replace q266 := eq_true q266; have p267 : 0 ≤ ((ji53) : Int) := of_decide_eq_true (by first | (with_reducible assumption) | assumption); have q267 : (ji53) < (t242.length : Int) := of_decide_eq_true (by first | (with_reducible assumption) | assumption); obtain ⟨ad267, e267, hx267_0⟩ := Kd.at_int (Kd.R_reads' HO_6.out).2.2 (ji53) p267 q267; obtain rfl : ad265 = ad267 := (by injection e267); replace p267 := eq_true p267; replace q267 := eq_true q267))
                                        go_ret
                                        exact ⟨by first | rfl | (simp [errW_none, errW_some] <;> rfl) | (simp only [← hji53]; first | rfl | (simp [errW_none, errW_some] <;> rfl)) | (simp [*, errW_none, errW_some] <;> rfl), by repeat (first | (with_reducible first | exact HB.out | apply below_alloc | apply pw_below_drewN | apply below_drew1) | exact HB.out)⟩
                                      · rw [if_neg c58] at H
                                        have c58b0 : (t262 == t254) = false := beq_eq_false_iff_ne.mpr c58
                                        have c58b1 : (t262 != t254) = true := bne_iff_ne.mpr c58
                                        obtain rfl := Option.some.inj H
                                        obtain ⟨Ao62, co62, eo62⟩ := Kd.R_slice HO_18.out
                                        subst eo62
                                        go_wp2_with (first | ((with_reducible refine gate_callee (f := 37) rfl ?_); refine goesL_ (some 109) rfl rfl Try.func37 (by kernel_rfl) rfl #[.slice Ao62 x18_2.length co62] rfl (by (try simp only [List.map_toArray, List.map_cons, List.map_nil]); first | done | rfl | (simp only [List.length_drop, List.length_take]; rfl)) ?_; (with_reducible refine (impl_CountLeast.calls _ _ x18_2 t262 true _ ?side1 ?side2 A45.out).mono ?_); (case side1 => repeat (first | exact (Kd.R_reads' HO_18.out).2.2 | (with_reducible refine Kd.C_alloc ?_ _) | (with_reducible refine Kd.C_drewN ?_ _) | (with_reducible refine Kd.C_drew ?_))); (case side2 => exact (Kd.R_reads' HO_18.out).2.1); rintro e w63 ⟨rfl, hb⟩; refine ⟨_, rfl, ?_⟩; have n0_ := Aside0.mk (Kd.R_below (by (with_reducible repeat (first | apply Kd.R_alloc | apply Kd.R_drewN | apply Kd.R_drew)); exact HO_6.out) hb); have n1_ := Aside0.mk (Kd.R_below (by (with_reducible repeat (first | apply Kd.R_alloc | apply Kd.R_drewN | apply Kd.R_drew)); exact HO_18.out) hb); have n2_ := Aside0.mk (below_step (by repeat (first | (with_reducible first | exact HB.out | apply below_alloc | apply pw_below_drewN | apply below_drew1) | exact HB.out)) hb); clear HO_6; clear HO_18; clear HB; have HO_6 := n0_; have HO_18 := n1_; have HB := n2_; clear n0_ n1_ n2_; (try clear hb); (try clear hb2); (try clear hk); (try clear hi); obtain ⟨Ao64, co64, eo64⟩ := Kd.R_slice HO_6.out; subst eo64) | (go_at_call 38; (with_reducible refine (laws_nSum.calls k2 _ _ t242 t264 _ ?side1 ?side2 A47.out).mono ?_); (case side1 => repeat (first | exact (Kd.R_reads' HO_6.out).2.2 | (with_reducible refine Kd.C_alloc ?_ _) | (with_reducible refine Kd.C_drewN ?_ _) | (with_reducible refine Kd.C_drew ?_))); (case side2 => exact (Kd.R_reads' HO_6.out).2.1); rintro e w' ⟨rfl, ⟨nd, rfl⟩⟩; have p265 : 0 ≤ (0 : Int) := (by omega); have q265 : 0 < (t242.length : Int) := of_decide_eq_true (by first | (with_reducible assumption) | assumption); obtain ⟨ad265, e265, hx265_0⟩ := Kd.at_int (Kd.R_reads' HO_6.out).2.2 0 p265 q265; cases e265; have qi265 : (0 < t242.length) = True := eq_true (by omega); (try rw [show ((0 : Int)).toNat = 0 from rfl] at hx265_0); (try rw [Addr.add_zero'] at hx265_0); replace p265 := eq_true p265; replace q265 := eq_true q265; have p266 : 0 ≤ (1 : Int) := (by omega); have q266 : 1 < (t242.length : Int) := of_decide_eq_true (by first | (with_reducible assumption) | assumption); obtain ⟨ad266, e266, hx266_0⟩ := Kd.at_int (Kd.R_reads' HO_6.out).2.2 1 p266 q266; obtain rfl : ad265 = ad266 := (by injection e266); (try simp only [show (1 : Int).toNat = 1 from rfl, Nat.reduceMul, Nat.reduceEqDiff, Go.Addr.add, ↓reduceIte] at hx266_0); have qi266 : (1 < t242.length) = True := eq_true (by omega); (try rw [show ((1 : Int)).toNat = 1 from rfl] at hx266_0); replace p266 := eq_true p266; replace q266 := eq_true q266; have p267 : 0 ≤ ((ji53) : Int) := of_decide_eq_true (by first | (with_reducible assumption) | assumption); have q267 : (ji53) < (t242.length : Int) := of_decide_eq_true (by first | (with_reducible assumption) | assumption); obtain ⟨ad267, e267, hx267_0⟩ := Kd.at_int (Kd.R_reads' HO_6.out).2.2 (ji53) p267 q267; obtain rfl : ad265 = ad267 := (by injection e267); replace p267 := eq_true p267; replace q267 := eq_true q267))
                                        go_ret
                                        exact ⟨by first | rfl | (simp [errW_none, errW_some] <;> rfl) | (simp only [← hji53]; first | rfl | (simp [errW_none, errW_some] <;> rfl)) | (simp [*, errW_none, errW_some] <;> rfl), by repeat (first | (with_reducible first | exact HB.out | apply below_alloc | apply pw_below_drewN | apply below_drew1) | exact HB.out)⟩
                                    · replace c57 := Bool.eq_false_iff.mpr c57
                                      subst c57
                                      have H1 : (some false) = some r := by rw [if_neg (show ¬ (false = true) by decide)] at H; exact H
                                      clear H
                                      have H := H1
                                      clear H1
                                      obtain rfl := Option.some.inj H
                                      obtain ⟨Ao65, co65, eo65⟩ := Kd.R_slice HO_18.out
                                      subst eo65
                                      go_wp2_with (first | ((with_reducible refine gate_callee (f := 37) rfl ?_); refine goesL_ (some 109) rfl rfl Try.func37 (by kernel_rfl) rfl #[.slice Ao65 x18_2.length co65] rfl (by (try simp only [List.map_toArray, List.map_cons, List.map_nil]); first | done | rfl | (simp only [List.length_drop, List.length_take]; rfl)) ?_; (with_reducible refine (impl_CountLeast.calls _ _ x18_2 t262 false _ ?side1 ?side2 A45.out).mono ?_); (case side1 => repeat (first | exact (Kd.R_reads' HO_18.out).2.2 | (with_reducible refine Kd.C_alloc ?_ _) | (with_reducible refine Kd.C_drewN ?_ _) | (with_reducible refine Kd.C_drew ?_))); (case side2 => exact (Kd.R_reads' HO_18.out).2.1); rintro e w66 ⟨rfl, hb⟩; refine ⟨_, rfl, ?_⟩; have n0_ := Aside0.mk (Kd.R_below (by (with_reducible repeat (first | apply Kd.R_alloc | apply Kd.R_drewN | apply Kd.R_drew)); exact HO_6.out) hb); have n1_ := Aside0.mk (Kd.R_below (by (with_reducible repeat (first | apply Kd.R_alloc | apply Kd.R_drewN | apply Kd.R_drew)); exact HO_18.out) hb); have n2_ := Aside0.mk (below_step (by repeat (first | (with_reducible first | exact HB.out | apply below_alloc | apply pw_below_drewN | apply below_drew1) | exact HB.out)) hb); clear HO_6; clear HO_18; clear HB; have HO_6 := n0_; have HO_18 := n1_; have HB := n2_; clear n0_ n1_ n2_; (try clear hb); (try clear hb2); (try clear hk); (try clear hi); obtain ⟨Ao67, co67, eo67⟩ := Kd.R_slice HO_6.out; subst eo67) | (go_at_call 38; (with_reducible refine (laws_nSum.calls k2 _ _ t242 t264 _ ?side1 ?side2 A47.out).mono ?_); (case side1 => repeat (first | exact (Kd.R_reads' HO_6.out).2.2 | (with_reducible refine Kd.C_alloc ?_ _) | (with_reducible refine Kd.C_drewN ?_ _) | (with_reducible refine Kd.C_drew ?_))); (case side2 => exact (Kd.R_reads' HO_6.out).2.1); rintro e w' ⟨rfl, ⟨nd, rfl⟩⟩; have p265 : 0 ≤ (0 : Int) := (by omega); have q265 : 0 < (t242.length : Int) := of_decide_eq_true (by first | (with_reducible assumption) | assumption); obtain ⟨ad265, e265, hx265_0⟩ := Kd.at_int (Kd.R_reads' HO_6.out).2.2 0 p265 q265; cases e265; have qi265 : (0 < t242.length) = True := eq_true (by omega); (try rw [show ((0 : Int)).toNat = 0 from rfl] at hx265_0); (try rw [Addr.add_zero'] at hx265_0); replace p265 := eq_true p265; replace q265 := eq_true q265; have p266 : 0 ≤ (1 : Int) := (by omega); have q266 : 1 < (t242.length : Int) := of_decide_eq_true (by first | (with_reducible assumption) | assumption); obtain ⟨ad266, e266, hx266_0⟩ := Kd.at_int (Kd.R_reads' HO_6.out).2.2 1 p266 q266; obtain rfl : ad265 = ad266 := (by injection e266); (try simp only [show (1 : Int).toNat = 1 from rfl, Nat.reduceMul, Nat.reduceEqDiff, Go.Addr.add, ↓reduceIte] at hx266_0); have qi266 : (1 < t242.length) = True := eq_true (by omega); (try rw [show ((1 : Int)).toNat = 1 from rfl] at hx266_0); replace p266 := eq_true p266; replace q266 := eq_true q266; have p267 : 0 ≤ ((ji53) : Int) := of_decide_eq_true (by first | (with_reducible assumption) | assumption); have q267 : (ji53) < (t242.length : Int) := of_decide_eq_true (by first | (with_reducible assumption) | assumption); obtain ⟨ad267, e267, hx267_0⟩ := Kd.at_int (Kd.R_reads' HO_6.out).2.2 (ji53) p267 q267; obtain rfl : ad265 = ad267 := (by injection e267); replace p267 := eq_true p267; replace q267 := eq_true q267))
                                      go_ret
                                      exact ⟨by first | rfl | (simp [errW_none, errW_some] <;> rfl) | (simp only [← hji53]; first | rfl | (simp [errW_none, errW_some] <;> rfl)) | (simp [*, errW_none, errW_some] <;> rfl), by repeat (first | (with_reducible first | exact HB.out | apply below_alloc | apply pw_below_drewN | apply below_drew1) | exact HB.out)⟩
                                  · rw [if_neg c56] at H
                                    have c56b0 : ((rd t242 (ji53)) == t254) = false := beq_eq_false_iff_ne.mpr c56
                                    have c56b1 : ((rd t242 (ji53)) != t254) = true := bne_iff_ne.mpr c56
                                    obtain rfl := Option.some.inj H
                                    obtain ⟨Ao68, co68, eo68⟩ := Kd.R_slice HO_18.out
                                    subst eo68
                                    go_wp2_with (first | ((with_reducible refine gate_callee (f := 37) rfl ?_); refine goesL_ (some 109) rfl rfl Try.func37 (by kernel_rfl) rfl #[.slice Ao68 x18_2.length co68] rfl (by (try simp only [List.map_toArray, List.map_cons, List.map_nil]); first | done | rfl | (simp only [List.length_drop, List.length_take]; rfl)) ?_; (with_reducible refine (impl_CountLeast.calls _ _ x18_2 t262 t263 _ ?side1 ?side2 A45.out).mono ?_); (case side1 => repeat (first | exact (Kd.R_reads' HO_18.out).2.2 | (with_reducible refine Kd.C_alloc ?_ _) | (with_reducible refine Kd.C_drewN ?_ _) | (with_reducible refine Kd.C_drew ?_))); (case side2 => exact (Kd.R_reads' HO_18.out).2.1); rintro e w69 ⟨rfl, hb⟩; refine ⟨_, rfl, ?_⟩; have n0_ := Aside0.mk (Kd.R_below (by (with_reducible repeat (first | apply Kd.R_alloc | apply Kd.R_drewN | apply Kd.R_drew)); exact HO_6.out) hb); have n1_ := Aside0.mk (Kd.R_below (by (with_reducible repeat (first | apply Kd.R_alloc | apply Kd.R_drewN | apply Kd.R_drew)); exact HO_18.out) hb); have n2_ := Aside0.mk (below_step (by repeat (first | (with_reducible first | exact HB.out | apply below_alloc | apply pw_below_drewN | apply below_drew1) | exact HB.out)) hb); clear HO_6; clear HO_18; clear HB; have HO_6 := n0_; have HO_18 := n1_; have HB := n2_; clear n0_ n1_ n2_; (try clear hb); (try clear hb2); (try clear hk); (try clear hi); obtain ⟨Ao70, co70, eo70⟩ := Kd.R_slice HO_6.out; subst eo70) | (go_at_call 38; (with_reducible refine (laws_nSum.calls k2 _ _ t242 t264 _ ?side1 ?side2 A47.out).mono ?_); (case side1 => repeat (first | exact (Kd.R_reads' HO_6.out).2.2 | (with_reducible refine Kd.C_alloc ?_ _) | (with_reducible refine Kd.C_drewN ?_ _) | (with_reducible refine Kd.C_drew ?_))); (case side2 => exact (Kd.R_reads' HO_6.out).2.1); rintro e w' ⟨rfl, ⟨nd, rfl⟩⟩; have p265 : 0 ≤ (0 : Int) := (by omega); have q265 : 0 < (t242.length : Int) := of_decide_eq_true (by first | (with_reducible assumption) | assumption); obtain ⟨ad265, e265, hx265_0⟩ := Kd.at_int (Kd.R_reads' HO_6.out).2.2 0 p265 q265; cases e265; have qi265 : (0 < t242.length) = True := eq_true (by omega); (try rw [show ((0 : Int)).toNat = 0 from rfl] at hx265_0); (try rw [Addr.add_zero'] at hx265_0); replace p265 := eq_true p265; replace q265 := eq_true q265; have p266 : 0 ≤ (1 : Int) := (by omega); have q266 : 1 < (t242.length : Int) := of_decide_eq_true (by first | (with_reducible assumption) | assumption); obtain ⟨ad266, e266, hx266_0⟩ := Kd.at_int (Kd.R_reads' HO_6.out).2.2 1 p266 q266; obtain rfl : ad265 = ad266 := (by injection e266); (try simp only [show (1 : Int).toNat = 1 from rfl, Nat.reduceMul, Nat.reduceEqDiff, Go.Addr.add, ↓reduceIte] at hx266_0); have qi266 : (1 < t242.length) = True := eq_true (by omega); (try rw [show ((1 : Int)).toNat = 1 from rfl] at hx266_0); replace p266 := eq_true p266; replace q266 := eq_true q266; have p267 : 0 ≤ ((ji53) : Int) := of_decide_eq_true (by first | (with_reducible assumption) | assumption); have q267 : (ji53) < (t242.length : Int) := of_decide_eq_true (by first | (with_reducible assumption) | assumption); obtain ⟨ad267, e267, hx267_0⟩ := Kd.at_int (Kd.R_reads' HO_6.out).2.2 (ji53) p267 q267; obtain rfl : ad265 = ad267 := (by injection e267); replace p267 := eq_true p267; replace q267 := eq_true q267))
                                    go_ret
                                    exact ⟨by first | rfl | (simp [errW_none, errW_some] <;> rfl) | (simp only [← hji53]; first | rfl | (simp [errW_none, errW_some] <;> rfl)) | (simp [*, errW_none, errW_some] <;> rfl), by repeat (first | (with_reducible first | exact HB.out | apply below_alloc | apply pw_below_drewN | apply below_drew1) | exact HB.out)⟩
                                · rw [if_neg c55] at H
                                  exact absurd H (by simp)
                              · rw [if_neg c54] at H
                                exact absurd H (by simp)
                            · rw [if_neg c52] at H
                              have c52b0 : ((rd t242 1) == (wrap64 (t241 - 1))) = false := beq_eq_false_iff_ne.mpr c52
                              have c52b1 : ((rd t242 1) != (wrap64 (t241 - 1))) = true := bne_iff_ne.mpr c52
                              obtain rfl := Option.some.inj H
                              obtain ⟨Ao71, co71, eo71⟩ := Kd.R_slice HO_18.out
                              subst eo71
                              go_wp2_with (first | ((with_reducible refine gate_callee (f := 37) rfl ?_); refine goesL_ (some 109) rfl rfl Try.func37 (by kernel_rfl) rfl #[.slice Ao71 x18_2.length co71] rfl (by (try simp only [List.map_toArray, List.map_cons, List.map_nil]); first | done | rfl | (simp only [List.length_drop, List.length_take]; rfl)) ?_; (with_reducible refine (impl_CountLeast.calls _ _ x18_2 t262 t263 _ ?side1 ?side2 A45.out).mono ?_); (case side1 => repeat (first | exact (Kd.R_reads' HO_18.out).2.2 | (with_reducible refine Kd.C_alloc ?_ _) | (with_reducible refine Kd.C_drewN ?_ _) | (with_reducible refine Kd.C_drew ?_))); (case side2 => exact (Kd.R_reads' HO_18.out).2.1); rintro e w72 ⟨rfl, hb⟩; refine ⟨_, rfl, ?_⟩; have n0_ := Aside0.mk (Kd.R_below (by (with_reducible repeat (first | apply Kd.R_alloc | apply Kd.R_drewN | apply Kd.R_drew)); exact HO_6.out) hb); have n1_ := Aside0.mk (Kd.R_below (by (with_reducible repeat (first | apply Kd.R_alloc | apply Kd.R_drewN | apply Kd.R_drew)); exact HO_18.out) hb); have n2_ := Aside0.mk (below_step (by repeat (first | (with_reducible first | exact HB.out | apply below_alloc | apply pw_below_drewN | apply below_drew1) | exact HB.out)) hb); clear HO_6; clear HO_18; clear HB; have HO_6 := n0_; have HO_18 := n1_; have HB := n2_; clear n0_ n1_ n2_; (try clear hb); (try clear hb2); (try clear hk); (try clear hi); obtain ⟨Ao73, co73, eo73⟩ := Kd.R_slice HO_6.out; subst eo73) | (go_at_call 38; (with_reducible refine (laws_nSum.calls k2 _ _ t242 t264 _ ?side1 ?side2 A47.out).mono ?_); (case side1 => repeat (first | exact (Kd.R_reads' HO_6.out).2.2 | (with_reducible refine Kd.C_alloc ?_ _) | (with_reducible refine Kd.C_drewN ?_ _) | (with_reducible refine Kd.C_drew ?_))); (case side2 => exact (Kd.R_reads' HO_6.out).2.1); rintro e w' ⟨rfl, ⟨nd, rfl⟩⟩; have p265 : 0 ≤ (0 : Int) := (by omega); have q265 : 0 < (t242.length : Int) := of_decide_eq_true (by first | (with_reducible assumption) | assumption); obtain ⟨ad265, e265, hx265_0⟩ := Kd.at_int (Kd.R_reads' HO_6.out).2.2 0 p265 q265; cases e265; have qi265 : (0 < t242.length) = True := eq_true (by omega); (try rw [show ((0 : Int)).toNat = 0 from rfl] at hx265_0); (try rw [Addr.add_zero'] at hx265_0); replace p265 := eq_true p265; replace q265 := eq_true q265; have p266 : 0 ≤ (1 : Int) := (by omega); have q266 : 1 < (t242.length : Int) := of_decide_eq_true (by first | (with_reducible assumption) | assumption); obtain ⟨ad266, e266, hx266_0⟩ := Kd.at_int (Kd.R_reads' HO_6.out).2.2 1 p266 q266; obtain rfl : ad265 = ad266 := (by injection e266); (try simp only [show (1 : Int).toNat = 1 from rfl, Nat.reduceMul, Nat.reduceEqDiff, Go.Addr.add, ↓reduceIte] at hx266_0); have qi266 : (1 < t242.length) = True := eq_true (by omega); (try rw [show ((1 : Int)).toNat = 1 from rfl] at hx266_0); replace p266 := eq_true p266; replace q266 := eq_true q266))
                              go_ret
                              exact ⟨by first | rfl | (simp [errW_none, errW_some] <;> rfl) | (simp [*, errW_none, errW_some] <;> rfl), by repeat (first | (with_reducible first | exact HB.out | apply below_alloc | apply pw_below_drewN | apply below_drew1) | exact HB.out)⟩
                          · rw [if_neg c51] at H
                            exact absurd H (by simp)
                        · rw [if_neg c50] at H
                          have c50b0 : ((rd t242 0) == 1) = false := beq_eq_false_iff_ne.mpr c50
                          have c50b1 : ((rd t242 0) != 1) = true := bne_iff_ne.mpr c50
                          obtain rfl := Option.some.inj H
                          obtain ⟨Ao74, co74, eo74⟩ := Kd.R_slice HO_18.out
                          subst eo74
                          go_wp2_with (first | ((with_reducible refine gate_callee (f := 37) rfl ?_); refine goesL_ (some 109) rfl rfl Try.func37 (by kernel_rfl) rfl #[.slice Ao74 x18_2.length co74] rfl (by (try simp only [List.map_toArray, List.map_cons, List.map_nil]); first | done | rfl | (simp only [List.length_drop, List.length_take]; rfl)) ?_; (with_reducible refine (impl_CountLeast.calls _ _ x18_2 t262 t263 _ ?side1 ?side2 A45.out).mono ?_); (case side1 => repeat (first | exact (Kd.R_reads' HO_18.out).2.2 | (with_reducible refine Kd.C_alloc ?_ _) | (with_reducible refine Kd.C_drewN ?_ _) | (with_reducible refine Kd.C_drew ?_))); (case side2 => exact (Kd.R_reads' HO_18.out).2.1); rintro e w75 ⟨rfl, hb⟩; refine ⟨_, rfl, ?_⟩; have n0_ := Aside0.mk (Kd.R_below (by (with_reducible repeat (first | apply Kd.R_alloc | apply Kd.R_drewN | apply Kd.R_drew)); exact HO_6.out) hb); have n1_ := Aside0.mk (Kd.R_below (by (with_reducible repeat (first | apply Kd.R_alloc | apply Kd.R_drewN | apply Kd.R_drew)); exact HO_18.out) hb); have n2_ := Aside0.mk (below_step (by repeat (first | (with_reducible first | exact HB.out | apply below_alloc | apply pw_below_drewN | apply below_drew1) | exact HB.out)) hb); clear HO_6; clear HO_18; clear HB; have HO_6 := n0_; have HO_18 := n1_; have HB := n2_; clear n0_ n1_ n2_; (try clear hb); (try clear hb2); (try clear hk); (try clear hi); obtain ⟨Ao76, co76, eo76⟩ := Kd.R_slice HO_6.out; subst eo76) | (go_at_call 38; (with_reducible refine (laws_nSum.calls k2 _ _ t242 t264 _ ?side1 ?side2 A47.out).mono ?_); (case side1 => repeat (first | exact (Kd.R_reads' HO_6.out).2.2 | (with_reducible refine Kd.C_alloc ?_ _) | (with_reducible refine Kd.C_drewN ?_ _) | (with_reducible refine Kd.C_drew ?_))); (case side2 => exact (Kd.R_reads' HO_6.out).2.1); rintro e w' ⟨rfl, ⟨nd, rfl⟩⟩; have p265 : 0 ≤ (0 : Int) := (by omega); have q265 : 0 < (t242.length : Int) := of_decide_eq_true (by first | (with_reducible assumption) | assumption); obtain ⟨ad265, e265, hx265_0⟩ := Kd.at_int (Kd.R_reads' HO_6.out).2.2 0 p265 q265; cases e265; have qi265 : (0 < t242.length) = True := eq_true (by omega); (try rw [show ((0 : Int)).toNat = 0 from rfl] at hx265_0); (try rw [Addr.add_zero'] at hx265_0); replace p265 := eq_true p265; replace q265 := eq_true q265))
                          go_ret
                          exact ⟨by first | rfl | (simp [errW_none, errW_some] <;> rfl) | (simp [*, errW_none, errW_some] <;> rfl), by repeat (first | (with_reducible first | exact HB.out | apply below_alloc | apply pw_below_drewN | apply below_drew1) | exact HB.out)⟩
                      · rw [if_neg c49] at H
                        exact absurd H (by simp)
                    · rw [if_neg c48] at H
                      have c48b0 : (t264 == t250) = false := beq_eq_false_iff_ne.mpr c48
                      have c48b1 : (t264 != t250) = true := bne_iff_ne.mpr c48
                      obtain rfl := Option.some.inj H
                      obtain ⟨Ao77, co77, eo77⟩ := Kd.R_slice HO_18.out
                      subst eo77
                      go_wp2_with (first | ((with_reducible refine gate_callee (f := 37) rfl ?_); refine goesL_ (some 109) rfl rfl Try.func37 (by kernel_rfl) rfl #[.slice Ao77 x18_2.length co77] rfl (by (try simp only [List.map_toArray, List.map_cons, List.map_nil]); first | done | rfl | (simp only [List.length_drop, List.length_take]; rfl)) ?_; (with_reducible refine (impl_CountLeast.calls _ _ x18_2 t262 t263 _ ?side1 ?side2 A45.out).mono ?_); (case side1 => repeat (first | exact (Kd.R_reads' HO_18.out).2.2 | (with_reducible refine Kd.C_alloc ?_ _) | (with_reducible refine Kd.C_drewN ?_ _) | (with_reducible refine Kd.C_drew ?_))); (case side2 => exact (Kd.R_reads' HO_18.out).2.1); rintro e w78 ⟨rfl, hb⟩; refine ⟨_, rfl, ?_⟩; have n0_ := Aside0.mk (Kd.R_below (by (with_reducible repeat (first | apply Kd.R_alloc | apply Kd.R_drewN | apply Kd.R_drew)); exact HO_6.out) hb); have n1_ := Aside0.mk (Kd.R_below (by (with_reducible repeat (first | apply Kd.R_alloc | apply Kd.R_drewN | apply Kd.R_drew)); exact HO_18.out) hb); have n2_ := Aside0.mk (below_step (by repeat (first | (with_reducible first | exact HB.out | apply below_alloc | apply pw_below_drewN | apply below_drew1) | exact HB.out)) hb); clear HO_6; clear HO_18; clear HB; have HO_6 := n0_; have HO_18 := n1_; have HB := n2_; clear n0_ n1_ n2_; (try clear hb); (try clear hb2); (try clear hk); (try clear hi); obtain ⟨Ao79, co79, eo79⟩ := Kd.R_slice HO_6.out; subst eo79) | (go_at_call 38; (with_reducible refine (laws_nSum.calls k2 _ _ t242 t264 _ ?side1 ?side2 A47.out).mono ?_); (case side1 => repeat (first | exact (Kd.R_reads' HO_6.out).2.2 | (with_reducible refine Kd.C_alloc ?_ _) | (with_reducible refine Kd.C_drewN ?_ _) | (with_reducible refine Kd.C_drew ?_))); (case side2 => exact (Kd.R_reads' HO_6.out).2.1); rintro e w' ⟨rfl, ⟨nd, rfl⟩⟩))
                      go_ret
                      exact ⟨by first | rfl | (simp [errW_none, errW_some] <;> rfl) | (simp [*, errW_none, errW_some] <;> rfl), by repeat (first | (with_reducible first | exact HB.out | apply below_alloc | apply pw_below_drewN | apply below_drew1) | exact HB.out)⟩
                  · rw [if_neg c46] at H
                    have c46b0 : ((t242.length : Int) == (wrap64 ((wrap64 (Int.tdiv (wrap64 (t241 * (wrap64 (t241 - 1)))) 2)) + 1))) = false := beq_eq_false_iff_ne.mpr c46
                    have c46b1 : ((t242.length : Int) != (wrap64 ((wrap64 (Int.tdiv (wrap64 (t241 * (wrap64 (t241 - 1)))) 2)) + 1))) = true := bne_iff_ne.mpr c46
                    obtain rfl := Option.some.inj H
                    obtain ⟨Ao80, co80, eo80⟩ := Kd.R_slice HO_18.out
                    subst eo80
                    go_wp2_with (first | ((with_reducible refine gate_callee (f := 37) rfl ?_); refine goesL_ (some 109) rfl rfl Try.func37 (by kernel_rfl) rfl #[.slice Ao80 x18_2.length co80] rfl (by (try simp only [List.map_toArray, List.map_cons, List.map_nil]); first | done | rfl | (simp only [List.length_drop, List.length_take]; rfl)) ?_; (with_reducible refine (impl_CountLeast.calls _ _ x18_2 t262 t263 _ ?side1 ?side2 A45.out).mono ?_); (case side1 => repeat (first | exact (Kd.R_reads' HO_18.out).2.2 | (with_reducible refine Kd.C_alloc ?_ _) | (with_reducible refine Kd.C_drewN ?_ _) | (with_reducible refine Kd.C_drew ?_))); (case side2 => exact (Kd.R_reads' HO_18.out).2.1); rintro e w81 ⟨rfl, hb⟩; refine ⟨_, rfl, ?_⟩; have n0_ := Aside0.mk (Kd.R_below (by (with_reducible repeat (first | apply Kd.R_alloc | apply Kd.R_drewN | apply Kd.R_drew)); exact HO_6.out) hb); have n1_ := Aside0.mk (Kd.R_below (by (with_reducible repeat (first | apply Kd.R_alloc | apply Kd.R_drewN | apply Kd.R_drew)); exact HO_18.out) hb); have n2_ := Aside0.mk (below_step (by repeat (first | (with_reducible first | exact HB.out | apply below_alloc | apply pw_below_drewN | apply below_drew1) | exact HB.out)) hb); clear HO_6; clear HO_18; clear HB; have HO_6 := n0_; have HO_18 := n1_; have HB := n2_; clear n0_ n1_ n2_; (try clear hb); (try clear hb2); (try clear hk); (try clear hi); obtain ⟨Ao82, co82, eo82⟩ := Kd.R_slice HO_6.out; subst eo82))
                    go_ret
                    exact ⟨by first | rfl | (simp [errW_none, errW_some] <;> rfl) | (simp [*, errW_none, errW_some] <;> rfl), by repeat (first | (with_reducible first | exact HB.out | apply below_alloc | apply pw_below_drewN | apply below_drew1) | exact HB.out)⟩
          · replace c41 := Bool.eq_false_iff.mpr c41
            subst c41
            have H1 : (some true) = some r := by rw [if_neg (show ¬ (false = true) by decide)] at H; exact H
            clear H
            have H := H1
            clear H1
            obtain rfl := Option.some.inj H
            go_wp2
            go_ret
            exact ⟨by first | rfl | (simp [errW_none, errW_some] <;> rfl) | (simp [*, errW_none, errW_some] <;> rfl), by repeat (first | (with_reducible first | exact HB.out | apply below_alloc | apply pw_below_drewN | apply below_drew1) | exact HB.out)⟩

/-- THE ONE PURE STATEMENT of laws_FnLongestCounted. -/
def laws_FnLongestCounted.Pure : Prop := ∀ (l0 : List Int) (l1 : List Int), l0.length ≤ maxLen → l0.length * 1 ≤ 140737488351232 → (∀ x ∈ l0, (Lit.int .u8 x).wf = true) → l1.length ≤ maxLen → l1.length * 1 ≤ 140737488351232 → (∀ x ∈ l1, (Lit.int .u8 x).wf = true) → ∃ k, laws_FnLongestCounted.f k l0 l1 = some true
theorem laws_FnLongestCounted.walk (P : laws_FnLongestCounted.Pure) (a0 : Option Addr) (len0 cap0 : Nat) (z0 : List Int) (a1 : Option Addr) (len1 cap1 : Nat) (z1 : List Int) (w : World) (w0 : (a0 = none ∧ len0 = 0 ∧ cap0 = 0 ∧ z0 = []) ∨ ∃ x, a0 = some x ∧ len0 ≤ cap0 ∧ cap0 ≤ maxLen ∧ z0.length = cap0 ∧ (∀ i, i < z0.length → w.cell? (x.add i) = some (.int .u8 (z0.getD i 0))) ∧ ∀ n ∈ z0, (Lit.int .u8 n).wf = true) (y0 : len0 * 1 ≤ 140737488351232) (w1 : (a1 = none ∧ len1 = 0 ∧ cap1 = 0 ∧ z1 = []) ∨ ∃ x, a1 = some x ∧ len1 ≤ cap1 ∧ cap1 ≤ maxLen ∧ z1.length = cap1 ∧ (∀ i, i < z1.length → w.cell? (x.add i) = some (.int .u8 (z1.getD i 0))) ∧ ∀ n ∈ z1, (Lit.int .u8 n).wf = true) (y1 : len1 * 1 ≤ 140737488351232) :
    Calls Try.prog 8 #[.slice a0 len0 cap0, .slice a1 len1 cap1] w fun e w' => e = .returned (.bool true) ∧ Below w.heap.size w w' := by
  obtain ⟨l0, rfl, hr0, hm0, hw0, hc0⟩ := ReadsInt.ofRowC w0
  obtain ⟨l1, rfl, hr1, hm1, hw1, hc1⟩ := ReadsInt.ofRowC w1
  obtain ⟨k, h⟩ := P l0 l1 hm0 y0 hw0 hm1 y1 hw1
  refine (laws_FnLongestCounted.calls k _ _ l0 _ _ l1 true w (Kd.C_of_reads (d := (0 : Int)) (h1 := fun _ => rfl) hr0) hc0 (Kd.C_of_reads (d := (0 : Int)) (h1 := fun _ => rfl) hr1) hc1 h).mono ?_
  rintro e w' ⟨rfl, hd⟩
  exact ⟨rfl, hd⟩

end
end Go.Proofs.Ytnddmmjofpfmfaa.PLc
