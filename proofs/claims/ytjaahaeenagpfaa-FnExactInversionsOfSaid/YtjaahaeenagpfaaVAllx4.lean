/- The values of the printed functions, without rounds, and the equations that they meet. Written by a program of this session (vgen.py). -/
import Derived.Test.YtjaahaeenagpfaaPAllx4
import Derived.Test.YtjaahaeenagpfaaVAllx2
import Derived.Test.YtjaahaeenagpfaaVAllx3
import Derived.Test.YtjaahaeenagpfaaLim
namespace Go.Proofs.Ytjaahaeenagpfaa.PAll
open Go.RowKit Go.Proofs.YtjaahaeenagpfaaW.PrintWords Go.Proofs.YtjaahaeenagpfaaW.PrintLast Go.Proofs.YtjaahaeenagpfaaW.PrintMore Go.Proofs.YtjaahaeenagpfaaL
set_option linter.unusedVariables false
set_option maxRecDepth 100000
theorem spec_l1All.l0.m (x1 : Int) (x2 : Int) (x9 : List Int) (x10 : Int) (x11 : Int) : Mono (fun k => spec_l1All.l0 k x1 x2 x9 x10 x11) := fun k => (spec_l1All.mono_l k) x1 x2 x9 x10 x11
noncomputable def spec_l1All.l0.v (x1 : Int) (x2 : Int) (x9 : List Int) (x10 : Int) (x11 : Int) : Option (Bool) := lim (fun k => spec_l1All.l0 k x1 x2 x9 x10 x11)
theorem spec_l1All.f.m (l0 : List Int) (a1 : Int) (a2 : Int) : Mono (fun k => spec_l1All.f k l0 a1 a2) := fun k => spec_l1All.mono l0 a1 a2 k
noncomputable def spec_l1All.f.v (l0 : List Int) (a1 : Int) (a2 : Int) : Option (Bool) := lim (fun k => spec_l1All.f k l0 a1 a2)
theorem spec_l1All.f.ends (l0 : List Int) (a1 : Int) (a2 : Int) {r : _} (h : spec_l1All.f.v l0 a1 a2 = some r) : ∃ k, spec_l1All.f k l0 a1 a2 = some r := lim_some h
theorem spec_laGood.f.m (a0_0 : Int) (l0_1 : List Int) : Mono (fun k => spec_laGood.f k a0_0 l0_1) := fun k => spec_laGood.mono a0_0 l0_1 k
noncomputable def spec_laGood.f.v (a0_0 : Int) (l0_1 : List Int) : Option (Bool) := lim (fun k => spec_laGood.f k a0_0 l0_1)
theorem spec_laGood.f.ends (a0_0 : Int) (l0_1 : List Int) {r : _} (h : spec_laGood.f.v a0_0 l0_1 = some r) : ∃ k, spec_laGood.f k a0_0 l0_1 = some r := lim_some h
theorem spec_IsLadder.f.m (a0_0 : Int) (l0_1 : List Int) : Mono (fun k => spec_IsLadder.f k a0_0 l0_1) := fun k => spec_IsLadder.mono a0_0 l0_1 k
noncomputable def spec_IsLadder.f.v (a0_0 : Int) (l0_1 : List Int) : Option (Bool) := lim (fun k => spec_IsLadder.f k a0_0 l0_1)
theorem spec_IsLadder.f.ends (a0_0 : Int) (l0_1 : List Int) {r : _} (h : spec_IsLadder.f.v a0_0 l0_1 = some r) : ∃ k, spec_IsLadder.f k a0_0 l0_1 = some r := lim_some h
theorem laws_toLadder.f.m (a0_0 : Int) (l0_1 : List Int) : Mono (fun k => laws_toLadder.f k a0_0 l0_1) := fun k => laws_toLadder.mono a0_0 l0_1 k
noncomputable def laws_toLadder.f.v (a0_0 : Int) (l0_1 : List Int) : Option (Int × List Int) := lim (fun k => laws_toLadder.f k a0_0 l0_1)
theorem laws_toLadder.f.ends (a0_0 : Int) (l0_1 : List Int) {r : _} (h : laws_toLadder.f.v a0_0 l0_1 = some r) : ∃ k, laws_toLadder.f k a0_0 l0_1 = some r := lim_some h
theorem laws_eqLadder.f.m (a0_0 : Int) (l0_1 : List Int) (a1_0 : Int) (l1_1 : List Int) : Mono (fun k => laws_eqLadder.f k a0_0 l0_1 a1_0 l1_1) := fun k => laws_eqLadder.mono a0_0 l0_1 a1_0 l1_1 k
noncomputable def laws_eqLadder.f.v (a0_0 : Int) (l0_1 : List Int) (a1_0 : Int) (l1_1 : List Int) : Option (Bool) := lim (fun k => laws_eqLadder.f k a0_0 l0_1 a1_0 l1_1)
theorem laws_eqLadder.f.ends (a0_0 : Int) (l0_1 : List Int) (a1_0 : Int) (l1_1 : List Int) {r : _} (h : laws_eqLadder.f.v a0_0 l0_1 a1_0 l1_1 = some r) : ∃ k, laws_eqLadder.f k a0_0 l0_1 a1_0 l1_1 = some r := lim_some h
theorem spec_lsInversions.l0.m (x0 : List Int) (x3 : List (List Int)) (x7 : Int) (x8 : Int) : Mono (fun k => spec_lsInversions.l0 k x0 x3 x7 x8) := fun k => (spec_lsInversions.mono_l k).1 x0 x3 x7 x8
noncomputable def spec_lsInversions.l0.v (x0 : List Int) (x3 : List (List Int)) (x7 : Int) (x8 : Int) : Option ((List (List Int))) := lim (fun k => spec_lsInversions.l0 k x0 x3 x7 x8)
theorem spec_lsInversions.l1.m (x0 : List Int) (x3 : List (List Int)) (x4 : Int) (x5 : Int) (x7 : Int) (x8 : Int) : Mono (fun k => spec_lsInversions.l1 k x0 x3 x4 x5 x7 x8) := fun k => (spec_lsInversions.mono_l k).2 x0 x3 x4 x5 x7 x8
noncomputable def spec_lsInversions.l1.v (x0 : List Int) (x3 : List (List Int)) (x4 : Int) (x5 : Int) (x7 : Int) (x8 : Int) : Option ((List (List Int))) := lim (fun k => spec_lsInversions.l1 k x0 x3 x4 x5 x7 x8)
theorem spec_lsInversions.f.m (l0 : List Int) : Mono (fun k => spec_lsInversions.f k l0) := fun k => spec_lsInversions.mono l0 k
noncomputable def spec_lsInversions.f.v (l0 : List Int) : Option ((List (List Int))) := lim (fun k => spec_lsInversions.f k l0)
theorem spec_lsInversions.f.ends (l0 : List Int) {r : _} (h : spec_lsInversions.f.v l0 = some r) : ∃ k, spec_lsInversions.f k l0 = some r := lim_some h
theorem spec_l1All.l0.v_eq (x1 : Int) (x2 : Int) (x9 : List Int) (x10 : Int) (x11 : Int) : spec_l1All.l0.v x1 x2 x9 x10 x11 = if x11 < x10 then (if 0 ≤ x11 then (if x11 < (x9.length : Int) then ((spec_l1In.f (rd x9 x11) x1 x2).bind fun t148 => (if t148 = true then (spec_l1All.l0.v x1 x2 x9 x10 (wrap64 (x11 + 1))) else (some false))) else (none)) else (none)) else (some true) :=
  Eq.trans (b := lim (fun k => if x11 < x10 then (if 0 ≤ x11 then (if x11 < (x9.length : Int) then ((spec_l1In.f (rd x9 x11) x1 x2).bind fun t148 => (if t148 = true then (spec_l1All.l0 k x1 x2 x9 x10 (wrap64 (x11 + 1))) else (some false))) else (none)) else (none)) else (some true))) (lim_eq (spec_l1All.l0.m x1 x2 x9 x10 x11) (fun k => by with_reducible exact spec_l1All.l0.eq_2 _ _ _ _ _ _ )) (lim_ite_to (lim_ite_to (lim_ite_to (lim_bindc_to (fun t148 => (lim_ite_to rfl (lim_const _)))) (lim_const _)) (lim_const _)) (lim_const _))
theorem spec_l1All.f.v_eq (l0 : List Int) (a1 : Int) (a2 : Int) : spec_l1All.f.v l0 a1 a2 = spec_l1All.l0.v a1 a2 l0 (l0.length : Int) 0 :=
  Eq.trans (b := lim (fun k => spec_l1All.l0 k a1 a2 l0 (l0.length : Int) 0)) (congrArg lim (funext fun k => by with_reducible exact spec_l1All.f.eq_1 _ _ _ _ )) rfl
theorem spec_laGood.f.v_eq (a0_0 : Int) (l0_1 : List Int) : spec_laGood.f.v a0_0 l0_1 = (spec_l1In.f a0_0 2 8).bind fun t150 => (if t150 = true then (if (l0_1.length : Int) ≤ 60 then ((spec_l1All.f.v l0_1 0 (wrap64 (a0_0 - 2))).bind fun t151 => (some t151)) else (some false)) else (some false)) :=
  Eq.trans (b := lim (fun k => (spec_l1In.f a0_0 2 8).bind fun t150 => (if t150 = true then (if (l0_1.length : Int) ≤ 60 then ((spec_l1All.f k l0_1 0 (wrap64 (a0_0 - 2))).bind fun t151 => (some t151)) else (some false)) else (some false)))) (congrArg lim (funext fun k => by with_reducible exact spec_laGood.f.eq_1 _ _ _ )) (lim_bindc_to (fun t150 => (lim_ite_to (lim_ite_to (lim_bind_to (spec_l1All.f.m _ _ _ ) (fun t151 => (Mono.const _)) (fun t151 => (lim_const _))) (lim_const _)) (lim_const _))))
theorem spec_IsLadder.f.v_eq (a0_0 : Int) (l0_1 : List Int) : spec_IsLadder.f.v a0_0 l0_1 = (spec_laGood.f.v a0_0 l0_1).bind fun t153 => (some t153) :=
  Eq.trans (b := lim (fun k => (spec_laGood.f k a0_0 l0_1).bind fun t153 => (some t153))) (congrArg lim (funext fun k => by with_reducible exact spec_IsLadder.f.eq_1 _ _ _ )) (lim_bind_to (spec_laGood.f.m _ _ ) (fun t153 => (Mono.const _)) (fun t153 => (lim_const _)))
theorem laws_toLadder.f.v_eq (a0_0 : Int) (l0_1 : List Int) : laws_toLadder.f.v a0_0 l0_1 = (laws_toIntS.f.v l0_1).bind fun t157 => (some (a0_0, t157)) :=
  Eq.trans (b := lim (fun k => (laws_toIntS.f k l0_1).bind fun t157 => (some (a0_0, t157)))) (congrArg lim (funext fun k => by with_reducible exact laws_toLadder.f.eq_1 _ _ _ )) (lim_bind_to (laws_toIntS.f.m _ ) (fun t157 => (Mono.const _)) (fun t157 => (lim_const _)))
theorem laws_eqLadder.f.v_eq (a0_0 : Int) (l0_1 : List Int) (a1_0 : Int) (l1_1 : List Int) : laws_eqLadder.f.v a0_0 l0_1 a1_0 l1_1 = if a0_0 = a1_0 then ((laws_eqIntS.f.v l0_1 l1_1).bind fun t165 => (if t165 = true then (some true) else (some false))) else (some false) :=
  Eq.trans (b := lim (fun k => if a0_0 = a1_0 then ((laws_eqIntS.f k l0_1 l1_1).bind fun t165 => (if t165 = true then (some true) else (some false))) else (some false))) (congrArg lim (funext fun k => by with_reducible exact laws_eqLadder.f.eq_1 _ _ _ _ _ )) (lim_ite_to (lim_bind_to (laws_eqIntS.f.m _ _ ) (fun t165 => (Mono.const _)) (fun t165 => (lim_const _))) (lim_const _))
theorem spec_lsInversions.l0.v_eq (x0 : List Int) (x3 : List (List Int)) (x7 : Int) (x8 : Int) : spec_lsInversions.l0.v x0 x3 x7 x8 = if x8 < x7 then (spec_lsInversions.l1.v x0 x3 x8 (wrap64 (x8 + 1)) x7 x8) else (some x3) :=
  Eq.trans (b := lim (fun k => if x8 < x7 then (spec_lsInversions.l1 k x0 x3 x8 (wrap64 (x8 + 1)) x7 x8) else (some x3))) (lim_eq (spec_lsInversions.l0.m x0 x3 x7 x8) (fun k => by with_reducible exact spec_lsInversions.l0.eq_2 _ _ _ _ _ )) (lim_ite_to rfl (lim_const _))
theorem spec_lsInversions.l1.v_eq (x0 : List Int) (x3 : List (List Int)) (x4 : Int) (x5 : Int) (x7 : Int) (x8 : Int) : spec_lsInversions.l1.v x0 x3 x4 x5 x7 x8 = if x5 < (x0.length : Int) then (if 0 ≤ x4 then (if x4 < (x0.length : Int) then (if 0 ≤ x5 then (if (rd x0 x4) > (rd x0 x5) then (if x3.length < 5864062014805 then (spec_lsInversions.l1.v x0 (x3 ++ [(([x4, x5] : List Int))]) x4 (wrap64 (x5 + 1)) x7 x8) else (none)) else (spec_lsInversions.l1.v x0 x3 x4 (wrap64 (x5 + 1)) x7 x8)) else (none)) else (none)) else (none)) else (spec_lsInversions.l0.v x0 x3 x7 (wrap64 (x8 + 1))) :=
  Eq.trans (b := lim (fun k => if x5 < (x0.length : Int) then (if 0 ≤ x4 then (if x4 < (x0.length : Int) then (if 0 ≤ x5 then (if (rd x0 x4) > (rd x0 x5) then (if x3.length < 5864062014805 then (spec_lsInversions.l1 k x0 (x3 ++ [(([x4, x5] : List Int))]) x4 (wrap64 (x5 + 1)) x7 x8) else (none)) else (spec_lsInversions.l1 k x0 x3 x4 (wrap64 (x5 + 1)) x7 x8)) else (none)) else (none)) else (none)) else (spec_lsInversions.l0 k x0 x3 x7 (wrap64 (x8 + 1))))) (lim_eq (spec_lsInversions.l1.m x0 x3 x4 x5 x7 x8) (fun k => by with_reducible exact spec_lsInversions.l1.eq_2 _ _ _ _ _ _ _ )) (lim_ite_to (lim_ite_to (lim_ite_to (lim_ite_to (lim_ite_to (lim_ite_to rfl (lim_const _)) rfl) (lim_const _)) (lim_const _)) (lim_const _)) rfl)
theorem spec_lsInversions.f.v_eq (l0 : List Int) : spec_lsInversions.f.v l0 = spec_lsInversions.l0.v l0 ([] : List (List Int)) (l0.length : Int) 0 :=
  Eq.trans (b := lim (fun k => spec_lsInversions.l0 k l0 ([] : List (List Int)) (l0.length : Int) 0)) (congrArg lim (funext fun k => by with_reducible exact spec_lsInversions.f.eq_1 _ _ )) rfl
end Go.Proofs.Ytjaahaeenagpfaa.PAll
