/- The values of the printed functions, without rounds, and the equations that they meet. Written by a program of this session (vgen.py). -/
import Derived.Test.YtjaahaeenagpfaaPAllx4
import Derived.Test.YtjaahaeenagpfaaVAllx2
import Derived.Test.YtjaahaeenagpfaaVAllx3
import Derived.Test.YtjaahaeenagpfaaLim
namespace Go.Proofs.Ytjaahaeenagpfaa.PAll
open Go.RowKit Go.Proofs.YtjaahaeenagpfaaW.PrintWords Go.Proofs.YtjaahaeenagpfaaW.PrintLast Go.Proofs.YtjaahaeenagpfaaW.PrintMore Go.Proofs.YtjaahaeenagpfaaL
set_option linter.unusedVariables false
set_option maxRecDepth 100000
theorem spec_l1All.l0.m (x1 : Int) (x2 : Int) (x9 : List Int) (x10 : Int) (x11 : Int) : Mono (fun k => spec_l1All.l0 k x1 x2 x9 x10 x11) := fun k => (spec_l1All.mono_l k) x1 x2 x9 x10 x11
noncomputable def spec_l1All.l0.v (x1 : Int) (x2 : Int) (x9 : List Int) (x10 : Int) (x11 : Int) : Option (Bool) := lim (fun k => spec_l1All.l0 k x1 x2 x9 x10 x11)
theorem spec_l1All.f.m (l0 : List Int) (a1 : Int) (a2 : Int) : Mono (fun k => spec_l1All.f k l0 a1 a2) := fun k => spec_l1All.mono l0 a1 a2 k
noncomputable def spec_l1All.f.v (l0 : List Int) (a1 : Int) (a2 : Int) : Option (Bool) := lim (fun k => spec_l1All.f k l0 a1 a2)
theorem spec_l1All.f.ends (l0 : List Int) (a1 : Int) (a2 : Int) {r : _} (h : spec_l1All.f.v l0 a1 a2 = some r) : ∃ k, spec_l1All.f k l0 a1 a2 = some r := lim_some h
theorem spec_laGood.f.m (a0_0 : Int) (l0_1 : List Int) : Mono (fun k => spec_laGood.f k a0_0 l0_1) := fun k => spec_laGood.mono a0_0 l0_1 k
noncomputable def spec_laGood.f.v (a0_0 : Int) (l0_1 : List Int) : Option (Bool) := lim (fun k => spec_laGood.f k a0_0 l0_1)
theorem spec_laGood.f.ends (a0_0 : Int) (l0_1 : List Int) {r : _} (h : spec_laGood.f.v a0_0 l0_1 = some r) : ∃ k, spec_laGood.f k a0_0 l0_1 = some r := lim_some h
theorem spec_IsLadder.f.m (a0_0 : Int) (l0_1 : List Int) : Mono (fun k => spec_IsLadder.f k a0_0 l0_1) := fun k => spec_IsLadder.mono a0_0 l0_1 k
noncomputable def spec_IsLadder.f.v (a0_0 : Int) (l0_1 : List Int) : Option (Bool) := lim (fun k => spec_IsLadder.f k a0_0 l0_1)
theorem spec_IsLadder.f.ends (a0_0 : Int) (l0_1 : List Int) {r : _} (h : spec_IsLadder.f.v a0_0 l0_1 = some r) : ∃ k, spec_IsLadder.f k a0_0 l0_1 = some r := lim_some h
theorem laws_toLadder.f.m (a0_0 : Int) (l0_1 : List Int) : Mono (fun k => laws_toLadder.f k a0_0 l0_1) := fun k => laws_toLadder.mono a0_0 l0_1 k
noncomputable def laws_toLadder.f.v (a0_0 : Int) (l0_1 : List Int) : Option (Int × List Int) := lim (fun k => laws_toLadder.f k a0_0 l0_1)
theorem laws_toLadder.f.ends (a0_0 : Int) (l0_1 : List Int) {r : _} (h : laws_toLadder.f.v a0_0 l0_1 = some r) : ∃ k, laws_toLadder.f k a0_0 l0_1 = some r := lim_some h
theorem laws_eqLadder.f.m (a0_0 : Int) (l0_1 : List Int) (a1_0 : Int) (l1_1 : List Int) : Mono (fun k => laws_eqLadder.f k a0_0 l0_1 a1_0 l1_1) := fun k => laws_eqLadder.mono a0_0 l0_1 a1_0 l1_1 k
noncomputable def laws_eqLadder.f.v (a0_0 : Int) (l0_1 : List Int) (a1_0 : Int) (l1_1 : List Int) : Option (Bool) := lim (fun k => laws_eqLadder.f k a0_0 l0_1 a1_0 l1_1)
theorem laws_eqLadder.f.ends (a0_0 : Int) (l0_1 : List Int) (a1_0 : Int) (l1_1 : List Int) {r : _} (h : laws_eqLadder.f.v a0_0 l0_1 a1_0 l1_1 = some r) : ∃ k, laws_eqLadder.f k a0_0 l0_1 a1_0 l1_1 = some r := lim_some h
theorem spec_l1All.l0.v_eq (x1 : Int) (x2 : Int) (x9 : List Int) (x10 : Int) (x11 : Int) : spec_l1All.l0.v x1 x2 x9 x10 x11 = if x11 < x10 then (if 0 ≤ x11 then (if x11 < (x9.length : Int) then ((spec_l1In.f (rd x9 x11) x1 x2).bind fun t154 => (if t154 = true then (spec_l1All.l0.v x1 x2 x9 x10 (wrap64 (x11 + 1))) else (some false))) else (none)) else (none)) else (some true) :=
  Eq.trans (b := lim (fun k => if x11 < x10 then (if 0 ≤ x11 then (if x11 < (x9.length : Int) then ((spec_l1In.f (rd x9 x11) x1 x2).bind fun t154 => (if t154 = true then (spec_l1All.l0 k x1 x2 x9 x10 (wrap64 (x11 + 1))) else (some false))) else (none)) else (none)) else (some true))) (lim_eq (spec_l1All.l0.m x1 x2 x9 x10 x11) (fun k => by with_reducible exact spec_l1All.l0.eq_2 _ _ _ _ _ _ )) (lim_ite_to (lim_ite_to (lim_ite_to (lim_bindc_to (fun t154 => (lim_ite_to rfl (lim_const _)))) (lim_const _)) (lim_const _)) (lim_const _))
theorem spec_l1All.f.v_eq (l0 : List Int) (a1 : Int) (a2 : Int) : spec_l1All.f.v l0 a1 a2 = spec_l1All.l0.v a1 a2 l0 (l0.length : Int) 0 :=
  Eq.trans (b := lim (fun k => spec_l1All.l0 k a1 a2 l0 (l0.length : Int) 0)) (congrArg lim (funext fun k => by with_reducible exact spec_l1All.f.eq_1 _ _ _ _ )) rfl
theorem spec_laGood.f.v_eq (a0_0 : Int) (l0_1 : List Int) : spec_laGood.f.v a0_0 l0_1 = (spec_l1In.f a0_0 2 8).bind fun t156 => (if t156 = true then (if (l0_1.length : Int) ≤ 60 then ((spec_l1All.f.v l0_1 0 (wrap64 (a0_0 - 2))).bind fun t157 => (some t157)) else (some false)) else (some false)) :=
  Eq.trans (b := lim (fun k => (spec_l1In.f a0_0 2 8).bind fun t156 => (if t156 = true then (if (l0_1.length : Int) ≤ 60 then ((spec_l1All.f k l0_1 0 (wrap64 (a0_0 - 2))).bind fun t157 => (some t157)) else (some false)) else (some false)))) (congrArg lim (funext fun k => by with_reducible exact spec_laGood.f.eq_1 _ _ _ )) (lim_bindc_to (fun t156 => (lim_ite_to (lim_ite_to (lim_bind_to (spec_l1All.f.m _ _ _ ) (fun t157 => (Mono.const _)) (fun t157 => (lim_const _))) (lim_const _)) (lim_const _))))
theorem spec_IsLadder.f.v_eq (a0_0 : Int) (l0_1 : List Int) : spec_IsLadder.f.v a0_0 l0_1 = (spec_laGood.f.v a0_0 l0_1).bind fun t159 => (some t159) :=
  Eq.trans (b := lim (fun k => (spec_laGood.f k a0_0 l0_1).bind fun t159 => (some t159))) (congrArg lim (funext fun k => by with_reducible exact spec_IsLadder.f.eq_1 _ _ _ )) (lim_bind_to (spec_laGood.f.m _ _ ) (fun t159 => (Mono.const _)) (fun t159 => (lim_const _)))
theorem laws_toLadder.f.v_eq (a0_0 : Int) (l0_1 : List Int) : laws_toLadder.f.v a0_0 l0_1 = (laws_toIntS.f.v l0_1).bind fun t163 => (some (a0_0, t163)) :=
  Eq.trans (b := lim (fun k => (laws_toIntS.f k l0_1).bind fun t163 => (some (a0_0, t163)))) (congrArg lim (funext fun k => by with_reducible exact laws_toLadder.f.eq_1 _ _ _ )) (lim_bind_to (laws_toIntS.f.m _ ) (fun t163 => (Mono.const _)) (fun t163 => (lim_const _)))
theorem laws_eqLadder.f.v_eq (a0_0 : Int) (l0_1 : List Int) (a1_0 : Int) (l1_1 : List Int) : laws_eqLadder.f.v a0_0 l0_1 a1_0 l1_1 = if a0_0 = a1_0 then ((laws_eqIntS.f.v l0_1 l1_1).bind fun t172 => (if t172 = true then (some true) else (some false))) else (some false) :=
  Eq.trans (b := lim (fun k => if a0_0 = a1_0 then ((laws_eqIntS.f k l0_1 l1_1).bind fun t172 => (if t172 = true then (some true) else (some false))) else (some false))) (congrArg lim (funext fun k => by with_reducible exact laws_eqLadder.f.eq_1 _ _ _ _ _ )) (lim_ite_to (lim_bind_to (laws_eqIntS.f.m _ _ ) (fun t172 => (Mono.const _)) (fun t172 => (lim_const _))) (lim_const _))
end Go.Proofs.Ytjaahaeenagpfaa.PAll
