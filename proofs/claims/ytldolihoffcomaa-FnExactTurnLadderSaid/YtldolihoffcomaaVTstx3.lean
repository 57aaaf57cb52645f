/- The values of the printed functions, without rounds, and the equations that they meet. Written by a program of this session (vgen.py). -/
import Derived.Test.YtldolihoffcomaaPTstx3
import Derived.Test.YtldolihoffcomaaVTstx2
import Derived.Test.YtldolihoffcomaaLim
namespace Go.Proofs.Ytldolihoffcomaa.PTst
open Go.RowKit Go.Proofs.YtldolihoffcomaaW.PrintWords Go.Proofs.YtldolihoffcomaaW.PrintLast Go.Proofs.YtldolihoffcomaaW.PrintMore Go.Proofs.YtldolihoffcomaaL
set_option linter.unusedVariables false
set_option maxRecDepth 100000
theorem spec_TurnLadder.l0.m (x5 : Int) (x132000 : Int) (x132001 : List Int) (x135000 : Int) (x135001 : List Int) : Mono (fun k => spec_TurnLadder.l0 k x5 x132000 x132001 x135000 x135001) := fun k => (spec_TurnLadder.mono_l k) x5 x132000 x132001 x135000 x135001
noncomputable def spec_TurnLadder.l0.v (x5 : Int) (x132000 : Int) (x132001 : List Int) (x135000 : Int) (x135001 : List Int) : Option (Int × List Int × Bool) := lim (fun k => spec_TurnLadder.l0 k x5 x132000 x132001 x135000 x135001)
theorem spec_TurnLadder.f.m (a0_0 : Int) (l0_1 : List Int) : Mono (fun k => spec_TurnLadder.f k a0_0 l0_1) := fun k => spec_TurnLadder.mono a0_0 l0_1 k
noncomputable def spec_TurnLadder.f.v (a0_0 : Int) (l0_1 : List Int) : Option (Int × List Int × Bool) := lim (fun k => spec_TurnLadder.f k a0_0 l0_1)
theorem spec_TurnLadder.f.ends (a0_0 : Int) (l0_1 : List Int) {r : _} (h : spec_TurnLadder.f.v a0_0 l0_1 = some r) : ∃ k, spec_TurnLadder.f k a0_0 l0_1 = some r := lim_some h
theorem spec_TurnLadder.l0.v_eq (x5 : Int) (x132000 : Int) (x132001 : List Int) (x135000 : Int) (x135001 : List Int) : spec_TurnLadder.l0.v x5 x132000 x132001 x135000 x135001 = if x5 ≥ 0 then (if 0 ≤ x5 then (if x5 < (x132001.length : Int) then (if x135001.length < 17592186044416 then (spec_TurnLadder.l0.v (wrap64 (x5 - 1)) x132000 x132001 x135000 (x135001 ++ [rd x132001 x5])) else (none)) else (none)) else (none)) else (some (x135000, x135001, true)) :=
  Eq.trans (b := lim (fun k => if x5 ≥ 0 then (if 0 ≤ x5 then (if x5 < (x132001.length : Int) then (if x135001.length < 17592186044416 then (spec_TurnLadder.l0 k (wrap64 (x5 - 1)) x132000 x132001 x135000 (x135001 ++ [rd x132001 x5])) else (none)) else (none)) else (none)) else (some (x135000, x135001, true)))) (lim_eq (spec_TurnLadder.l0.m x5 x132000 x132001 x135000 x135001) (fun k => by with_reducible exact spec_TurnLadder.l0.eq_2 _ _ _ _ _ _ )) (lim_ite_to (lim_ite_to (lim_ite_to (lim_ite_to rfl (lim_const _)) (lim_const _)) (lim_const _)) (lim_const _))
theorem spec_TurnLadder.f.v_eq (a0_0 : Int) (l0_1 : List Int) : spec_TurnLadder.f.v a0_0 l0_1 = (spec_laGood.f.v a0_0 l0_1).bind fun t133 => (if t133 = true then (spec_TurnLadder.l0.v (wrap64 ((l0_1.length : Int) - 1)) a0_0 l0_1 a0_0 ([] : List Int)) else (some (0, ([] : List Int), false))) :=
  Eq.trans (b := lim (fun k => (spec_laGood.f k a0_0 l0_1).bind fun t133 => (if t133 = true then (spec_TurnLadder.l0 k (wrap64 ((l0_1.length : Int) - 1)) a0_0 l0_1 a0_0 ([] : List Int)) else (some (0, ([] : List Int), false))))) (congrArg lim (funext fun k => by with_reducible exact spec_TurnLadder.f.eq_1 _ _ _ )) (lim_bind_to (spec_laGood.f.m _ _ ) (fun t133 => (Mono.ite (spec_TurnLadder.l0.m _ _ _ _ _ ) (Mono.const _))) (fun t133 => (lim_ite_to rfl (lim_const _))))
end Go.Proofs.Ytldolihoffcomaa.PTst
