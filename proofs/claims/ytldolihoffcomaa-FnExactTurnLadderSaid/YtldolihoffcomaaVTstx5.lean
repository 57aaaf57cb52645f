/- The values of the printed functions, without rounds, and the equations that they meet. Written by a program of this session (vgen.py). -/
import Derived.Test.YtldolihoffcomaaPTstx5
import Derived.Test.YtldolihoffcomaaVTstx4
import Derived.Test.YtldolihoffcomaaLim
namespace Go.Proofs.Ytldolihoffcomaa.PTst
open Go.RowKit Go.Proofs.YtldolihoffcomaaW.PrintWords Go.Proofs.YtldolihoffcomaaW.PrintLast Go.Proofs.YtldolihoffcomaaW.PrintMore Go.Proofs.YtldolihoffcomaaL
set_option linter.unusedVariables false
set_option maxRecDepth 100000
theorem impl_TurnLadder.f.m (a0_0 : Int) (l0_1 : List Int) : Mono (fun k => impl_TurnLadder.f k a0_0 l0_1) := fun k => impl_TurnLadder.mono a0_0 l0_1 k
noncomputable def impl_TurnLadder.f.v (a0_0 : Int) (l0_1 : List Int) : Option (Int × List Int × Bool) := lim (fun k => impl_TurnLadder.f k a0_0 l0_1)
theorem impl_TurnLadder.f.ends (a0_0 : Int) (l0_1 : List Int) {r : _} (h : impl_TurnLadder.f.v a0_0 l0_1 = some r) : ∃ k, impl_TurnLadder.f k a0_0 l0_1 = some r := lim_some h
theorem impl_TurnLadder.f.v_eq (a0_0 : Int) (l0_1 : List Int) : impl_TurnLadder.f.v a0_0 l0_1 = (impl_isLadder.f a0_0 l0_1).bind fun t145 => (if t145 = true then ((slices_Clone_int_int.f l0_1).bind fun t146 => ((slices_Reverse_int_int.f.v t146).bind fun t150 => (some (a0_0, t150, true)))) else (some (0, ([] : List Int), false))) :=
  Eq.trans (b := lim (fun k => (impl_isLadder.f a0_0 l0_1).bind fun t145 => (if t145 = true then ((slices_Clone_int_int.f l0_1).bind fun t146 => ((slices_Reverse_int_int.f k t146).bind fun t150 => (some (a0_0, t150, true)))) else (some (0, ([] : List Int), false))))) (congrArg lim (funext fun k => by with_reducible exact impl_TurnLadder.f.eq_1 _ _ _ )) (lim_bindc_to (fun t145 => (lim_ite_to (lim_bindc_to (fun t146 => (lim_bind_to (slices_Reverse_int_int.f.m _ ) (fun t150 => (Mono.const _)) (fun t150 => (lim_const _))))) (lim_const _))))
end Go.Proofs.Ytldolihoffcomaa.PTst
