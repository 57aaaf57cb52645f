/- The values of the printed functions, without rounds, and the equations that they meet. Written by a program of this session (vgen.py). -/
import Derived.Test.YtldolihoffcomaaPAllx18
import Derived.Test.YtldolihoffcomaaVAllx1
import Derived.Test.YtldolihoffcomaaVAllx11
import Derived.Test.YtldolihoffcomaaVAllx15
import Derived.Test.YtldolihoffcomaaVAllx16
import Derived.Test.YtldolihoffcomaaLim
namespace Go.Proofs.Ytldolihoffcomaa.PAll
open Go.RowKit Go.Proofs.YtldolihoffcomaaW.PrintWords Go.Proofs.YtldolihoffcomaaW.PrintLast Go.Proofs.YtldolihoffcomaaW.PrintMore Go.Proofs.YtldolihoffcomaaL
set_option linter.unusedVariables false
set_option maxRecDepth 100000
theorem spec_lsLeast.f.m (a0_0 : Int) (l0_1 : List Int) : Mono (fun k => spec_lsLeast.f k a0_0 l0_1) := fun k => spec_lsLeast.mono a0_0 l0_1 k
noncomputable def spec_lsLeast.f.v (a0_0 : Int) (l0_1 : List Int) : Option (Bool) := lim (fun k => spec_lsLeast.f k a0_0 l0_1)
theorem spec_lsLeast.f.ends (a0_0 : Int) (l0_1 : List Int) {r : _} (h : spec_lsLeast.f.v a0_0 l0_1 = some r) : ∃ k, spec_lsLeast.f k a0_0 l0_1 = some r := lim_some h
theorem spec_IsLeast.f.m (a0_0 : Int) (l0_1 : List Int) : Mono (fun k => spec_IsLeast.f k a0_0 l0_1) := fun k => spec_IsLeast.mono a0_0 l0_1 k
noncomputable def spec_IsLeast.f.v (a0_0 : Int) (l0_1 : List Int) : Option (Bool × Bool) := lim (fun k => spec_IsLeast.f k a0_0 l0_1)
theorem spec_IsLeast.f.ends (a0_0 : Int) (l0_1 : List Int) {r : _} (h : spec_IsLeast.f.v a0_0 l0_1 = some r) : ∃ k, spec_IsLeast.f k a0_0 l0_1 = some r := lim_some h
theorem impl_IsLeast.f.m (a0_0 : Int) (l0_1 : List Int) : Mono (fun k => impl_IsLeast.f k a0_0 l0_1) := fun k => impl_IsLeast.mono a0_0 l0_1 k
noncomputable def impl_IsLeast.f.v (a0_0 : Int) (l0_1 : List Int) : Option (Bool × Bool) := lim (fun k => impl_IsLeast.f k a0_0 l0_1)
theorem impl_IsLeast.f.ends (a0_0 : Int) (l0_1 : List Int) {r : _} (h : impl_IsLeast.f.v a0_0 l0_1 = some r) : ∃ k, impl_IsLeast.f k a0_0 l0_1 = some r := lim_some h
theorem spec_lsLeast.f.v_eq (a0_0 : Int) (l0_1 : List Int) : spec_lsLeast.f.v a0_0 l0_1 = (spec_laResult.f.v a0_0 l0_1).bind fun t531 => ((spec_lsInversions.f.v t531).bind fun t534 => (some ((l0_1.length : Int) == (t534.length : Int)))) :=
  Eq.trans (b := lim (fun k => (spec_laResult.f k a0_0 l0_1).bind fun t531 => ((spec_lsInversions.f k t531).bind fun t534 => (some ((l0_1.length : Int) == (t534.length : Int)))))) (congrArg lim (funext fun k => by with_reducible exact spec_lsLeast.f.eq_1 _ _ _ )) (lim_bind_to (spec_laResult.f.m _ _ ) (fun t531 => (Mono.bind (spec_lsInversions.f.m _ ) (fun t534 => (Mono.const _)))) (fun t531 => (lim_bind_to (spec_lsInversions.f.m _ ) (fun t534 => (Mono.const _)) (fun t534 => (lim_const _)))))
theorem spec_IsLeast.f.v_eq (a0_0 : Int) (l0_1 : List Int) : spec_IsLeast.f.v a0_0 l0_1 = (spec_laGood.f.v a0_0 l0_1).bind fun t538 => (if t538 = true then ((spec_lsLeast.f.v a0_0 l0_1).bind fun t539 => (some (t539, true))) else (some (false, false))) :=
  Eq.trans (b := lim (fun k => (spec_laGood.f k a0_0 l0_1).bind fun t538 => (if t538 = true then ((spec_lsLeast.f k a0_0 l0_1).bind fun t539 => (some (t539, true))) else (some (false, false))))) (congrArg lim (funext fun k => by with_reducible exact spec_IsLeast.f.eq_1 _ _ _ )) (lim_bind_to (spec_laGood.f.m _ _ ) (fun t538 => (Mono.ite (Mono.bind (spec_lsLeast.f.m _ _ ) (fun t539 => (Mono.const _))) (Mono.const _))) (fun t538 => (lim_ite_to (lim_bind_to (spec_lsLeast.f.m _ _ ) (fun t539 => (Mono.const _)) (fun t539 => (lim_const _))) (lim_const _))))
theorem impl_IsLeast.f.v_eq (a0_0 : Int) (l0_1 : List Int) : impl_IsLeast.f.v a0_0 l0_1 = (impl_isLadder.f a0_0 l0_1).bind fun t541 => (if t541 = true then ((impl_needless.f.v a0_0 l0_1).bind fun t542 => (some ((t542 == 0), true))) else (some (false, false))) :=
  Eq.trans (b := lim (fun k => (impl_isLadder.f a0_0 l0_1).bind fun t541 => (if t541 = true then ((impl_needless.f k a0_0 l0_1).bind fun t542 => (some ((t542 == 0), true))) else (some (false, false))))) (congrArg lim (funext fun k => by with_reducible exact impl_IsLeast.f.eq_1 _ _ _ )) (lim_bindc_to (fun t541 => (lim_ite_to (lim_bind_to (impl_needless.f.m _ _ ) (fun t542 => (Mono.const _)) (fun t542 => (lim_const _))) (lim_const _))))
end Go.Proofs.Ytldolihoffcomaa.PAll
