/- The values of the printed functions, without rounds, and the equations that they meet. Written by a program of this session (vgen.py). -/
import Derived.Test.YtdeoeogdnagibaaPLix8
import Derived.Test.YtdeoeogdnagibaaVLix4
import Derived.Test.YtdeoeogdnagibaaLim
namespace Go.Proofs.Ytdeoeogdnagibaa.PLi
noncomputable section
open Go.RowKit Go.Proofs.YtdeoeogdnagibaaW.PrintWords Go.Proofs.YtdeoeogdnagibaaW.PrintLast Go.Proofs.YtdeoeogdnagibaaW.PrintMore Go.Proofs.YtdeoeogdnagibaaL
set_option linter.unusedVariables false
set_option maxRecDepth 100000
theorem impl_IsLeast.f.m (a0_0 : Int) (l0_1 : List Int) : Mono (fun k => impl_IsLeast.f k a0_0 l0_1) := fun k => impl_IsLeast.mono a0_0 l0_1 k
def impl_IsLeast.f.v (a0_0 : Int) (l0_1 : List Int) : Option (Bool × Bool) := lim (fun k => impl_IsLeast.f k a0_0 l0_1)
theorem impl_IsLeast.f.ends (a0_0 : Int) (l0_1 : List Int) {r : _} (h : impl_IsLeast.f.v a0_0 l0_1 = some r) : ∃ k, impl_IsLeast.f k a0_0 l0_1 = some r := lim_some h
theorem impl_IsLeast.f.v_eq (a0_0 : Int) (l0_1 : List Int) : impl_IsLeast.f.v a0_0 l0_1 = (impl_isLadder.f a0_0 l0_1).bind fun t531 => (if t531 = true then ((impl_needless.f.v a0_0 l0_1).bind fun t532 => (some ((t532 == 0), true))) else (some (false, false))) :=
 Eq.trans (b := lim (fun k => (impl_isLadder.f a0_0 l0_1).bind fun t531 => (if t531 = true then ((impl_needless.f k a0_0 l0_1).bind fun t532 => (some ((t532 == 0), true))) else (some (false, false))))) (congrArg lim (funext fun k => by with_reducible exact impl_IsLeast.f.eq_1 _ _ _ )) (lim_bindc_to (fun t531 => (lim_ite_to (lim_bind_to (impl_needless.f.m _ _ ) (fun t532 => (Mono.const _)) (fun t532 => (lim_const _))) (lim_const _))))
end
end Go.Proofs.Ytdeoeogdnagibaa.PLi
