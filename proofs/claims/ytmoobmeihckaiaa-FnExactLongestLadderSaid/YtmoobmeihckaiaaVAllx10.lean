/- The values of the printed functions, without rounds, and the equations that they meet. Written by a program of this session (vgen.py). -/
import Derived.Test.YtmoobmeihckaiaaPAllx10
import Derived.Test.YtmoobmeihckaiaaVAllx7
import Derived.Test.YtmoobmeihckaiaaVAllx8
import Derived.Test.YtmoobmeihckaiaaVAllx9
import Derived.Test.YtmoobmeihckaiaaLim
namespace Go.Proofs.Ytmoobmeihckaiaa.PAll
open Go.RowKit Go.Proofs.YtmoobmeihckaiaaW.PrintWords Go.Proofs.YtmoobmeihckaiaaW.PrintLast Go.Proofs.YtmoobmeihckaiaaW.PrintMore Go.Proofs.YtmoobmeihckaiaaL
set_option linter.unusedVariables false
set_option maxRecDepth 100000
theorem impl_LongestLadder.f.m (a0 : Int) : Mono (fun k => impl_LongestLadder.f k a0) := fun k => impl_LongestLadder.mono a0 k
noncomputable def impl_LongestLadder.f.v (a0 : Int) : Option (Int × List Int × Bool) := lim (fun k => impl_LongestLadder.f k a0)
theorem impl_LongestLadder.f.ends (a0 : Int) {r : _} (h : impl_LongestLadder.f.v a0 = some r) : ∃ k, impl_LongestLadder.f k a0 = some r := lim_some h
theorem impl_LongestLadder.f.v_eq (a0 : Int) : impl_LongestLadder.f.v a0 = (impl_between.f a0 2 8).bind fun t274 => (if t274 = true then ((impl_identity.f.v a0).bind fun t275 => ((slices_Reverse_int_int.f.v t275).bind fun t278 => ((impl_least.f.v t278).bind fun bt279 => (some (bt279.1, bt279.2, true))))) else (some (0, ([] : List Int), false))) :=
  Eq.trans (b := lim (fun k => (impl_between.f a0 2 8).bind fun t274 => (if t274 = true then ((impl_identity.f k a0).bind fun t275 => ((slices_Reverse_int_int.f k t275).bind fun t278 => ((impl_least.f k t278).bind fun bt279 => (some (bt279.1, bt279.2, true))))) else (some (0, ([] : List Int), false))))) (congrArg lim (funext fun k => by with_reducible exact impl_LongestLadder.f.eq_1 _ _ )) (lim_bindc_to (fun t274 => (lim_ite_to (lim_bind_to (impl_identity.f.m _ ) (fun t275 => (Mono.bind (slices_Reverse_int_int.f.m _ ) (fun t278 => (Mono.bind (impl_least.f.m _ ) (fun bt279 => (Mono.const _)))))) (fun t275 => (lim_bind_to (slices_Reverse_int_int.f.m _ ) (fun t278 => (Mono.bind (impl_least.f.m _ ) (fun bt279 => (Mono.const _)))) (fun t278 => (lim_bind_to (impl_least.f.m _ ) (fun bt279 => (Mono.const _)) (fun bt279 => (lim_const _))))))) (lim_const _))))
end Go.Proofs.Ytmoobmeihckaiaa.PAll
