/- The values of the printed functions, without rounds, and the equations that they meet. Written by a program of this session (vgen.py). -/
import Derived.Test.YtheeffchjdkhnaaPRlx10
import Derived.Test.YtheeffchjdkhnaaVRlx9
import Derived.Test.YtheeffchjdkhnaaLim
namespace Go.Proofs.Ytheeffchjdkhnaa.PRl
open Go.RowKit Go.Proofs.YtheeffchjdkhnaaW.PrintWords Go.Proofs.YtheeffchjdkhnaaW.PrintLast Go.Proofs.YtheeffchjdkhnaaW.PrintMore Go.Proofs.YtheeffchjdkhnaaL
set_option linter.unusedVariables false
set_option maxRecDepth 100000
theorem impl_needless.f.m (a0_0 : Int) (l0_1 : List Int) : Mono (fun k => impl_needless.f k a0_0 l0_1) := fun k => impl_needless.mono a0_0 l0_1 k
noncomputable def impl_needless.f.v (a0_0 : Int) (l0_1 : List Int) : Option (Int) := lim (fun k => impl_needless.f k a0_0 l0_1)
theorem impl_needless.f.ends (a0_0 : Int) (l0_1 : List Int) {r : _} (h : impl_needless.f.v a0_0 l0_1 = some r) : ∃ k, impl_needless.f k a0_0 l0_1 = some r := lim_some h
theorem impl_isCountedLadder.f.m (a0_0 : Int) (l0_1 : List Int) : Mono (fun k => impl_isCountedLadder.f k a0_0 l0_1) := fun k => impl_isCountedLadder.mono a0_0 l0_1 k
noncomputable def impl_isCountedLadder.f.v (a0_0 : Int) (l0_1 : List Int) : Option (Bool) := lim (fun k => impl_isCountedLadder.f k a0_0 l0_1)
theorem impl_isCountedLadder.f.ends (a0_0 : Int) (l0_1 : List Int) {r : _} (h : impl_isCountedLadder.f.v a0_0 l0_1 = some r) : ∃ k, impl_isCountedLadder.f k a0_0 l0_1 = some r := lim_some h
theorem impl_needless.f.v_eq (a0_0 : Int) (l0_1 : List Int) : impl_needless.f.v a0_0 l0_1 = (impl_result.f.v a0_0 l0_1).bind fun t230 => ((impl_inversions.f.v t230).bind fun t233 => (some (wrap64 ((l0_1.length : Int) - t233)))) :=
  Eq.trans (b := lim (fun k => (impl_result.f k a0_0 l0_1).bind fun t230 => ((impl_inversions.f k t230).bind fun t233 => (some (wrap64 ((l0_1.length : Int) - t233)))))) (congrArg lim (funext fun k => by with_reducible exact impl_needless.f.eq_1 _ _ _ )) (lim_bind_to (impl_result.f.m _ _ ) (fun t230 => (Mono.bind (impl_inversions.f.m _ ) (fun t233 => (Mono.const _)))) (fun t230 => (lim_bind_to (impl_inversions.f.m _ ) (fun t233 => (Mono.const _)) (fun t233 => (lim_const _)))))
theorem impl_isCountedLadder.f.v_eq (a0_0 : Int) (l0_1 : List Int) : impl_isCountedLadder.f.v a0_0 l0_1 = (impl_isLadder.f a0_0 l0_1).bind fun t235 => (if t235 = true then (if a0_0 ≤ 6 then ((impl_needless.f.v a0_0 l0_1).bind fun t236 => (some (t236 == 0))) else (some false)) else (some false)) :=
  Eq.trans (b := lim (fun k => (impl_isLadder.f a0_0 l0_1).bind fun t235 => (if t235 = true then (if a0_0 ≤ 6 then ((impl_needless.f k a0_0 l0_1).bind fun t236 => (some (t236 == 0))) else (some false)) else (some false)))) (congrArg lim (funext fun k => by with_reducible exact impl_isCountedLadder.f.eq_1 _ _ _ )) (lim_bindc_to (fun t235 => (lim_ite_to (lim_ite_to (lim_bind_to (impl_needless.f.m _ _ ) (fun t236 => (Mono.const _)) (fun t236 => (lim_const _))) (lim_const _)) (lim_const _))))
end Go.Proofs.Ytheeffchjdkhnaa.PRl
