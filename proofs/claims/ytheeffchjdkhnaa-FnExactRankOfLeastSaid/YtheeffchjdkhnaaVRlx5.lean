/- The values of the printed functions, without rounds, and the equations that they meet. Written by a program of this session (vgen.py). -/
import Derived.Test.YtheeffchjdkhnaaPRlx5
import Derived.Test.YtheeffchjdkhnaaVRlx3
import Derived.Test.YtheeffchjdkhnaaVRlx4
import Derived.Test.YtheeffchjdkhnaaLim
namespace Go.Proofs.Ytheeffchjdkhnaa.PRl
open Go.RowKit Go.Proofs.YtheeffchjdkhnaaW.PrintWords Go.Proofs.YtheeffchjdkhnaaW.PrintLast Go.Proofs.YtheeffchjdkhnaaW.PrintMore Go.Proofs.YtheeffchjdkhnaaL
set_option linter.unusedVariables false
set_option maxRecDepth 100000
theorem spec_alLadder.f.m (a0_0 : Int) (l0_1 : List Int) : Mono (fun k => spec_alLadder.f k a0_0 l0_1) := fun k => spec_alLadder.mono a0_0 l0_1 k
noncomputable def spec_alLadder.f.v (a0_0 : Int) (l0_1 : List Int) : Option (Bool) := lim (fun k => spec_alLadder.f k a0_0 l0_1)
theorem spec_alLadder.f.ends (a0_0 : Int) (l0_1 : List Int) {r : _} (h : spec_alLadder.f.v a0_0 l0_1 = some r) : ∃ k, spec_alLadder.f k a0_0 l0_1 = some r := lim_some h
theorem spec_alLadder.f.v_eq (a0_0 : Int) (l0_1 : List Int) : spec_alLadder.f.v a0_0 l0_1 = (spec_laGood.f.v a0_0 l0_1).bind fun t156 => (if t156 = true then (if a0_0 ≤ 6 then ((spec_laResult.f.v a0_0 l0_1).bind fun t157 => ((spec_lsInversions.f.v t157).bind fun t160 => (some ((l0_1.length : Int) == (t160.length : Int))))) else (some false)) else (some false)) :=
  Eq.trans (b := lim (fun k => (spec_laGood.f k a0_0 l0_1).bind fun t156 => (if t156 = true then (if a0_0 ≤ 6 then ((spec_laResult.f k a0_0 l0_1).bind fun t157 => ((spec_lsInversions.f k t157).bind fun t160 => (some ((l0_1.length : Int) == (t160.length : Int))))) else (some false)) else (some false)))) (congrArg lim (funext fun k => by with_reducible exact spec_alLadder.f.eq_1 _ _ _ )) (lim_bind_to (spec_laGood.f.m _ _ ) (fun t156 => (Mono.ite (Mono.ite (Mono.bind (spec_laResult.f.m _ _ ) (fun t157 => (Mono.bind (spec_lsInversions.f.m _ ) (fun t160 => (Mono.const _))))) (Mono.const _)) (Mono.const _))) (fun t156 => (lim_ite_to (lim_ite_to (lim_bind_to (spec_laResult.f.m _ _ ) (fun t157 => (Mono.bind (spec_lsInversions.f.m _ ) (fun t160 => (Mono.const _)))) (fun t157 => (lim_bind_to (spec_lsInversions.f.m _ ) (fun t160 => (Mono.const _)) (fun t160 => (lim_const _))))) (lim_const _)) (lim_const _))))
end Go.Proofs.Ytheeffchjdkhnaa.PRl
