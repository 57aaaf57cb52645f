/- The values of the printed functions, without rounds, and the equations that they meet. Written by a program of this session (vgen.py). -/
import Derived.Test.YtciboaihodoglaaPFsx4
import Derived.Test.YtciboaihodoglaaVFsx2
import Derived.Test.YtciboaihodoglaaVFsx3
import Derived.Test.YtciboaihodoglaaLim
namespace Go.Proofs.Ytciboaihodoglaa.PFs
open Go.RowKit Go.Proofs.YtciboaihodoglaaW.PrintWords Go.Proofs.YtciboaihodoglaaW.PrintLast Go.Proofs.YtciboaihodoglaaW.PrintMore Go.Proofs.YtciboaihodoglaaL
set_option linter.unusedVariables false
set_option maxRecDepth 100000
theorem spec_FirstSame.f.m (a0_0 : Int) (l0_1 : List Int) : Mono (fun k => spec_FirstSame.f k a0_0 l0_1) := fun k => spec_FirstSame.mono a0_0 l0_1 k
noncomputable def spec_FirstSame.f.v (a0_0 : Int) (l0_1 : List Int) : Option (Int × List Int × Bool) := lim (fun k => spec_FirstSame.f k a0_0 l0_1)
theorem spec_FirstSame.f.ends (a0_0 : Int) (l0_1 : List Int) {r : _} (h : spec_FirstSame.f.v a0_0 l0_1 = some r) : ∃ k, spec_FirstSame.f k a0_0 l0_1 = some r := lim_some h
theorem spec_FirstSame.f.v_eq (a0_0 : Int) (l0_1 : List Int) : spec_FirstSame.f.v a0_0 l0_1 = (spec_laGood.f.v a0_0 l0_1).bind fun t169 => (if t169 = true then ((spec_lsNormal.f.v l0_1).bind fun t170 => (some (a0_0, t170, true))) else (some (0, ([] : List Int), false))) :=
  Eq.trans (b := lim (fun k => (spec_laGood.f k a0_0 l0_1).bind fun t169 => (if t169 = true then ((spec_lsNormal.f k l0_1).bind fun t170 => (some (a0_0, t170, true))) else (some (0, ([] : List Int), false))))) (congrArg lim (funext fun k => by with_reducible exact spec_FirstSame.f.eq_1 _ _ _ )) (lim_bind_to (spec_laGood.f.m _ _ ) (fun t169 => (Mono.ite (Mono.bind (spec_lsNormal.f.m _ ) (fun t170 => (Mono.const _))) (Mono.const _))) (fun t169 => (lim_ite_to (lim_bind_to (spec_lsNormal.f.m _ ) (fun t170 => (Mono.const _)) (fun t170 => (lim_const _))) (lim_const _))))
end Go.Proofs.Ytciboaihodoglaa.PFs
