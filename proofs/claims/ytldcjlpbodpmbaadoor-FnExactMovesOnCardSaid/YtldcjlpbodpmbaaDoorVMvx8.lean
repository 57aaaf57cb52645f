/- The values of the printed functions, without rounds, and the equations that they meet. Written by a program of this session (vgen.py). -/
import Derived.Test.YtldcjlpbodpmbaaDoorPMvx8
import Derived.Test.YtldcjlpbodpmbaaDoorVMvx2
import Derived.Test.YtldcjlpbodpmbaaDoorVMvx7
import Derived.Test.YtldcjlpbodpmbaaDoorLim
namespace Go.Proofs.YtldcjlpbodpmbaaDoor.PMv
open Go.RowKit Go.Proofs.YtldcjlpbodpmbaaDoorW.PrintWords Go.Proofs.YtldcjlpbodpmbaaDoorW.PrintLast Go.Proofs.YtldcjlpbodpmbaaDoorW.PrintMore Go.Proofs.YtldcjlpbodpmbaaDoorL
set_option linter.unusedVariables false
set_option maxRecDepth 100000
theorem spec_MovesOn.f.m (a0_0 : Int) (l0_1 : List Int) : Mono (fun k => spec_MovesOn.f k a0_0 l0_1) := fun k => spec_MovesOn.mono a0_0 l0_1 k
noncomputable def spec_MovesOn.f.v (a0_0 : Int) (l0_1 : List Int) : Option (List ByteArray × Bool) := lim (fun k => spec_MovesOn.f k a0_0 l0_1)
theorem spec_MovesOn.f.ends (a0_0 : Int) (l0_1 : List Int) {r : _} (h : spec_MovesOn.f.v a0_0 l0_1 = some r) : ∃ k, spec_MovesOn.f k a0_0 l0_1 = some r := lim_some h
theorem spec_MovesOn.f.v_eq (a0_0 : Int) (l0_1 : List Int) : spec_MovesOn.f.v a0_0 l0_1 = (spec_laGood.f.v a0_0 l0_1).bind fun t215 => (if t215 = true then ((spec_lsMoves.f.v a0_0 l0_1).bind fun t216 => (some (t216, true))) else (some (([] : List ByteArray), false))) :=
  Eq.trans (b := lim (fun k => (spec_laGood.f k a0_0 l0_1).bind fun t215 => (if t215 = true then ((spec_lsMoves.f k a0_0 l0_1).bind fun t216 => (some (t216, true))) else (some (([] : List ByteArray), false))))) (congrArg lim (funext fun k => by with_reducible exact spec_MovesOn.f.eq_1 _ _ _ )) (lim_bind_to (spec_laGood.f.m _ _ ) (fun t215 => (Mono.ite (Mono.bind (spec_lsMoves.f.m _ _ ) (fun t216 => (Mono.const _))) (Mono.const _))) (fun t215 => (lim_ite_to (lim_bind_to (spec_lsMoves.f.m _ _ ) (fun t216 => (Mono.const _)) (fun t216 => (lim_const _))) (lim_const _))))
end Go.Proofs.YtldcjlpbodpmbaaDoor.PMv
