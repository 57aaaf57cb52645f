/- The values of the printed functions, without rounds, and the equations that they meet. Written by a program of this session (vgen.py). -/
import Derived.Test.YtldcjlpbodpmbaaDoorPMmx6
import Derived.Test.YtldcjlpbodpmbaaDoorVMmx2
import Derived.Test.YtldcjlpbodpmbaaDoorLim
namespace Go.Proofs.YtldcjlpbodpmbaaDoor.PMm
open Go.RowKit Go.Proofs.YtldcjlpbodpmbaaDoorW.PrintWords Go.Proofs.YtldcjlpbodpmbaaDoorW.PrintLast Go.Proofs.YtldcjlpbodpmbaaDoorW.PrintMore Go.Proofs.YtldcjlpbodpmbaaDoorL
set_option linter.unusedVariables false
set_option maxRecDepth 100000
theorem spec_lsMake.f.m (a0_0 : Int) (l0_1 : List Int) (a1 : Int) (a2 : Int) : Mono (fun k => spec_lsMake.f k a0_0 l0_1 a1 a2) := fun k => spec_lsMake.mono a0_0 l0_1 a1 a2 k
noncomputable def spec_lsMake.f.v (a0_0 : Int) (l0_1 : List Int) (a1 : Int) (a2 : Int) : Option (Int × List Int × Bool) := lim (fun k => spec_lsMake.f k a0_0 l0_1 a1 a2)
theorem spec_lsMake.f.ends (a0_0 : Int) (l0_1 : List Int) (a1 : Int) (a2 : Int) {r : _} (h : spec_lsMake.f.v a0_0 l0_1 a1 a2 = some r) : ∃ k, spec_lsMake.f k a0_0 l0_1 a1 a2 = some r := lim_some h
theorem spec_lsMake.f.v_eq (a0_0 : Int) (l0_1 : List Int) (a1 : Int) (a2 : Int) : spec_lsMake.f.v a0_0 l0_1 a1 a2 = (spec_laGood.f.v a0_0 l0_1).bind fun t190 => (if t190 = true then (if a1 = 115 then ((spec_lsSlide.f l0_1 a2).bind fun bt191 => (if bt191.2 = true then (some (a0_0, bt191.1, true)) else (some (0, ([] : List Int), false)))) else (if a1 = 102 then ((spec_lsFlip.f l0_1 a2).bind fun bt195 => (if bt195.2 = true then (some (a0_0, bt195.1, true)) else (some (0, ([] : List Int), false)))) else (if a1 = 100 then ((spec_lsDrop.f l0_1 a2).bind fun bt199 => (if bt199.2 = true then (some (a0_0, bt199.1, true)) else (some (0, ([] : List Int), false)))) else (some (0, ([] : List Int), false))))) else (some (0, ([] : List Int), false))) :=
  Eq.trans (b := lim (fun k => (spec_laGood.f k a0_0 l0_1).bind fun t190 => (if t190 = true then (if a1 = 115 then ((spec_lsSlide.f l0_1 a2).bind fun bt191 => (if bt191.2 = true then (some (a0_0, bt191.1, true)) else (some (0, ([] : List Int), false)))) else (if a1 = 102 then ((spec_lsFlip.f l0_1 a2).bind fun bt195 => (if bt195.2 = true then (some (a0_0, bt195.1, true)) else (some (0, ([] : List Int), false)))) else (if a1 = 100 then ((spec_lsDrop.f l0_1 a2).bind fun bt199 => (if bt199.2 = true then (some (a0_0, bt199.1, true)) else (some (0, ([] : List Int), false)))) else (some (0, ([] : List Int), false))))) else (some (0, ([] : List Int), false))))) (congrArg lim (funext fun k => by with_reducible exact spec_lsMake.f.eq_1 _ _ _ _ _ )) (lim_bind_to (spec_laGood.f.m _ _ ) (fun t190 => (Mono.const _)) (fun t190 => (lim_const _)))
end Go.Proofs.YtldcjlpbodpmbaaDoor.PMm
