/- The values of the printed functions, without rounds, and the equations that they meet. Written by a program of this session (vgen.py). -/
import Derived.Test.YtldcjlpbodpmbaaDoorPMvx6
import Derived.Test.YtldcjlpbodpmbaaDoorVMvx2
import Derived.Test.YtldcjlpbodpmbaaDoorLim
namespace Go.Proofs.YtldcjlpbodpmbaaDoor.PMv
open Go.RowKit Go.Proofs.YtldcjlpbodpmbaaDoorW.PrintWords Go.Proofs.YtldcjlpbodpmbaaDoorW.PrintLast Go.Proofs.YtldcjlpbodpmbaaDoorW.PrintMore Go.Proofs.YtldcjlpbodpmbaaDoorL
set_option linter.unusedVariables false
set_option maxRecDepth 100000
theorem spec_lsMake.f.m (a0_0 : Int) (l0_1 : List Int) (a1 : Int) (a2 : Int) : Mono (fun k => spec_lsMake.f k a0_0 l0_1 a1 a2) := fun k => spec_lsMake.mono a0_0 l0_1 a1 a2 k
noncomputable def spec_lsMake.f.v (a0_0 : Int) (l0_1 : List Int) (a1 : Int) (a2 : Int) : Option (Int × List Int × Bool) := lim (fun k => spec_lsMake.f k a0_0 l0_1 a1 a2)
theorem spec_lsMake.f.ends (a0_0 : Int) (l0_1 : List Int) (a1 : Int) (a2 : Int) {r : _} (h : spec_lsMake.f.v a0_0 l0_1 a1 a2 = some r) : ∃ k, spec_lsMake.f k a0_0 l0_1 a1 a2 = some r := lim_some h
theorem spec_lsMake.f.v_eq (a0_0 : Int) (l0_1 : List Int) (a1 : Int) (a2 : Int) : spec_lsMake.f.v a0_0 l0_1 a1 a2 = (spec_laGood.f.v a0_0 l0_1).bind fun t183 => (if t183 = true then (if a1 = 115 then ((spec_lsSlide.f l0_1 a2).bind fun bt184 => (if bt184.2 = true then (some (a0_0, bt184.1, true)) else (some (0, ([] : List Int), false)))) else (if a1 = 102 then ((spec_lsFlip.f l0_1 a2).bind fun bt188 => (if bt188.2 = true then (some (a0_0, bt188.1, true)) else (some (0, ([] : List Int), false)))) else (if a1 = 100 then ((spec_lsDrop.f l0_1 a2).bind fun bt192 => (if bt192.2 = true then (some (a0_0, bt192.1, true)) else (some (0, ([] : List Int), false)))) else (some (0, ([] : List Int), false))))) else (some (0, ([] : List Int), false))) :=
  Eq.trans (b := lim (fun k => (spec_laGood.f k a0_0 l0_1).bind fun t183 => (if t183 = true then (if a1 = 115 then ((spec_lsSlide.f l0_1 a2).bind fun bt184 => (if bt184.2 = true then (some (a0_0, bt184.1, true)) else (some (0, ([] : List Int), false)))) else (if a1 = 102 then ((spec_lsFlip.f l0_1 a2).bind fun bt188 => (if bt188.2 = true then (some (a0_0, bt188.1, true)) else (some (0, ([] : List Int), false)))) else (if a1 = 100 then ((spec_lsDrop.f l0_1 a2).bind fun bt192 => (if bt192.2 = true then (some (a0_0, bt192.1, true)) else (some (0, ([] : List Int), false)))) else (some (0, ([] : List Int), false))))) else (some (0, ([] : List Int), false))))) (congrArg lim (funext fun k => by with_reducible exact spec_lsMake.f.eq_1 _ _ _ _ _ )) (lim_bind_to (spec_laGood.f.m _ _ ) (fun t183 => (Mono.const _)) (fun t183 => (lim_const _)))
end Go.Proofs.YtldcjlpbodpmbaaDoor.PMv
