/- The values of the printed functions, without rounds, and the equations that they meet. Written by a program of this session (vgen.py). -/
import Derived.Test.YtmoobmeihckaiaaPDrx4
import Derived.Test.YtmoobmeihckaiaaVDrx2
import Derived.Test.YtmoobmeihckaiaaLim
namespace Go.Proofs.Ytmoobmeihckaiaa.PDr
open Go.RowKit Go.Proofs.YtmoobmeihckaiaaW.PrintWords Go.Proofs.YtmoobmeihckaiaaW.PrintLast Go.Proofs.YtmoobmeihckaiaaW.PrintMore Go.Proofs.YtmoobmeihckaiaaL
set_option linter.unusedVariables false
set_option maxRecDepth 100000
theorem spec_lsMake.f.m (a0_0 : Int) (l0_1 : List Int) (a1 : Int) (a2 : Int) : Mono (fun k => spec_lsMake.f k a0_0 l0_1 a1 a2) := fun k => spec_lsMake.mono a0_0 l0_1 a1 a2 k
noncomputable def spec_lsMake.f.v (a0_0 : Int) (l0_1 : List Int) (a1 : Int) (a2 : Int) : Option (Int × List Int × Bool) := lim (fun k => spec_lsMake.f k a0_0 l0_1 a1 a2)
theorem spec_lsMake.f.ends (a0_0 : Int) (l0_1 : List Int) (a1 : Int) (a2 : Int) {r : _} (h : spec_lsMake.f.v a0_0 l0_1 a1 a2 = some r) : ∃ k, spec_lsMake.f k a0_0 l0_1 a1 a2 = some r := lim_some h
theorem spec_DropPair.f.m (a0_0 : Int) (l0_1 : List Int) (a1 : Int) : Mono (fun k => spec_DropPair.f k a0_0 l0_1 a1) := fun k => spec_DropPair.mono a0_0 l0_1 a1 k
noncomputable def spec_DropPair.f.v (a0_0 : Int) (l0_1 : List Int) (a1 : Int) : Option (Int × List Int × Bool) := lim (fun k => spec_DropPair.f k a0_0 l0_1 a1)
theorem spec_DropPair.f.ends (a0_0 : Int) (l0_1 : List Int) (a1 : Int) {r : _} (h : spec_DropPair.f.v a0_0 l0_1 a1 = some r) : ∃ k, spec_DropPair.f k a0_0 l0_1 a1 = some r := lim_some h
theorem spec_lsMake.f.v_eq (a0_0 : Int) (l0_1 : List Int) (a1 : Int) (a2 : Int) : spec_lsMake.f.v a0_0 l0_1 a1 a2 = (spec_laGood.f.v a0_0 l0_1).bind fun t157 => (if t157 = true then (if a1 = 115 then ((spec_lsSlide.f l0_1 a2).bind fun bt158 => (if bt158.2 = true then (some (a0_0, bt158.1, true)) else (some (0, ([] : List Int), false)))) else (if a1 = 102 then ((spec_lsFlip.f l0_1 a2).bind fun bt162 => (if bt162.2 = true then (some (a0_0, bt162.1, true)) else (some (0, ([] : List Int), false)))) else (if a1 = 100 then ((spec_lsDrop.f l0_1 a2).bind fun bt166 => (if bt166.2 = true then (some (a0_0, bt166.1, true)) else (some (0, ([] : List Int), false)))) else (some (0, ([] : List Int), false))))) else (some (0, ([] : List Int), false))) :=
  Eq.trans (b := lim (fun k => (spec_laGood.f k a0_0 l0_1).bind fun t157 => (if t157 = true then (if a1 = 115 then ((spec_lsSlide.f l0_1 a2).bind fun bt158 => (if bt158.2 = true then (some (a0_0, bt158.1, true)) else (some (0, ([] : List Int), false)))) else (if a1 = 102 then ((spec_lsFlip.f l0_1 a2).bind fun bt162 => (if bt162.2 = true then (some (a0_0, bt162.1, true)) else (some (0, ([] : List Int), false)))) else (if a1 = 100 then ((spec_lsDrop.f l0_1 a2).bind fun bt166 => (if bt166.2 = true then (some (a0_0, bt166.1, true)) else (some (0, ([] : List Int), false)))) else (some (0, ([] : List Int), false))))) else (some (0, ([] : List Int), false))))) (congrArg lim (funext fun k => by with_reducible exact spec_lsMake.f.eq_1 _ _ _ _ _ )) (lim_bind_to (spec_laGood.f.m _ _ ) (fun t157 => (Mono.const _)) (fun t157 => (lim_const _)))
theorem spec_DropPair.f.v_eq (a0_0 : Int) (l0_1 : List Int) (a1 : Int) : spec_DropPair.f.v a0_0 l0_1 a1 = (spec_lsMake.f.v a0_0 l0_1 100 a1).bind fun bt172 => (some (bt172.1, bt172.2.1, bt172.2.2)) :=
  Eq.trans (b := lim (fun k => (spec_lsMake.f k a0_0 l0_1 100 a1).bind fun bt172 => (some (bt172.1, bt172.2.1, bt172.2.2)))) (congrArg lim (funext fun k => by with_reducible exact spec_DropPair.f.eq_1 _ _ _ _ )) (lim_bind_to (spec_lsMake.f.m _ _ _ _ ) (fun bt172 => (Mono.const _)) (fun bt172 => (lim_const _)))
end Go.Proofs.Ytmoobmeihckaiaa.PDr
