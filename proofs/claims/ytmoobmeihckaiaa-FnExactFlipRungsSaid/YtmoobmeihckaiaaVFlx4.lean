/- The values of the printed functions, without rounds, and the equations that they meet. Written by a program of this session (vgen.py). -/
import Derived.Test.YtmoobmeihckaiaaPFlx4
import Derived.Test.YtmoobmeihckaiaaVFlx2
import Derived.Test.YtmoobmeihckaiaaLim
namespace Go.Proofs.Ytmoobmeihckaiaa.PFl
open Go.RowKit Go.Proofs.YtmoobmeihckaiaaW.PrintWords Go.Proofs.YtmoobmeihckaiaaW.PrintLast Go.Proofs.YtmoobmeihckaiaaW.PrintMore Go.Proofs.YtmoobmeihckaiaaL
set_option linter.unusedVariables false
set_option maxRecDepth 100000
theorem spec_lsMake.f.m (a0_0 : Int) (l0_1 : List Int) (a1 : Int) (a2 : Int) : Mono (fun k => spec_lsMake.f k a0_0 l0_1 a1 a2) := fun k => spec_lsMake.mono a0_0 l0_1 a1 a2 k
noncomputable def spec_lsMake.f.v (a0_0 : Int) (l0_1 : List Int) (a1 : Int) (a2 : Int) : Option (Int × List Int × Bool) := lim (fun k => spec_lsMake.f k a0_0 l0_1 a1 a2)
theorem spec_lsMake.f.ends (a0_0 : Int) (l0_1 : List Int) (a1 : Int) (a2 : Int) {r : _} (h : spec_lsMake.f.v a0_0 l0_1 a1 a2 = some r) : ∃ k, spec_lsMake.f k a0_0 l0_1 a1 a2 = some r := lim_some h
theorem spec_FlipRungs.f.m (a0_0 : Int) (l0_1 : List Int) (a1 : Int) : Mono (fun k => spec_FlipRungs.f k a0_0 l0_1 a1) := fun k => spec_FlipRungs.mono a0_0 l0_1 a1 k
noncomputable def spec_FlipRungs.f.v (a0_0 : Int) (l0_1 : List Int) (a1 : Int) : Option (Int × List Int × Bool) := lim (fun k => spec_FlipRungs.f k a0_0 l0_1 a1)
theorem spec_FlipRungs.f.ends (a0_0 : Int) (l0_1 : List Int) (a1 : Int) {r : _} (h : spec_FlipRungs.f.v a0_0 l0_1 a1 = some r) : ∃ k, spec_FlipRungs.f k a0_0 l0_1 a1 = some r := lim_some h
theorem spec_lsMake.f.v_eq (a0_0 : Int) (l0_1 : List Int) (a1 : Int) (a2 : Int) : spec_lsMake.f.v a0_0 l0_1 a1 a2 = (spec_laGood.f.v a0_0 l0_1).bind fun t155 => (if t155 = true then (if a1 = 115 then ((spec_lsSlide.f l0_1 a2).bind fun bt156 => (if bt156.2 = true then (some (a0_0, bt156.1, true)) else (some (0, ([] : List Int), false)))) else (if a1 = 102 then ((spec_lsFlip.f l0_1 a2).bind fun bt160 => (if bt160.2 = true then (some (a0_0, bt160.1, true)) else (some (0, ([] : List Int), false)))) else (if a1 = 100 then ((spec_lsDrop.f l0_1 a2).bind fun bt164 => (if bt164.2 = true then (some (a0_0, bt164.1, true)) else (some (0, ([] : List Int), false)))) else (some (0, ([] : List Int), false))))) else (some (0, ([] : List Int), false))) :=
  Eq.trans (b := lim (fun k => (spec_laGood.f k a0_0 l0_1).bind fun t155 => (if t155 = true then (if a1 = 115 then ((spec_lsSlide.f l0_1 a2).bind fun bt156 => (if bt156.2 = true then (some (a0_0, bt156.1, true)) else (some (0, ([] : List Int), false)))) else (if a1 = 102 then ((spec_lsFlip.f l0_1 a2).bind fun bt160 => (if bt160.2 = true then (some (a0_0, bt160.1, true)) else (some (0, ([] : List Int), false)))) else (if a1 = 100 then ((spec_lsDrop.f l0_1 a2).bind fun bt164 => (if bt164.2 = true then (some (a0_0, bt164.1, true)) else (some (0, ([] : List Int), false)))) else (some (0, ([] : List Int), false))))) else (some (0, ([] : List Int), false))))) (congrArg lim (funext fun k => by with_reducible exact spec_lsMake.f.eq_1 _ _ _ _ _ )) (lim_bind_to (spec_laGood.f.m _ _ ) (fun t155 => (Mono.const _)) (fun t155 => (lim_const _)))
theorem spec_FlipRungs.f.v_eq (a0_0 : Int) (l0_1 : List Int) (a1 : Int) : spec_FlipRungs.f.v a0_0 l0_1 a1 = (spec_lsMake.f.v a0_0 l0_1 102 a1).bind fun bt170 => (some (bt170.1, bt170.2.1, bt170.2.2)) :=
  Eq.trans (b := lim (fun k => (spec_lsMake.f k a0_0 l0_1 102 a1).bind fun bt170 => (some (bt170.1, bt170.2.1, bt170.2.2)))) (congrArg lim (funext fun k => by with_reducible exact spec_FlipRungs.f.eq_1 _ _ _ _ )) (lim_bind_to (spec_lsMake.f.m _ _ _ _ ) (fun bt170 => (Mono.const _)) (fun bt170 => (lim_const _)))
end Go.Proofs.Ytmoobmeihckaiaa.PFl
