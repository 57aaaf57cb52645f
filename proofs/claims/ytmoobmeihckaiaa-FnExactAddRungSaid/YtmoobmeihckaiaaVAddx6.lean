/- The values of the printed functions, without rounds, and the equations that they meet. Written by a program of this session (vgen.py). -/
import Derived.Test.YtmoobmeihckaiaaPAddx6
import Derived.Test.YtmoobmeihckaiaaLim
namespace Go.Proofs.Ytmoobmeihckaiaa.PAdd
open Go.RowKit Go.Proofs.YtmoobmeihckaiaaW.PrintWords Go.Proofs.YtmoobmeihckaiaaW.PrintLast Go.Proofs.YtmoobmeihckaiaaW.PrintMore Go.Proofs.YtmoobmeihckaiaaL
set_option linter.unusedVariables false
set_option maxRecDepth 100000
theorem impl_AddRung.j0.m (x1 : Int) (x2 : Int) (x18 : Bool) (x183000 : Int) (x183001 : List Int) : Mono (fun k => impl_AddRung.j0 k x1 x2 x18 x183000 x183001) := fun k => (impl_AddRung.mono_l k) x1 x2 x18 x183000 x183001
noncomputable def impl_AddRung.j0.v (x1 : Int) (x2 : Int) (x18 : Bool) (x183000 : Int) (x183001 : List Int) : Option (Int × List Int × Bool) := lim (fun k => impl_AddRung.j0 k x1 x2 x18 x183000 x183001)
theorem impl_AddRung.f.m (a0_0 : Int) (l0_1 : List Int) (a1 : Int) (a2 : Int) : Mono (fun k => impl_AddRung.f k a0_0 l0_1 a1 a2) := fun k => impl_AddRung.mono a0_0 l0_1 a1 a2 k
noncomputable def impl_AddRung.f.v (a0_0 : Int) (l0_1 : List Int) (a1 : Int) (a2 : Int) : Option (Int × List Int × Bool) := lim (fun k => impl_AddRung.f k a0_0 l0_1 a1 a2)
theorem impl_AddRung.f.ends (a0_0 : Int) (l0_1 : List Int) (a1 : Int) (a2 : Int) {r : _} (h : impl_AddRung.f.v a0_0 l0_1 a1 a2 = some r) : ∃ k, impl_AddRung.f k a0_0 l0_1 a1 a2 = some r := lim_some h
theorem impl_AddRung.j0.v_eq (x1 : Int) (x2 : Int) (x18 : Bool) (x183000 : Int) (x183001 : List Int) : impl_AddRung.j0.v x1 x2 x18 x183000 x183001 = if x18 = true then (some (0, ([] : List Int), false)) else ((slices_Clone_int_int.f x183001).bind fun t186 => ((slices_Insert_int_int.f t186 x1 (([x2] : List Int))).bind fun t192 => ((impl_checked.f x183000 t192).bind fun bt195 => (some (bt195.1, bt195.2.1, bt195.2.2))))) :=
  Eq.trans (b := lim (fun k => if x18 = true then (some (0, ([] : List Int), false)) else ((slices_Clone_int_int.f x183001).bind fun t186 => ((slices_Insert_int_int.f t186 x1 (([x2] : List Int))).bind fun t192 => ((impl_checked.f x183000 t192).bind fun bt195 => (some (bt195.1, bt195.2.1, bt195.2.2))))))) (lim_eq (impl_AddRung.j0.m x1 x2 x18 x183000 x183001) (fun k => by with_reducible exact impl_AddRung.j0.eq_2 _ _ _ _ _ _ )) (lim_const _)
theorem impl_AddRung.f.v_eq (a0_0 : Int) (l0_1 : List Int) (a1 : Int) (a2 : Int) : impl_AddRung.f.v a0_0 l0_1 a1 a2 = (impl_isLadder.f a0_0 l0_1).bind fun t184 => (if t184 = true then ((impl_between.f a1 0 (l0_1.length : Int)).bind fun t185 => (impl_AddRung.j0.v a1 a2 (!t185) a0_0 l0_1)) else (impl_AddRung.j0.v a1 a2 true a0_0 l0_1)) :=
  Eq.trans (b := lim (fun k => (impl_isLadder.f a0_0 l0_1).bind fun t184 => (if t184 = true then ((impl_between.f a1 0 (l0_1.length : Int)).bind fun t185 => (impl_AddRung.j0 k a1 a2 (!t185) a0_0 l0_1)) else (impl_AddRung.j0 k a1 a2 true a0_0 l0_1)))) (congrArg lim (funext fun k => by with_reducible exact impl_AddRung.f.eq_1 _ _ _ _ _ )) (lim_bindc_to (fun t184 => (lim_ite_to (lim_bindc_to (fun t185 => rfl)) rfl)))
end Go.Proofs.Ytmoobmeihckaiaa.PAdd
