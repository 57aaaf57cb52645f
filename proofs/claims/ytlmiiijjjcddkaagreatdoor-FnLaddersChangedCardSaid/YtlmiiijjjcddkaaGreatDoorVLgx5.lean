/- The values of the printed functions, without rounds, and the equations that they meet. Written by a program of this session (vgen.py). -/
import Derived.Test.YtlmiiijjjcddkaaGreatDoorPLgx5
import Derived.Test.YtlmiiijjjcddkaaGreatDoorVLgx2
import Derived.Test.YtlmiiijjjcddkaaGreatDoorLim
namespace Go.Proofs.YtlmiiijjjcddkaaGreatDoor.PLg
noncomputable section
open Go.RowKit Go.Proofs.YtlmiiijjjcddkaaGreatDoorW.PrintWords Go.Proofs.YtlmiiijjjcddkaaGreatDoorW.PrintLast Go.Proofs.YtlmiiijjjcddkaaGreatDoorW.PrintMore Go.Proofs.YtlmiiijjjcddkaaGreatDoorL
set_option linter.unusedVariables false
set_option maxRecDepth 100000
theorem impl_AddRung.j0.m (x1 x2 : Int) (x18 : Bool) (x382000 : Int) (x382001 : List Int) : Mono (fun k => impl_AddRung.j0 k x1 x2 x18 x382000 x382001) := fun k => (impl_AddRung.mono_l k) x1 x2 x18 x382000 x382001
def impl_AddRung.j0.v (x1 x2 : Int) (x18 : Bool) (x382000 : Int) (x382001 : List Int) : Option (Int × List Int × Bool) := lim (fun k => impl_AddRung.j0 k x1 x2 x18 x382000 x382001)
theorem impl_AddRung.f.m (a0_0 : Int) (l0_1 : List Int) (a1 a2 : Int) : Mono (fun k => impl_AddRung.f k a0_0 l0_1 a1 a2) := fun k => impl_AddRung.mono a0_0 l0_1 a1 a2 k
def impl_AddRung.f.v (a0_0 : Int) (l0_1 : List Int) (a1 a2 : Int) : Option (Int × List Int × Bool) := lim (fun k => impl_AddRung.f k a0_0 l0_1 a1 a2)
theorem impl_AddRung.f.ends (a0_0 : Int) (l0_1 : List Int) (a1 a2 : Int) {r : _} (h : impl_AddRung.f.v a0_0 l0_1 a1 a2 = some r) : ∃ k, impl_AddRung.f k a0_0 l0_1 a1 a2 = some r := lim_some h
theorem spec_laIf.f.m (a0_0 : Int) (l0_1 : List Int) : Mono (fun k => spec_laIf.f k a0_0 l0_1) := fun k => spec_laIf.mono a0_0 l0_1 k
def spec_laIf.f.v (a0_0 : Int) (l0_1 : List Int) : Option (Int × List Int × Bool) := lim (fun k => spec_laIf.f k a0_0 l0_1)
theorem spec_laIf.f.ends (a0_0 : Int) (l0_1 : List Int) {r : _} (h : spec_laIf.f.v a0_0 l0_1 = some r) : ∃ k, spec_laIf.f k a0_0 l0_1 = some r := lim_some h
theorem impl_AddRung.j0.v_eq (x1 x2 : Int) (x18 : Bool) (x382000 : Int) (x382001 : List Int) : impl_AddRung.j0.v x1 x2 x18 x382000 x382001 = if x18 = true then (some (0, ([] : List Int), false)) else ((slices_Clone_int_int.f x382001).bind fun t385 => ((slices_Insert_int_int.f t385 x1 (([x2] : List Int))).bind fun t391 => ((impl_checked.f x382000 t391).bind fun bt394 => (some (bt394.1, bt394.2.1, bt394.2.2))))) :=
 Eq.trans (b := lim (fun k => if x18 = true then (some (0, ([] : List Int), false)) else ((slices_Clone_int_int.f x382001).bind fun t385 => ((slices_Insert_int_int.f t385 x1 (([x2] : List Int))).bind fun t391 => ((impl_checked.f x382000 t391).bind fun bt394 => (some (bt394.1, bt394.2.1, bt394.2.2))))))) (lim_eq (impl_AddRung.j0.m x1 x2 x18 x382000 x382001) (fun k => by with_reducible exact impl_AddRung.j0.eq_2 _ _ _ _ _ _ )) (lim_const _)
theorem impl_AddRung.f.v_eq (a0_0 : Int) (l0_1 : List Int) (a1 a2 : Int) : impl_AddRung.f.v a0_0 l0_1 a1 a2 = (impl_isLadder.f a0_0 l0_1).bind fun t383 => (if t383 = true then ((impl_between.f a1 0 (l0_1.length : Int)).bind fun t384 => (impl_AddRung.j0.v a1 a2 (!t384) a0_0 l0_1)) else (impl_AddRung.j0.v a1 a2 true a0_0 l0_1)) :=
 Eq.trans (b := lim (fun k => (impl_isLadder.f a0_0 l0_1).bind fun t383 => (if t383 = true then ((impl_between.f a1 0 (l0_1.length : Int)).bind fun t384 => (impl_AddRung.j0 k a1 a2 (!t384) a0_0 l0_1)) else (impl_AddRung.j0 k a1 a2 true a0_0 l0_1)))) (congrArg lim (funext fun k => by with_reducible exact impl_AddRung.f.eq_1 _ _ _ _ _ )) (lim_bindc_to (fun t383 => (lim_ite_to (lim_bindc_to (fun t384 => rfl)) rfl)))
theorem spec_laIf.f.v_eq (a0_0 : Int) (l0_1 : List Int) : spec_laIf.f.v a0_0 l0_1 = (spec_laGood.f.v a0_0 l0_1).bind fun t407 => (if t407 = true then (some (a0_0, l0_1, true)) else (some (0, ([] : List Int), false))) :=
 Eq.trans (b := lim (fun k => (spec_laGood.f k a0_0 l0_1).bind fun t407 => (if t407 = true then (some (a0_0, l0_1, true)) else (some (0, ([] : List Int), false))))) (congrArg lim (funext fun k => by with_reducible exact spec_laIf.f.eq_1 _ _ _ )) (lim_bind_to (spec_laGood.f.m _ _ ) (fun t407 => (Mono.const _)) (fun t407 => (lim_const _)))
end
end Go.Proofs.YtlmiiijjjcddkaaGreatDoor.PLg
