/- The values of the printed functions, without rounds, and the equations that they meet. Written by a program of this session (vgen.py). -/
import Derived.Test.YtciboaihodoglaaPFsx6
import Derived.Test.YtciboaihodoglaaLim
namespace Go.Proofs.Ytciboaihodoglaa.PFs
open Go.RowKit Go.Proofs.YtciboaihodoglaaW.PrintWords Go.Proofs.YtciboaihodoglaaW.PrintLast Go.Proofs.YtciboaihodoglaaW.PrintMore Go.Proofs.YtciboaihodoglaaL
set_option linter.unusedVariables false
set_option maxRecDepth 100000
theorem impl_firstSame.l0.m (x0 : List Int) (x3 : List Int) : Mono (fun k => impl_firstSame.l0 k x0 x3) := fun k => (impl_firstSame.mono_l k) x0 x3
noncomputable def impl_firstSame.l0.v (x0 : List Int) (x3 : List Int) : Option (List Int) := lim (fun k => impl_firstSame.l0 k x0 x3)
theorem impl_firstSame.f.m (l0 : List Int) : Mono (fun k => impl_firstSame.f k l0) := fun k => impl_firstSame.mono l0 k
noncomputable def impl_firstSame.f.v (l0 : List Int) : Option (List Int) := lim (fun k => impl_firstSame.f k l0)
theorem impl_firstSame.f.ends (l0 : List Int) {r : _} (h : impl_firstSame.f.v l0 = some r) : ∃ k, impl_firstSame.f k l0 = some r := lim_some h
theorem impl_FirstSame.f.m (a0_0 : Int) (l0_1 : List Int) : Mono (fun k => impl_FirstSame.f k a0_0 l0_1) := fun k => impl_FirstSame.mono a0_0 l0_1 k
noncomputable def impl_FirstSame.f.v (a0_0 : Int) (l0_1 : List Int) : Option (Int × List Int × Bool) := lim (fun k => impl_FirstSame.f k a0_0 l0_1)
theorem impl_FirstSame.f.ends (a0_0 : Int) (l0_1 : List Int) {r : _} (h : impl_FirstSame.f.v a0_0 l0_1 = some r) : ∃ k, impl_FirstSame.f k a0_0 l0_1 = some r := lim_some h
theorem impl_firstSame.l0.v_eq (x0 : List Int) (x3 : List Int) : impl_firstSame.l0.v x0 x3 = if (x0.length : Int) > 0 then ((impl_firsts.f x0).bind fun t182 => (if 0 < (t182.length : Int) then (if 0 ≤ (rd t182 0) then (if (rd t182 0) < (x0.length : Int) then (if x3.length < 17592186044416 then ((impl_without.f x0 (rd t182 0)).bind fun t190 => (impl_firstSame.l0.v t190 (x3 ++ [rd x0 (rd t182 0)]))) else (none)) else (none)) else (none)) else (none))) else (some x3) :=
  Eq.trans (b := lim (fun k => if (x0.length : Int) > 0 then ((impl_firsts.f x0).bind fun t182 => (if 0 < (t182.length : Int) then (if 0 ≤ (rd t182 0) then (if (rd t182 0) < (x0.length : Int) then (if x3.length < 17592186044416 then ((impl_without.f x0 (rd t182 0)).bind fun t190 => (impl_firstSame.l0 k t190 (x3 ++ [rd x0 (rd t182 0)]))) else (none)) else (none)) else (none)) else (none))) else (some x3))) (lim_eq (impl_firstSame.l0.m x0 x3) (fun k => by with_reducible exact impl_firstSame.l0.eq_2 _ _ _ )) (lim_ite_to (lim_bindc_to (fun t182 => (lim_ite_to (lim_ite_to (lim_ite_to (lim_ite_to (lim_bindc_to (fun t190 => rfl)) (lim_const _)) (lim_const _)) (lim_const _)) (lim_const _)))) (lim_const _))
theorem impl_firstSame.f.v_eq (l0 : List Int) : impl_firstSame.f.v l0 = impl_firstSame.l0.v l0 (([] : List Int)) :=
  Eq.trans (b := lim (fun k => impl_firstSame.l0 k l0 (([] : List Int)))) (congrArg lim (funext fun k => by with_reducible exact impl_firstSame.f.eq_1 _ _ )) rfl
theorem impl_FirstSame.f.v_eq (a0_0 : Int) (l0_1 : List Int) : impl_FirstSame.f.v a0_0 l0_1 = (impl_isLadder.f a0_0 l0_1).bind fun t195 => (if t195 = true then ((impl_firstSame.f.v l0_1).bind fun t196 => (some (a0_0, t196, true))) else (some (0, ([] : List Int), false))) :=
  Eq.trans (b := lim (fun k => (impl_isLadder.f a0_0 l0_1).bind fun t195 => (if t195 = true then ((impl_firstSame.f k l0_1).bind fun t196 => (some (a0_0, t196, true))) else (some (0, ([] : List Int), false))))) (congrArg lim (funext fun k => by with_reducible exact impl_FirstSame.f.eq_1 _ _ _ )) (lim_bindc_to (fun t195 => (lim_ite_to (lim_bind_to (impl_firstSame.f.m _ ) (fun t196 => (Mono.const _)) (fun t196 => (lim_const _))) (lim_const _))))
end Go.Proofs.Ytciboaihodoglaa.PFs
