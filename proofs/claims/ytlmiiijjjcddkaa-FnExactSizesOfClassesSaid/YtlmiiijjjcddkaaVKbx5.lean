/- The values of the printed functions, without rounds, and the equations that they meet. Written by a program of this session (vgen.py). -/
import Derived.Test.YtlmiiijjjcddkaaPKbx5
import Derived.Test.YtlmiiijjjcddkaaLim
namespace Go.Proofs.Ytlmiiijjjcddkaa.PKb
noncomputable section
open Go.RowKit Go.Proofs.YtlmiiijjjcddkaaW.PrintWords Go.Proofs.YtlmiiijjjcddkaaW.PrintLast Go.Proofs.YtlmiiijjjcddkaaW.PrintMore Go.Proofs.YtlmiiijjjcddkaaL
set_option linter.unusedVariables false
set_option maxRecDepth 100000
theorem impl_firstSame.l0.m (x0 x3 : List Int) : Mono (fun k => impl_firstSame.l0 k x0 x3) := fun k => (impl_firstSame.mono_l k) x0 x3
def impl_firstSame.l0.v (x0 x3 : List Int) : Option (List Int) := lim (fun k => impl_firstSame.l0 k x0 x3)
theorem impl_firstSame.f.m (l0 : List Int) : Mono (fun k => impl_firstSame.f k l0) := fun k => impl_firstSame.mono l0 k
def impl_firstSame.f.v (l0 : List Int) : Option (List Int) := lim (fun k => impl_firstSame.f k l0)
theorem impl_firstSame.f.ends (l0 : List Int) {r : _} (h : impl_firstSame.f.v l0 = some r) : ∃ k, impl_firstSame.f k l0 = some r := lim_some h
theorem slices_Reverse_int_int.l0.m (x0 : List Int) (x2 x3 : Int) : Mono (fun k => slices_Reverse_int_int.l0 k x0 x2 x3) := fun k => (slices_Reverse_int_int.mono_l k) x0 x2 x3
def slices_Reverse_int_int.l0.v (x0 : List Int) (x2 x3 : Int) : Option (List Int) := lim (fun k => slices_Reverse_int_int.l0 k x0 x2 x3)
theorem slices_Reverse_int_int.f.m (l0 : List Int) : Mono (fun k => slices_Reverse_int_int.f k l0) := fun k => slices_Reverse_int_int.mono l0 k
def slices_Reverse_int_int.f.v (l0 : List Int) : Option (List Int) := lim (fun k => slices_Reverse_int_int.f k l0)
theorem slices_Reverse_int_int.f.ends (l0 : List Int) {r : _} (h : slices_Reverse_int_int.f.v l0 = some r) : ∃ k, slices_Reverse_int_int.f k l0 = some r := lim_some h
theorem impl_firstSame.l0.v_eq (x0 x3 : List Int) : impl_firstSame.l0.v x0 x3 = if (x0.length : Int) > 0 then ((impl_firsts.f x0).bind fun t263 => (if 0 < (t263.length : Int) then (if 0 ≤ (rd t263 0) then (if (rd t263 0) < (x0.length : Int) then (if x3.length < 17592186044416 then ((impl_without.f x0 (rd t263 0)).bind fun t271 => (impl_firstSame.l0.v t271 (x3 ++ [rd x0 (rd t263 0)]))) else (none)) else (none)) else (none)) else (none))) else (some x3) :=
 Eq.trans (b := lim (fun k => if (x0.length : Int) > 0 then ((impl_firsts.f x0).bind fun t263 => (if 0 < (t263.length : Int) then (if 0 ≤ (rd t263 0) then (if (rd t263 0) < (x0.length : Int) then (if x3.length < 17592186044416 then ((impl_without.f x0 (rd t263 0)).bind fun t271 => (impl_firstSame.l0 k t271 (x3 ++ [rd x0 (rd t263 0)]))) else (none)) else (none)) else (none)) else (none))) else (some x3))) (lim_eq (impl_firstSame.l0.m x0 x3) (fun k => by with_reducible exact impl_firstSame.l0.eq_2 _ _ _ )) (lim_ite_to (lim_bindc_to (fun t263 => (lim_ite_to (lim_ite_to (lim_ite_to (lim_ite_to (lim_bindc_to (fun t271 => rfl)) (lim_const _)) (lim_const _)) (lim_const _)) (lim_const _)))) (lim_const _))
theorem impl_firstSame.f.v_eq (l0 : List Int) : impl_firstSame.f.v l0 = impl_firstSame.l0.v l0 (([] : List Int)) :=
 Eq.trans (b := lim (fun k => impl_firstSame.l0 k l0 (([] : List Int)))) (congrArg lim (funext fun k => by with_reducible exact impl_firstSame.f.eq_1 _ _ )) rfl
theorem slices_Reverse_int_int.l0.v_eq (x0 : List Int) (x2 x3 : Int) : slices_Reverse_int_int.l0.v x0 x2 x3 = if x2 < x3 then (if 0 ≤ x3 then (if x3 < (x0.length : Int) then (if 0 ≤ x2 then (if x2 < (x0.length : Int) then (slices_Reverse_int_int.l0.v ((x0.set (x2 : Int).toNat (rd x0 x3)).set (x3 : Int).toNat (rd x0 x2)) (wrap64 (x2 + 1)) (wrap64 (x3 - 1))) else (none)) else (none)) else (none)) else (none)) else (some x0) :=
 Eq.trans (b := lim (fun k => if x2 < x3 then (if 0 ≤ x3 then (if x3 < (x0.length : Int) then (if 0 ≤ x2 then (if x2 < (x0.length : Int) then (slices_Reverse_int_int.l0 k ((x0.set (x2 : Int).toNat (rd x0 x3)).set (x3 : Int).toNat (rd x0 x2)) (wrap64 (x2 + 1)) (wrap64 (x3 - 1))) else (none)) else (none)) else (none)) else (none)) else (some x0))) (lim_eq (slices_Reverse_int_int.l0.m x0 x2 x3) (fun k => by with_reducible exact slices_Reverse_int_int.l0.eq_2 _ _ _ _ )) (lim_ite_to (lim_ite_to (lim_ite_to (lim_ite_to (lim_ite_to rfl (lim_const _)) (lim_const _)) (lim_const _)) (lim_const _)) (lim_const _))
theorem slices_Reverse_int_int.f.v_eq (l0 : List Int) : slices_Reverse_int_int.f.v l0 = slices_Reverse_int_int.l0.v l0 0 (wrap64 ((l0.length : Int) - 1)) :=
 Eq.trans (b := lim (fun k => slices_Reverse_int_int.l0 k l0 0 (wrap64 ((l0.length : Int) - 1)))) (congrArg lim (funext fun k => by with_reducible exact slices_Reverse_int_int.f.eq_1 _ _ )) rfl
end
end Go.Proofs.Ytlmiiijjjcddkaa.PKb
