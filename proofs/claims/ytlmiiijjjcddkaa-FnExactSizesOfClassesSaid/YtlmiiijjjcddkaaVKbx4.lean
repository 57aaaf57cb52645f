/- The values of the printed functions, without rounds, and the equations that they meet. Written by a program of this session (vgen.py). -/
import Derived.Test.YtlmiiijjjcddkaaPKbx4
import Derived.Test.YtlmiiijjjcddkaaLim
namespace Go.Proofs.Ytlmiiijjjcddkaa.PKb
noncomputable section
open Go.RowKit Go.Proofs.YtlmiiijjjcddkaaW.PrintWords Go.Proofs.YtlmiiijjjcddkaaW.PrintLast Go.Proofs.YtlmiiijjjcddkaaW.PrintMore Go.Proofs.YtlmiiijjjcddkaaL
set_option linter.unusedVariables false
set_option maxRecDepth 100000
theorem impl_descents.l0.m (x0 x3 : List Int) (x4 : Int) : Mono (fun k => impl_descents.l0 k x0 x3 x4) := fun k => (impl_descents.mono_l k) x0 x3 x4
def impl_descents.l0.v (x0 x3 : List Int) (x4 : Int) : Option (List Int) := lim (fun k => impl_descents.l0 k x0 x3 x4)
theorem impl_descents.f.m (l0 : List Int) : Mono (fun k => impl_descents.f k l0) := fun k => impl_descents.mono l0 k
def impl_descents.f.v (l0 : List Int) : Option (List Int) := lim (fun k => impl_descents.f k l0)
theorem impl_descents.f.ends (l0 : List Int) {r : _} (h : impl_descents.f.v l0 = some r) : ∃ k, impl_descents.f k l0 = some r := lim_some h
theorem slices_Equal_int_int.l0.m (x0 x1 : List Int) (x12 x13 : Int) : Mono (fun k => slices_Equal_int_int.l0 k x0 x1 x12 x13) := fun k => (slices_Equal_int_int.mono_l k) x0 x1 x12 x13
def slices_Equal_int_int.l0.v (x0 x1 : List Int) (x12 x13 : Int) : Option (Bool) := lim (fun k => slices_Equal_int_int.l0 k x0 x1 x12 x13)
theorem slices_Equal_int_int.f.m (l0 l1 : List Int) : Mono (fun k => slices_Equal_int_int.f k l0 l1) := fun k => slices_Equal_int_int.mono l0 l1 k
def slices_Equal_int_int.f.v (l0 l1 : List Int) : Option (Bool) := lim (fun k => slices_Equal_int_int.f k l0 l1)
theorem slices_Equal_int_int.f.ends (l0 l1 : List Int) {r : _} (h : slices_Equal_int_int.f.v l0 l1 = some r) : ∃ k, slices_Equal_int_int.f k l0 l1 = some r := lim_some h
theorem impl_descents.l0.v_eq (x0 x3 : List Int) (x4 : Int) : impl_descents.l0.v x0 x3 x4 = if (wrap64 (x4 + 1)) < (x0.length : Int) then (if 0 ≤ x4 then (if x4 < (x0.length : Int) then (if 0 ≤ (wrap64 (x4 + 1)) then (if (rd x0 x4) > (rd x0 (wrap64 (x4 + 1))) then (if x3.length < 17592186044416 then (impl_descents.l0.v x0 (x3 ++ [x4]) (wrap64 (x4 + 1))) else (none)) else (impl_descents.l0.v x0 x3 (wrap64 (x4 + 1)))) else (none)) else (none)) else (none)) else (some x3) :=
 Eq.trans (b := lim (fun k => if (wrap64 (x4 + 1)) < (x0.length : Int) then (if 0 ≤ x4 then (if x4 < (x0.length : Int) then (if 0 ≤ (wrap64 (x4 + 1)) then (if (rd x0 x4) > (rd x0 (wrap64 (x4 + 1))) then (if x3.length < 17592186044416 then (impl_descents.l0 k x0 (x3 ++ [x4]) (wrap64 (x4 + 1))) else (none)) else (impl_descents.l0 k x0 x3 (wrap64 (x4 + 1)))) else (none)) else (none)) else (none)) else (some x3))) (lim_eq (impl_descents.l0.m x0 x3 x4) (fun k => by with_reducible exact impl_descents.l0.eq_2 _ _ _ _ )) (lim_ite_to (lim_ite_to (lim_ite_to (lim_ite_to (lim_ite_to (lim_ite_to rfl (lim_const _)) rfl) (lim_const _)) (lim_const _)) (lim_const _)) (lim_const _))
theorem impl_descents.f.v_eq (l0 : List Int) : impl_descents.f.v l0 = impl_descents.l0.v l0 (([] : List Int)) 0 :=
 Eq.trans (b := lim (fun k => impl_descents.l0 k l0 (([] : List Int)) 0)) (congrArg lim (funext fun k => by with_reducible exact impl_descents.f.eq_1 _ _ )) rfl
theorem slices_Equal_int_int.l0.v_eq (x0 x1 : List Int) (x12 x13 : Int) : slices_Equal_int_int.l0.v x0 x1 x12 x13 = if x13 < x12 then (if 0 ≤ x13 then (if x13 < (x0.length : Int) then (if x13 < (x1.length : Int) then (if (rd x0 x13) = (rd x1 x13) then (slices_Equal_int_int.l0.v x0 x1 x12 (wrap64 (x13 + 1))) else (some false)) else (none)) else (none)) else (none)) else (some true) :=
 Eq.trans (b := lim (fun k => if x13 < x12 then (if 0 ≤ x13 then (if x13 < (x0.length : Int) then (if x13 < (x1.length : Int) then (if (rd x0 x13) = (rd x1 x13) then (slices_Equal_int_int.l0 k x0 x1 x12 (wrap64 (x13 + 1))) else (some false)) else (none)) else (none)) else (none)) else (some true))) (lim_eq (slices_Equal_int_int.l0.m x0 x1 x12 x13) (fun k => by with_reducible exact slices_Equal_int_int.l0.eq_2 _ _ _ _ _ )) (lim_ite_to (lim_ite_to (lim_ite_to (lim_ite_to (lim_ite_to rfl (lim_const _)) (lim_const _)) (lim_const _)) (lim_const _)) (lim_const _))
theorem slices_Equal_int_int.f.v_eq (l0 l1 : List Int) : slices_Equal_int_int.f.v l0 l1 = if (l0.length : Int) = (l1.length : Int) then (slices_Equal_int_int.l0.v l0 l1 (l0.length : Int) 0) else (some false) :=
 Eq.trans (b := lim (fun k => if (l0.length : Int) = (l1.length : Int) then (slices_Equal_int_int.l0 k l0 l1 (l0.length : Int) 0) else (some false))) (congrArg lim (funext fun k => by with_reducible exact slices_Equal_int_int.f.eq_1 _ _ _ )) (lim_ite_to rfl (lim_const _))
end
end Go.Proofs.Ytlmiiijjjcddkaa.PKb
