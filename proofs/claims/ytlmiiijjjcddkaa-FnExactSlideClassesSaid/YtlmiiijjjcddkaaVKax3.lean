/- The values of the printed functions, without rounds, and the equations that they meet. Written by a program of this session (vgen.py). -/
import Derived.Test.YtlmiiijjjcddkaaPKax3
import Derived.Test.YtlmiiijjjcddkaaVKax2
import Derived.Test.YtlmiiijjjcddkaaLim
namespace Go.Proofs.Ytlmiiijjjcddkaa.PKa
noncomputable section
open Go.RowKit Go.Proofs.YtlmiiijjjcddkaaW.PrintWords Go.Proofs.YtlmiiijjjcddkaaW.PrintLast Go.Proofs.YtlmiiijjjcddkaaW.PrintMore Go.Proofs.YtlmiiijjjcddkaaL
set_option linter.unusedVariables false
set_option maxRecDepth 100000
theorem slices_Contains_int_int.f.m (l0 : List Int) (a1 : Int) : Mono (fun k => slices_Contains_int_int.f k l0 a1) := fun k => slices_Contains_int_int.mono l0 a1 k
def slices_Contains_int_int.f.v (l0 : List Int) (a1 : Int) : Option (Bool) := lim (fun k => slices_Contains_int_int.f k l0 a1)
theorem slices_Contains_int_int.f.ends (l0 : List Int) (a1 : Int) {r : _} (h : slices_Contains_int_int.f.v l0 a1 = some r) : ∃ k, slices_Contains_int_int.f k l0 a1 = some r := lim_some h
theorem impl_isOrder.l0.m (x0 x9 : List Int) (x10 x11 : Int) : Mono (fun k => impl_isOrder.l0 k x0 x9 x10 x11) := fun k => (impl_isOrder.mono_l k) x0 x9 x10 x11
def impl_isOrder.l0.v (x0 x9 : List Int) (x10 x11 : Int) : Option (Bool) := lim (fun k => impl_isOrder.l0 k x0 x9 x10 x11)
theorem impl_isOrder.f.m (l0 : List Int) : Mono (fun k => impl_isOrder.f k l0) := fun k => impl_isOrder.mono l0 k
def impl_isOrder.f.v (l0 : List Int) : Option (Bool) := lim (fun k => impl_isOrder.f k l0)
theorem impl_isOrder.f.ends (l0 : List Int) {r : _} (h : impl_isOrder.f.v l0 = some r) : ∃ k, impl_isOrder.f k l0 = some r := lim_some h
theorem impl_isCounted.f.m (l0 : List Int) : Mono (fun k => impl_isCounted.f k l0) := fun k => impl_isCounted.mono l0 k
def impl_isCounted.f.v (l0 : List Int) : Option (Bool) := lim (fun k => impl_isCounted.f k l0)
theorem impl_isCounted.f.ends (l0 : List Int) {r : _} (h : impl_isCounted.f.v l0 = some r) : ∃ k, impl_isCounted.f k l0 = some r := lim_some h
theorem impl_orderKey.l0.m (x3 x7 : List Int) (x8 x9 : Int) : Mono (fun k => impl_orderKey.l0 k x3 x7 x8 x9) := fun k => (impl_orderKey.mono_l k) x3 x7 x8 x9
def impl_orderKey.l0.v (x3 x7 : List Int) (x8 x9 : Int) : Option (ByteArray) := lim (fun k => impl_orderKey.l0 k x3 x7 x8 x9)
theorem impl_orderKey.f.m (l0 : List Int) : Mono (fun k => impl_orderKey.f k l0) := fun k => impl_orderKey.mono l0 k
def impl_orderKey.f.v (l0 : List Int) : Option (ByteArray) := lim (fun k => impl_orderKey.f k l0)
theorem impl_orderKey.f.ends (l0 : List Int) {r : _} (h : impl_orderKey.f.v l0 = some r) : ∃ k, impl_orderKey.f k l0 = some r := lim_some h
theorem impl_descents.l0.m (x0 x3 : List Int) (x4 : Int) : Mono (fun k => impl_descents.l0 k x0 x3 x4) := fun k => (impl_descents.mono_l k) x0 x3 x4
def impl_descents.l0.v (x0 x3 : List Int) (x4 : Int) : Option (List Int) := lim (fun k => impl_descents.l0 k x0 x3 x4)
theorem impl_descents.f.m (l0 : List Int) : Mono (fun k => impl_descents.f k l0) := fun k => impl_descents.mono l0 k
def impl_descents.f.v (l0 : List Int) : Option (List Int) := lim (fun k => impl_descents.f k l0)
theorem impl_descents.f.ends (l0 : List Int) {r : _} (h : impl_descents.f.v l0 = some r) : ∃ k, impl_descents.f k l0 = some r := lim_some h
theorem slices_Equal_int_int.l0.m (x0 x1 : List Int) (x12 x13 : Int) : Mono (fun k => slices_Equal_int_int.l0 k x0 x1 x12 x13) := fun k => (slices_Equal_int_int.mono_l k) x0 x1 x12 x13
def slices_Equal_int_int.l0.v (x0 x1 : List Int) (x12 x13 : Int) : Option (Bool) := lim (fun k => slices_Equal_int_int.l0 k x0 x1 x12 x13)
theorem slices_Equal_int_int.f.m (l0 l1 : List Int) : Mono (fun k => slices_Equal_int_int.f k l0 l1) := fun k => slices_Equal_int_int.mono l0 l1 k
def slices_Equal_int_int.f.v (l0 l1 : List Int) : Option (Bool) := lim (fun k => slices_Equal_int_int.f k l0 l1)
theorem slices_Equal_int_int.f.ends (l0 l1 : List Int) {r : _} (h : slices_Equal_int_int.f.v l0 l1 = some r) : ∃ k, slices_Equal_int_int.f k l0 l1 = some r := lim_some h
theorem slices_Contains_int_int.f.v_eq (l0 : List Int) (a1 : Int) : slices_Contains_int_int.f.v l0 a1 = (slices_Index_int_int.f.v l0 a1).bind fun t213 => (some (decide (t213 ≥ 0))) :=
 Eq.trans (b := lim (fun k => (slices_Index_int_int.f k l0 a1).bind fun t213 => (some (decide (t213 ≥ 0))))) (congrArg lim (funext fun k => by with_reducible exact slices_Contains_int_int.f.eq_1 _ _ _ )) (lim_bind_to (slices_Index_int_int.f.m _ _ ) (fun t213 => (Mono.const _)) (fun t213 => (lim_const _)))
theorem impl_isOrder.l0.v_eq (x0 x9 : List Int) (x10 x11 : Int) : impl_isOrder.l0.v x0 x9 x10 x11 = if x11 < x10 then (if 0 ≤ x11 then (if x11 < (x9.length : Int) then ((impl_between.f (rd x9 x11) 0 (wrap64 ((x0.length : Int) - 1))).bind fun t216 => (if t216 = true then (if x11 ≤ (x0.length : Int) then ((slices_Contains_int_int.f.v (x0.take (x11 : Int).toNat) (rd x9 x11)).bind fun t221 => (if t221 = true then (some false) else (impl_isOrder.l0.v x0 x9 x10 (wrap64 (x11 + 1))))) else (none)) else (some false))) else (none)) else (none)) else (some true) :=
 Eq.trans (b := lim (fun k => if x11 < x10 then (if 0 ≤ x11 then (if x11 < (x9.length : Int) then ((impl_between.f (rd x9 x11) 0 (wrap64 ((x0.length : Int) - 1))).bind fun t216 => (if t216 = true then (if x11 ≤ (x0.length : Int) then ((slices_Contains_int_int.f k (x0.take (x11 : Int).toNat) (rd x9 x11)).bind fun t221 => (if t221 = true then (some false) else (impl_isOrder.l0 k x0 x9 x10 (wrap64 (x11 + 1))))) else (none)) else (some false))) else (none)) else (none)) else (some true))) (lim_eq (impl_isOrder.l0.m x0 x9 x10 x11) (fun k => by with_reducible exact impl_isOrder.l0.eq_2 _ _ _ _ _ )) (lim_ite_to (lim_ite_to (lim_ite_to (lim_bindc_to (fun t216 => (lim_ite_to (lim_ite_to (lim_bind_to (slices_Contains_int_int.f.m _ _ ) (fun t221 => (Mono.ite (Mono.const _) (impl_isOrder.l0.m _ _ _ _ ))) (fun t221 => (lim_ite_to (lim_const _) rfl))) (lim_const _)) (lim_const _)))) (lim_const _)) (lim_const _)) (lim_const _))
theorem impl_isOrder.f.v_eq (l0 : List Int) : impl_isOrder.f.v l0 = (impl_between.f (l0.length : Int) 1 8).bind fun t214 => (if t214 = true then (impl_isOrder.l0.v l0 l0 (l0.length : Int) 0) else (some false)) :=
 Eq.trans (b := lim (fun k => (impl_between.f (l0.length : Int) 1 8).bind fun t214 => (if t214 = true then (impl_isOrder.l0 k l0 l0 (l0.length : Int) 0) else (some false)))) (congrArg lim (funext fun k => by with_reducible exact impl_isOrder.f.eq_1 _ _ )) (lim_bindc_to (fun t214 => (lim_ite_to rfl (lim_const _))))
theorem impl_isCounted.f.v_eq (l0 : List Int) : impl_isCounted.f.v l0 = (impl_isOrder.f.v l0).bind fun t224 => (if t224 = true then ((impl_between.f (l0.length : Int) 2 6).bind fun t225 => (some t225)) else (some false)) :=
 Eq.trans (b := lim (fun k => (impl_isOrder.f k l0).bind fun t224 => (if t224 = true then ((impl_between.f (l0.length : Int) 2 6).bind fun t225 => (some t225)) else (some false)))) (congrArg lim (funext fun k => by with_reducible exact impl_isCounted.f.eq_1 _ _ )) (lim_bind_to (impl_isOrder.f.m _ ) (fun t224 => (Mono.const _)) (fun t224 => (lim_const _)))
theorem impl_orderKey.l0.v_eq (x3 x7 : List Int) (x8 x9 : Int) : impl_orderKey.l0.v x3 x7 x8 x9 = if x9 < x8 then (if 0 ≤ x9 then (if x9 < (x7.length : Int) then (if x3.length < 140737488355328 then (impl_orderKey.l0.v (x3 ++ [(wrap64 (48 + (rd x7 x9))) % 256]) x7 x8 (wrap64 (x9 + 1))) else (none)) else (none)) else (none)) else (some (strOfNums x3)) :=
 Eq.trans (b := lim (fun k => if x9 < x8 then (if 0 ≤ x9 then (if x9 < (x7.length : Int) then (if x3.length < 140737488355328 then (impl_orderKey.l0 k (x3 ++ [(wrap64 (48 + (rd x7 x9))) % 256]) x7 x8 (wrap64 (x9 + 1))) else (none)) else (none)) else (none)) else (some (strOfNums x3)))) (lim_eq (impl_orderKey.l0.m x3 x7 x8 x9) (fun k => by with_reducible exact impl_orderKey.l0.eq_2 _ _ _ _ _ )) (lim_ite_to (lim_ite_to (lim_ite_to (lim_ite_to rfl (lim_const _)) (lim_const _)) (lim_const _)) (lim_const _))
theorem impl_orderKey.f.v_eq (l0 : List Int) : impl_orderKey.f.v l0 = impl_orderKey.l0.v (([] : List Int)) l0 (l0.length : Int) 0 :=
 Eq.trans (b := lim (fun k => impl_orderKey.l0 k (([] : List Int)) l0 (l0.length : Int) 0)) (congrArg lim (funext fun k => by with_reducible exact impl_orderKey.f.eq_1 _ _ )) rfl
theorem impl_descents.l0.v_eq (x0 x3 : List Int) (x4 : Int) : impl_descents.l0.v x0 x3 x4 = if (wrap64 (x4 + 1)) < (x0.length : Int) then (if 0 ≤ x4 then (if x4 < (x0.length : Int) then (if 0 ≤ (wrap64 (x4 + 1)) then (if (rd x0 x4) > (rd x0 (wrap64 (x4 + 1))) then (if x3.length < 17592186044416 then (impl_descents.l0.v x0 (x3 ++ [x4]) (wrap64 (x4 + 1))) else (none)) else (impl_descents.l0.v x0 x3 (wrap64 (x4 + 1)))) else (none)) else (none)) else (none)) else (some x3) :=
 Eq.trans (b := lim (fun k => if (wrap64 (x4 + 1)) < (x0.length : Int) then (if 0 ≤ x4 then (if x4 < (x0.length : Int) then (if 0 ≤ (wrap64 (x4 + 1)) then (if (rd x0 x4) > (rd x0 (wrap64 (x4 + 1))) then (if x3.length < 17592186044416 then (impl_descents.l0 k x0 (x3 ++ [x4]) (wrap64 (x4 + 1))) else (none)) else (impl_descents.l0 k x0 x3 (wrap64 (x4 + 1)))) else (none)) else (none)) else (none)) else (some x3))) (lim_eq (impl_descents.l0.m x0 x3 x4) (fun k => by with_reducible exact impl_descents.l0.eq_2 _ _ _ _ )) (lim_ite_to (lim_ite_to (lim_ite_to (lim_ite_to (lim_ite_to (lim_ite_to rfl (lim_const _)) rfl) (lim_const _)) (lim_const _)) (lim_const _)) (lim_const _))
theorem impl_descents.f.v_eq (l0 : List Int) : impl_descents.f.v l0 = impl_descents.l0.v l0 (([] : List Int)) 0 :=
 Eq.trans (b := lim (fun k => impl_descents.l0 k l0 (([] : List Int)) 0)) (congrArg lim (funext fun k => by with_reducible exact impl_descents.f.eq_1 _ _ )) rfl
theorem slices_Equal_int_int.l0.v_eq (x0 x1 : List Int) (x12 x13 : Int) : slices_Equal_int_int.l0.v x0 x1 x12 x13 = if x13 < x12 then (if 0 ≤ x13 then (if x13 < (x0.length : Int) then (if x13 < (x1.length : Int) then (if (rd x0 x13) = (rd x1 x13) then (slices_Equal_int_int.l0.v x0 x1 x12 (wrap64 (x13 + 1))) else (some false)) else (none)) else (none)) else (none)) else (some true) :=
 Eq.trans (b := lim (fun k => if x13 < x12 then (if 0 ≤ x13 then (if x13 < (x0.length : Int) then (if x13 < (x1.length : Int) then (if (rd x0 x13) = (rd x1 x13) then (slices_Equal_int_int.l0 k x0 x1 x12 (wrap64 (x13 + 1))) else (some false)) else (none)) else (none)) else (none)) else (some true))) (lim_eq (slices_Equal_int_int.l0.m x0 x1 x12 x13) (fun k => by with_reducible exact slices_Equal_int_int.l0.eq_2 _ _ _ _ _ )) (lim_ite_to (lim_ite_to (lim_ite_to (lim_ite_to (lim_ite_to rfl (lim_const _)) (lim_const _)) (lim_const _)) (lim_const _)) (lim_const _))
theorem slices_Equal_int_int.f.v_eq (l0 l1 : List Int) : slices_Equal_int_int.f.v l0 l1 = if (l0.length : Int) = (l1.length : Int) then (slices_Equal_int_int.l0.v l0 l1 (l0.length : Int) 0) else (some false) :=
 Eq.trans (b := lim (fun k => if (l0.length : Int) = (l1.length : Int) then (slices_Equal_int_int.l0 k l0 l1 (l0.length : Int) 0) else (some false))) (congrArg lim (funext fun k => by with_reducible exact slices_Equal_int_int.f.eq_1 _ _ _ )) (lim_ite_to rfl (lim_const _))
end
end Go.Proofs.Ytlmiiijjjcddkaa.PKa
