/- The values of the printed functions, without rounds, and the equations that they meet. Written by a program of this session (vgen.py). -/
import Derived.Test.YtheeffchjdkhnaaPCfx4
import Derived.Test.YtheeffchjdkhnaaLim
namespace Go.Proofs.Ytheeffchjdkhnaa.PCf
open Go.RowKit Go.Proofs.YtheeffchjdkhnaaW.PrintWords Go.Proofs.YtheeffchjdkhnaaW.PrintLast Go.Proofs.YtheeffchjdkhnaaW.PrintMore Go.Proofs.YtheeffchjdkhnaaL
set_option linter.unusedVariables false
set_option maxRecDepth 100000
theorem slices_Index_int_int.l0.m (x0 : List Int) (x1 : Int) (x7 : Int) (x8 : Int) : Mono (fun k => slices_Index_int_int.l0 k x0 x1 x7 x8) := fun k => (slices_Index_int_int.mono_l k) x0 x1 x7 x8
noncomputable def slices_Index_int_int.l0.v (x0 : List Int) (x1 : Int) (x7 : Int) (x8 : Int) : Option (Int) := lim (fun k => slices_Index_int_int.l0 k x0 x1 x7 x8)
theorem slices_Index_int_int.f.m (l0 : List Int) (a1 : Int) : Mono (fun k => slices_Index_int_int.f k l0 a1) := fun k => slices_Index_int_int.mono l0 a1 k
noncomputable def slices_Index_int_int.f.v (l0 : List Int) (a1 : Int) : Option (Int) := lim (fun k => slices_Index_int_int.f k l0 a1)
theorem slices_Index_int_int.f.ends (l0 : List Int) (a1 : Int) {r : _} (h : slices_Index_int_int.f.v l0 a1 = some r) : ∃ k, slices_Index_int_int.f k l0 a1 = some r := lim_some h
theorem slices_Contains_int_int.f.m (l0 : List Int) (a1 : Int) : Mono (fun k => slices_Contains_int_int.f k l0 a1) := fun k => slices_Contains_int_int.mono l0 a1 k
noncomputable def slices_Contains_int_int.f.v (l0 : List Int) (a1 : Int) : Option (Bool) := lim (fun k => slices_Contains_int_int.f k l0 a1)
theorem slices_Contains_int_int.f.ends (l0 : List Int) (a1 : Int) {r : _} (h : slices_Contains_int_int.f.v l0 a1 = some r) : ∃ k, slices_Contains_int_int.f k l0 a1 = some r := lim_some h
theorem impl_isOrder.l0.m (x0 : List Int) (x9 : List Int) (x10 : Int) (x11 : Int) : Mono (fun k => impl_isOrder.l0 k x0 x9 x10 x11) := fun k => (impl_isOrder.mono_l k) x0 x9 x10 x11
noncomputable def impl_isOrder.l0.v (x0 : List Int) (x9 : List Int) (x10 : Int) (x11 : Int) : Option (Bool) := lim (fun k => impl_isOrder.l0 k x0 x9 x10 x11)
theorem impl_isOrder.f.m (l0 : List Int) : Mono (fun k => impl_isOrder.f k l0) := fun k => impl_isOrder.mono l0 k
noncomputable def impl_isOrder.f.v (l0 : List Int) : Option (Bool) := lim (fun k => impl_isOrder.f k l0)
theorem impl_isOrder.f.ends (l0 : List Int) {r : _} (h : impl_isOrder.f.v l0 = some r) : ∃ k, impl_isOrder.f k l0 = some r := lim_some h
theorem impl_isCounted.f.m (l0 : List Int) : Mono (fun k => impl_isCounted.f k l0) := fun k => impl_isCounted.mono l0 k
noncomputable def impl_isCounted.f.v (l0 : List Int) : Option (Bool) := lim (fun k => impl_isCounted.f k l0)
theorem impl_isCounted.f.ends (l0 : List Int) {r : _} (h : impl_isCounted.f.v l0 = some r) : ∃ k, impl_isCounted.f k l0 = some r := lim_some h
theorem slices_Index_int_int.l0.v_eq (x0 : List Int) (x1 : Int) (x7 : Int) (x8 : Int) : slices_Index_int_int.l0.v x0 x1 x7 x8 = if x8 < x7 then (if 0 ≤ x8 then (if x8 < (x0.length : Int) then (if x1 = (rd x0 x8) then (some x8) else (slices_Index_int_int.l0.v x0 x1 x7 (wrap64 (x8 + 1)))) else (none)) else (none)) else (some (-1)) :=
  Eq.trans (b := lim (fun k => if x8 < x7 then (if 0 ≤ x8 then (if x8 < (x0.length : Int) then (if x1 = (rd x0 x8) then (some x8) else (slices_Index_int_int.l0 k x0 x1 x7 (wrap64 (x8 + 1)))) else (none)) else (none)) else (some (-1)))) (lim_eq (slices_Index_int_int.l0.m x0 x1 x7 x8) (fun k => by with_reducible exact slices_Index_int_int.l0.eq_2 _ _ _ _ _ )) (lim_ite_to (lim_ite_to (lim_ite_to (lim_ite_to (lim_const _) rfl) (lim_const _)) (lim_const _)) (lim_const _))
theorem slices_Index_int_int.f.v_eq (l0 : List Int) (a1 : Int) : slices_Index_int_int.f.v l0 a1 = slices_Index_int_int.l0.v l0 a1 (l0.length : Int) 0 :=
  Eq.trans (b := lim (fun k => slices_Index_int_int.l0 k l0 a1 (l0.length : Int) 0)) (congrArg lim (funext fun k => by with_reducible exact slices_Index_int_int.f.eq_1 _ _ _ )) rfl
theorem slices_Contains_int_int.f.v_eq (l0 : List Int) (a1 : Int) : slices_Contains_int_int.f.v l0 a1 = (slices_Index_int_int.f.v l0 a1).bind fun t141 => (some (decide (t141 ≥ 0))) :=
  Eq.trans (b := lim (fun k => (slices_Index_int_int.f k l0 a1).bind fun t141 => (some (decide (t141 ≥ 0))))) (congrArg lim (funext fun k => by with_reducible exact slices_Contains_int_int.f.eq_1 _ _ _ )) (lim_bind_to (slices_Index_int_int.f.m _ _ ) (fun t141 => (Mono.const _)) (fun t141 => (lim_const _)))
theorem impl_isOrder.l0.v_eq (x0 : List Int) (x9 : List Int) (x10 : Int) (x11 : Int) : impl_isOrder.l0.v x0 x9 x10 x11 = if x11 < x10 then (if 0 ≤ x11 then (if x11 < (x9.length : Int) then ((impl_between.f (rd x9 x11) 0 (wrap64 ((x0.length : Int) - 1))).bind fun t144 => (if t144 = true then (if x11 ≤ (x0.length : Int) then ((slices_Contains_int_int.f.v (x0.take (x11 : Int).toNat) (rd x9 x11)).bind fun t149 => (if t149 = true then (some false) else (impl_isOrder.l0.v x0 x9 x10 (wrap64 (x11 + 1))))) else (none)) else (some false))) else (none)) else (none)) else (some true) :=
  Eq.trans (b := lim (fun k => if x11 < x10 then (if 0 ≤ x11 then (if x11 < (x9.length : Int) then ((impl_between.f (rd x9 x11) 0 (wrap64 ((x0.length : Int) - 1))).bind fun t144 => (if t144 = true then (if x11 ≤ (x0.length : Int) then ((slices_Contains_int_int.f k (x0.take (x11 : Int).toNat) (rd x9 x11)).bind fun t149 => (if t149 = true then (some false) else (impl_isOrder.l0 k x0 x9 x10 (wrap64 (x11 + 1))))) else (none)) else (some false))) else (none)) else (none)) else (some true))) (lim_eq (impl_isOrder.l0.m x0 x9 x10 x11) (fun k => by with_reducible exact impl_isOrder.l0.eq_2 _ _ _ _ _ )) (lim_ite_to (lim_ite_to (lim_ite_to (lim_bindc_to (fun t144 => (lim_ite_to (lim_ite_to (lim_bind_to (slices_Contains_int_int.f.m _ _ ) (fun t149 => (Mono.ite (Mono.const _) (impl_isOrder.l0.m _ _ _ _ ))) (fun t149 => (lim_ite_to (lim_const _) rfl))) (lim_const _)) (lim_const _)))) (lim_const _)) (lim_const _)) (lim_const _))
theorem impl_isOrder.f.v_eq (l0 : List Int) : impl_isOrder.f.v l0 = (impl_between.f (l0.length : Int) 1 8).bind fun t142 => (if t142 = true then (impl_isOrder.l0.v l0 l0 (l0.length : Int) 0) else (some false)) :=
  Eq.trans (b := lim (fun k => (impl_between.f (l0.length : Int) 1 8).bind fun t142 => (if t142 = true then (impl_isOrder.l0 k l0 l0 (l0.length : Int) 0) else (some false)))) (congrArg lim (funext fun k => by with_reducible exact impl_isOrder.f.eq_1 _ _ )) (lim_bindc_to (fun t142 => (lim_ite_to rfl (lim_const _))))
theorem impl_isCounted.f.v_eq (l0 : List Int) : impl_isCounted.f.v l0 = (impl_isOrder.f.v l0).bind fun t152 => (if t152 = true then ((impl_between.f (l0.length : Int) 2 6).bind fun t153 => (some t153)) else (some false)) :=
  Eq.trans (b := lim (fun k => (impl_isOrder.f k l0).bind fun t152 => (if t152 = true then ((impl_between.f (l0.length : Int) 2 6).bind fun t153 => (some t153)) else (some false)))) (congrArg lim (funext fun k => by with_reducible exact impl_isCounted.f.eq_1 _ _ )) (lim_bind_to (impl_isOrder.f.m _ ) (fun t152 => (Mono.const _)) (fun t152 => (lim_const _)))
end Go.Proofs.Ytheeffchjdkhnaa.PCf
