/- The values of the printed functions, without rounds, and the equations that they meet. Written by a program of this session (vgen.py). -/
import Derived.Test.YtogkfcjebabloaaPAllx14
import Derived.Test.YtogkfcjebabloaaVAllx1
import Derived.Test.YtogkfcjebabloaaVAllx9
import Derived.Test.YtogkfcjebabloaaLim
namespace Go.Proofs.Ytogkfcjebabloaa.PAll
open Go.RowKit Go.Proofs.YtogkfcjebabloaaW.PrintWords Go.Proofs.YtogkfcjebabloaaW.PrintLast Go.Proofs.YtogkfcjebabloaaW.PrintMore Go.Proofs.YtogkfcjebabloaaL
set_option linter.unusedVariables false
set_option maxRecDepth 100000
theorem spec_laCommon.l0.m (x0 : Int) (x1 : Int) : Mono (fun k => spec_laCommon.l0 k x0 x1) := fun k => (spec_laCommon.mono_l k) x0 x1
noncomputable def spec_laCommon.l0.v (x0 : Int) (x1 : Int) : Option (Int) := lim (fun k => spec_laCommon.l0 k x0 x1)
theorem spec_laCommon.f.m (a0 : Int) (a1 : Int) : Mono (fun k => spec_laCommon.f k a0 a1) := fun k => spec_laCommon.mono a0 a1 k
noncomputable def spec_laCommon.f.v (a0 : Int) (a1 : Int) : Option (Int) := lim (fun k => spec_laCommon.f k a0 a1)
theorem spec_laCommon.f.ends (a0 : Int) (a1 : Int) {r : _} (h : spec_laCommon.f.v a0 a1 = some r) : ∃ k, spec_laCommon.f k a0 a1 = some r := lim_some h
theorem spec_OrderTimes.l0.m (x4 : Int) (x11 : List (List Int)) (x12 : Int) (x13 : Int) : Mono (fun k => spec_OrderTimes.l0 k x4 x11 x12 x13) := fun k => (spec_OrderTimes.mono_l k) x4 x11 x12 x13
noncomputable def spec_OrderTimes.l0.v (x4 : Int) (x11 : List (List Int)) (x12 : Int) (x13 : Int) : Option (Int × Bool) := lim (fun k => spec_OrderTimes.l0 k x4 x11 x12 x13)
theorem spec_OrderTimes.f.m (l0 : List Int) : Mono (fun k => spec_OrderTimes.f k l0) := fun k => spec_OrderTimes.mono l0 k
noncomputable def spec_OrderTimes.f.v (l0 : List Int) : Option (Int × Bool) := lim (fun k => spec_OrderTimes.f k l0)
theorem spec_OrderTimes.f.ends (l0 : List Int) {r : _} (h : spec_OrderTimes.f.v l0 = some r) : ∃ k, spec_OrderTimes.f k l0 = some r := lim_some h
theorem slices_Equal_int_int.l0.m (x0 : List Int) (x1 : List Int) (x12 : Int) (x13 : Int) : Mono (fun k => slices_Equal_int_int.l0 k x0 x1 x12 x13) := fun k => (slices_Equal_int_int.mono_l k) x0 x1 x12 x13
noncomputable def slices_Equal_int_int.l0.v (x0 : List Int) (x1 : List Int) (x12 : Int) (x13 : Int) : Option (Bool) := lim (fun k => slices_Equal_int_int.l0 k x0 x1 x12 x13)
theorem slices_Equal_int_int.f.m (l0 : List Int) (l1 : List Int) : Mono (fun k => slices_Equal_int_int.f k l0 l1) := fun k => slices_Equal_int_int.mono l0 l1 k
noncomputable def slices_Equal_int_int.f.v (l0 : List Int) (l1 : List Int) : Option (Bool) := lim (fun k => slices_Equal_int_int.f k l0 l1)
theorem slices_Equal_int_int.f.ends (l0 : List Int) (l1 : List Int) {r : _} (h : slices_Equal_int_int.f.v l0 l1 = some r) : ∃ k, slices_Equal_int_int.f k l0 l1 = some r := lim_some h
theorem impl_identity.l0.m (x3 : List Int) (x6 : Int) (x7 : Int) : Mono (fun k => impl_identity.l0 k x3 x6 x7) := fun k => (impl_identity.mono_l k) x3 x6 x7
noncomputable def impl_identity.l0.v (x3 : List Int) (x6 : Int) (x7 : Int) : Option (List Int) := lim (fun k => impl_identity.l0 k x3 x6 x7)
theorem impl_identity.f.m (a0 : Int) : Mono (fun k => impl_identity.f k a0) := fun k => impl_identity.mono a0 k
noncomputable def impl_identity.f.v (a0 : Int) : Option (List Int) := lim (fun k => impl_identity.f k a0)
theorem impl_identity.f.ends (a0 : Int) {r : _} (h : impl_identity.f.v a0 = some r) : ∃ k, impl_identity.f k a0 = some r := lim_some h
theorem spec_laCommon.l0.v_eq (x0 : Int) (x1 : Int) : spec_laCommon.l0.v x0 x1 = if x1 > 0 then (if x1 = 0 then (none) else (spec_laCommon.l0.v x1 (Int.tmod x0 x1))) else (some x0) :=
  Eq.trans (b := lim (fun k => if x1 > 0 then (if x1 = 0 then (none) else (spec_laCommon.l0 k x1 (Int.tmod x0 x1))) else (some x0))) (lim_eq (spec_laCommon.l0.m x0 x1) (fun k => by with_reducible exact spec_laCommon.l0.eq_2 _ _ _ )) (lim_ite_to (lim_ite_to (lim_const _) rfl) (lim_const _))
theorem spec_laCommon.f.v_eq (a0 : Int) (a1 : Int) : spec_laCommon.f.v a0 a1 = spec_laCommon.l0.v a0 a1 :=
  Eq.trans (b := lim (fun k => spec_laCommon.l0 k a0 a1)) (congrArg lim (funext fun k => by with_reducible exact spec_laCommon.f.eq_1 _ _ _ )) rfl
theorem spec_OrderTimes.l0.v_eq (x4 : Int) (x11 : List (List Int)) (x12 : Int) (x13 : Int) : spec_OrderTimes.l0.v x4 x11 x12 x13 = if x13 < x12 then (if 0 ≤ x13 then (if x13 < (x11.length : Int) then ((spec_laCommon.f.v x4 ((rd_L1 x11 x13).length : Int)).bind fun t419 => (if t419 = 0 then (none) else (spec_OrderTimes.l0.v (wrap64 ((wrap64 (Int.tdiv x4 t419)) * ((rd_L1 x11 x13).length : Int))) x11 x12 (wrap64 (x13 + 1))))) else (none)) else (none)) else (some (x4, true)) :=
  Eq.trans (b := lim (fun k => if x13 < x12 then (if 0 ≤ x13 then (if x13 < (x11.length : Int) then ((spec_laCommon.f k x4 ((rd_L1 x11 x13).length : Int)).bind fun t419 => (if t419 = 0 then (none) else (spec_OrderTimes.l0 k (wrap64 ((wrap64 (Int.tdiv x4 t419)) * ((rd_L1 x11 x13).length : Int))) x11 x12 (wrap64 (x13 + 1))))) else (none)) else (none)) else (some (x4, true)))) (lim_eq (spec_OrderTimes.l0.m x4 x11 x12 x13) (fun k => by with_reducible exact spec_OrderTimes.l0.eq_2 _ _ _ _ _ )) (lim_ite_to (lim_ite_to (lim_ite_to (lim_bind_to (spec_laCommon.f.m _ _ ) (fun t419 => (Mono.ite (Mono.const _) (spec_OrderTimes.l0.m _ _ _ _ ))) (fun t419 => (lim_ite_to (lim_const _) rfl))) (lim_const _)) (lim_const _)) (lim_const _))
theorem spec_OrderTimes.f.v_eq (l0 : List Int) : spec_OrderTimes.f.v l0 = (spec_laOrder.f.v l0).bind fun t414 => (if t414 = true then ((spec_laCycles.f.v l0).bind fun t415 => (spec_OrderTimes.l0.v 1 t415 (t415.length : Int) 0)) else (some (0, false))) :=
  Eq.trans (b := lim (fun k => (spec_laOrder.f k l0).bind fun t414 => (if t414 = true then ((spec_laCycles.f k l0).bind fun t415 => (spec_OrderTimes.l0 k 1 t415 (t415.length : Int) 0)) else (some (0, false))))) (congrArg lim (funext fun k => by with_reducible exact spec_OrderTimes.f.eq_1 _ _ )) (lim_bind_to (spec_laOrder.f.m _ ) (fun t414 => (Mono.ite (Mono.bind (spec_laCycles.f.m _ ) (fun t415 => (spec_OrderTimes.l0.m _ _ _ _ ))) (Mono.const _))) (fun t414 => (lim_ite_to (lim_bind_to (spec_laCycles.f.m _ ) (fun t415 => (spec_OrderTimes.l0.m _ _ _ _ )) (fun t415 => rfl)) (lim_const _))))
theorem slices_Equal_int_int.l0.v_eq (x0 : List Int) (x1 : List Int) (x12 : Int) (x13 : Int) : slices_Equal_int_int.l0.v x0 x1 x12 x13 = if x13 < x12 then (if 0 ≤ x13 then (if x13 < (x0.length : Int) then (if x13 < (x1.length : Int) then (if (rd x0 x13) = (rd x1 x13) then (slices_Equal_int_int.l0.v x0 x1 x12 (wrap64 (x13 + 1))) else (some false)) else (none)) else (none)) else (none)) else (some true) :=
  Eq.trans (b := lim (fun k => if x13 < x12 then (if 0 ≤ x13 then (if x13 < (x0.length : Int) then (if x13 < (x1.length : Int) then (if (rd x0 x13) = (rd x1 x13) then (slices_Equal_int_int.l0 k x0 x1 x12 (wrap64 (x13 + 1))) else (some false)) else (none)) else (none)) else (none)) else (some true))) (lim_eq (slices_Equal_int_int.l0.m x0 x1 x12 x13) (fun k => by with_reducible exact slices_Equal_int_int.l0.eq_2 _ _ _ _ _ )) (lim_ite_to (lim_ite_to (lim_ite_to (lim_ite_to (lim_ite_to rfl (lim_const _)) (lim_const _)) (lim_const _)) (lim_const _)) (lim_const _))
theorem slices_Equal_int_int.f.v_eq (l0 : List Int) (l1 : List Int) : slices_Equal_int_int.f.v l0 l1 = if (l0.length : Int) = (l1.length : Int) then (slices_Equal_int_int.l0.v l0 l1 (l0.length : Int) 0) else (some false) :=
  Eq.trans (b := lim (fun k => if (l0.length : Int) = (l1.length : Int) then (slices_Equal_int_int.l0 k l0 l1 (l0.length : Int) 0) else (some false))) (congrArg lim (funext fun k => by with_reducible exact slices_Equal_int_int.f.eq_1 _ _ _ )) (lim_ite_to rfl (lim_const _))
theorem impl_identity.l0.v_eq (x3 : List Int) (x6 : Int) (x7 : Int) : impl_identity.l0.v x3 x6 x7 = if x7 < x6 then (if x3.length < 17592186044416 then (impl_identity.l0.v (x3 ++ [x7]) x6 (wrap64 (x7 + 1))) else (none)) else (some x3) :=
  Eq.trans (b := lim (fun k => if x7 < x6 then (if x3.length < 17592186044416 then (impl_identity.l0 k (x3 ++ [x7]) x6 (wrap64 (x7 + 1))) else (none)) else (some x3))) (lim_eq (impl_identity.l0.m x3 x6 x7) (fun k => by with_reducible exact impl_identity.l0.eq_2 _ _ _ _ )) (lim_ite_to (lim_ite_to rfl (lim_const _)) (lim_const _))
theorem impl_identity.f.v_eq (a0 : Int) : impl_identity.f.v a0 = impl_identity.l0.v (([] : List Int)) a0 0 :=
  Eq.trans (b := lim (fun k => impl_identity.l0 k (([] : List Int)) a0 0)) (congrArg lim (funext fun k => by with_reducible exact impl_identity.f.eq_1 _ _ )) rfl
end Go.Proofs.Ytogkfcjebabloaa.PAll
