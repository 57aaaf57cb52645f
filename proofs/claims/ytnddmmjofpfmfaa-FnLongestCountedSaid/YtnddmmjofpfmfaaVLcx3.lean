/- The values of the printed functions, without rounds, and the equations that they meet. Written by a program of this session (vgen.py). -/
import Derived.Test.YtnddmmjofpfmfaaPLcx3
import Derived.Test.YtnddmmjofpfmfaaLim
namespace Go.Proofs.Ytnddmmjofpfmfaa.PLc
open Go.RowKit Go.Proofs.YtnddmmjofpfmfaaW.PrintWords Go.Proofs.YtnddmmjofpfmfaaW.PrintLast Go.Proofs.YtnddmmjofpfmfaaW.PrintMore Go.Proofs.YtnddmmjofpfmfaaL
set_option linter.unusedVariables false
set_option maxRecDepth 100000
theorem impl_identity.l0.m (x3 : List Int) (x6 : Int) (x7 : Int) : Mono (fun k => impl_identity.l0 k x3 x6 x7) := fun k => (impl_identity.mono_l k) x3 x6 x7
noncomputable def impl_identity.l0.v (x3 : List Int) (x6 : Int) (x7 : Int) : Option (List Int) := lim (fun k => impl_identity.l0 k x3 x6 x7)
theorem impl_identity.f.m (a0 : Int) : Mono (fun k => impl_identity.f k a0) := fun k => impl_identity.mono a0 k
noncomputable def impl_identity.f.v (a0 : Int) : Option (List Int) := lim (fun k => impl_identity.f k a0)
theorem impl_identity.f.ends (a0 : Int) {r : _} (h : impl_identity.f.v a0 = some r) : ∃ k, impl_identity.f k a0 = some r := lim_some h
theorem impl_inverted.l0.m (x0 : List Int) (x3 : List (List Int)) (x8 : Int) (x9 : Int) : Mono (fun k => impl_inverted.l0 k x0 x3 x8 x9) := fun k => (impl_inverted.mono_l k).1 x0 x3 x8 x9
noncomputable def impl_inverted.l0.v (x0 : List Int) (x3 : List (List Int)) (x8 : Int) (x9 : Int) : Option ((List (List Int))) := lim (fun k => impl_inverted.l0 k x0 x3 x8 x9)
theorem impl_inverted.l1.m (x0 : List Int) (x3 : List (List Int)) (x4 : Int) (x5 : Int) (x8 : Int) (x9 : Int) : Mono (fun k => impl_inverted.l1 k x0 x3 x4 x5 x8 x9) := fun k => (impl_inverted.mono_l k).2 x0 x3 x4 x5 x8 x9
noncomputable def impl_inverted.l1.v (x0 : List Int) (x3 : List (List Int)) (x4 : Int) (x5 : Int) (x8 : Int) (x9 : Int) : Option ((List (List Int))) := lim (fun k => impl_inverted.l1 k x0 x3 x4 x5 x8 x9)
theorem impl_inverted.f.m (l0 : List Int) : Mono (fun k => impl_inverted.f k l0) := fun k => impl_inverted.mono l0 k
noncomputable def impl_inverted.f.v (l0 : List Int) : Option ((List (List Int))) := lim (fun k => impl_inverted.f k l0)
theorem impl_inverted.f.ends (l0 : List Int) {r : _} (h : impl_inverted.f.v l0 = some r) : ∃ k, impl_inverted.f k l0 = some r := lim_some h
theorem impl_inversions.f.m (l0 : List Int) : Mono (fun k => impl_inversions.f k l0) := fun k => impl_inversions.mono l0 k
noncomputable def impl_inversions.f.v (l0 : List Int) : Option (Int) := lim (fun k => impl_inversions.f k l0)
theorem impl_inversions.f.ends (l0 : List Int) {r : _} (h : impl_inversions.f.v l0 = some r) : ∃ k, impl_inversions.f k l0 = some r := lim_some h
theorem impl_descents.l0.m (x0 : List Int) (x3 : List Int) (x4 : Int) : Mono (fun k => impl_descents.l0 k x0 x3 x4) := fun k => (impl_descents.mono_l k) x0 x3 x4
noncomputable def impl_descents.l0.v (x0 : List Int) (x3 : List Int) (x4 : Int) : Option (List Int) := lim (fun k => impl_descents.l0 k x0 x3 x4)
theorem impl_descents.f.m (l0 : List Int) : Mono (fun k => impl_descents.f k l0) := fun k => impl_descents.mono l0 k
noncomputable def impl_descents.f.v (l0 : List Int) : Option (List Int) := lim (fun k => impl_descents.f k l0)
theorem impl_descents.f.ends (l0 : List Int) {r : _} (h : impl_descents.f.v l0 = some r) : ∃ k, impl_descents.f k l0 = some r := lim_some h
theorem impl_orderKey.l0.m (x3 : List Int) (x7 : List Int) (x8 : Int) (x9 : Int) : Mono (fun k => impl_orderKey.l0 k x3 x7 x8 x9) := fun k => (impl_orderKey.mono_l k) x3 x7 x8 x9
noncomputable def impl_orderKey.l0.v (x3 : List Int) (x7 : List Int) (x8 : Int) (x9 : Int) : Option (ByteArray) := lim (fun k => impl_orderKey.l0 k x3 x7 x8 x9)
theorem impl_orderKey.f.m (l0 : List Int) : Mono (fun k => impl_orderKey.f k l0) := fun k => impl_orderKey.mono l0 k
noncomputable def impl_orderKey.f.v (l0 : List Int) : Option (ByteArray) := lim (fun k => impl_orderKey.f k l0)
theorem impl_orderKey.f.ends (l0 : List Int) {r : _} (h : impl_orderKey.f.v l0 = some r) : ∃ k, impl_orderKey.f k l0 = some r := lim_some h
theorem impl_identity.l0.v_eq (x3 : List Int) (x6 : Int) (x7 : Int) : impl_identity.l0.v x3 x6 x7 = if x7 < x6 then (if x3.length < 17592186044416 then (impl_identity.l0.v (x3 ++ [x7]) x6 (wrap64 (x7 + 1))) else (none)) else (some x3) :=
  Eq.trans (b := lim (fun k => if x7 < x6 then (if x3.length < 17592186044416 then (impl_identity.l0 k (x3 ++ [x7]) x6 (wrap64 (x7 + 1))) else (none)) else (some x3))) (lim_eq (impl_identity.l0.m x3 x6 x7) (fun k => by with_reducible exact impl_identity.l0.eq_2 _ _ _ _ )) (lim_ite_to (lim_ite_to rfl (lim_const _)) (lim_const _))
theorem impl_identity.f.v_eq (a0 : Int) : impl_identity.f.v a0 = impl_identity.l0.v (([] : List Int)) a0 0 :=
  Eq.trans (b := lim (fun k => impl_identity.l0 k (([] : List Int)) a0 0)) (congrArg lim (funext fun k => by with_reducible exact impl_identity.f.eq_1 _ _ )) rfl
theorem impl_inverted.l0.v_eq (x0 : List Int) (x3 : List (List Int)) (x8 : Int) (x9 : Int) : impl_inverted.l0.v x0 x3 x8 x9 = if x9 < x8 then (impl_inverted.l1.v x0 x3 x9 (wrap64 (x9 + 1)) x8 x9) else (some x3) :=
  Eq.trans (b := lim (fun k => if x9 < x8 then (impl_inverted.l1 k x0 x3 x9 (wrap64 (x9 + 1)) x8 x9) else (some x3))) (lim_eq (impl_inverted.l0.m x0 x3 x8 x9) (fun k => by with_reducible exact impl_inverted.l0.eq_2 _ _ _ _ _ )) (lim_ite_to rfl (lim_const _))
theorem impl_inverted.l1.v_eq (x0 : List Int) (x3 : List (List Int)) (x4 : Int) (x5 : Int) (x8 : Int) (x9 : Int) : impl_inverted.l1.v x0 x3 x4 x5 x8 x9 = if x5 < (x0.length : Int) then (if 0 ≤ x4 then (if x4 < (x0.length : Int) then (if 0 ≤ x5 then (if (rd x0 x4) > (rd x0 x5) then (if x3.length < 5864062014805 then (impl_inverted.l1.v x0 (x3 ++ [(([x4, x5] : List Int))]) x4 (wrap64 (x5 + 1)) x8 x9) else (none)) else (impl_inverted.l1.v x0 x3 x4 (wrap64 (x5 + 1)) x8 x9)) else (none)) else (none)) else (none)) else (impl_inverted.l0.v x0 x3 x8 (wrap64 (x9 + 1))) :=
  Eq.trans (b := lim (fun k => if x5 < (x0.length : Int) then (if 0 ≤ x4 then (if x4 < (x0.length : Int) then (if 0 ≤ x5 then (if (rd x0 x4) > (rd x0 x5) then (if x3.length < 5864062014805 then (impl_inverted.l1 k x0 (x3 ++ [(([x4, x5] : List Int))]) x4 (wrap64 (x5 + 1)) x8 x9) else (none)) else (impl_inverted.l1 k x0 x3 x4 (wrap64 (x5 + 1)) x8 x9)) else (none)) else (none)) else (none)) else (impl_inverted.l0 k x0 x3 x8 (wrap64 (x9 + 1))))) (lim_eq (impl_inverted.l1.m x0 x3 x4 x5 x8 x9) (fun k => by with_reducible exact impl_inverted.l1.eq_2 _ _ _ _ _ _ _ )) (lim_ite_to (lim_ite_to (lim_ite_to (lim_ite_to (lim_ite_to (lim_ite_to rfl (lim_const _)) rfl) (lim_const _)) (lim_const _)) (lim_const _)) rfl)
theorem impl_inverted.f.v_eq (l0 : List Int) : impl_inverted.f.v l0 = impl_inverted.l0.v l0 (([] : List (List Int))) (l0.length : Int) 0 :=
  Eq.trans (b := lim (fun k => impl_inverted.l0 k l0 (([] : List (List Int))) (l0.length : Int) 0)) (congrArg lim (funext fun k => by with_reducible exact impl_inverted.f.eq_1 _ _ )) rfl
theorem impl_inversions.f.v_eq (l0 : List Int) : impl_inversions.f.v l0 = (impl_inverted.f.v l0).bind fun t172 => (some (t172.length : Int)) :=
  Eq.trans (b := lim (fun k => (impl_inverted.f k l0).bind fun t172 => (some (t172.length : Int)))) (congrArg lim (funext fun k => by with_reducible exact impl_inversions.f.eq_1 _ _ )) (lim_bind_to (impl_inverted.f.m _ ) (fun t172 => (Mono.const _)) (fun t172 => (lim_const _)))
theorem impl_descents.l0.v_eq (x0 : List Int) (x3 : List Int) (x4 : Int) : impl_descents.l0.v x0 x3 x4 = if (wrap64 (x4 + 1)) < (x0.length : Int) then (if 0 ≤ x4 then (if x4 < (x0.length : Int) then (if 0 ≤ (wrap64 (x4 + 1)) then (if (rd x0 x4) > (rd x0 (wrap64 (x4 + 1))) then (if x3.length < 17592186044416 then (impl_descents.l0.v x0 (x3 ++ [x4]) (wrap64 (x4 + 1))) else (none)) else (impl_descents.l0.v x0 x3 (wrap64 (x4 + 1)))) else (none)) else (none)) else (none)) else (some x3) :=
  Eq.trans (b := lim (fun k => if (wrap64 (x4 + 1)) < (x0.length : Int) then (if 0 ≤ x4 then (if x4 < (x0.length : Int) then (if 0 ≤ (wrap64 (x4 + 1)) then (if (rd x0 x4) > (rd x0 (wrap64 (x4 + 1))) then (if x3.length < 17592186044416 then (impl_descents.l0 k x0 (x3 ++ [x4]) (wrap64 (x4 + 1))) else (none)) else (impl_descents.l0 k x0 x3 (wrap64 (x4 + 1)))) else (none)) else (none)) else (none)) else (some x3))) (lim_eq (impl_descents.l0.m x0 x3 x4) (fun k => by with_reducible exact impl_descents.l0.eq_2 _ _ _ _ )) (lim_ite_to (lim_ite_to (lim_ite_to (lim_ite_to (lim_ite_to (lim_ite_to rfl (lim_const _)) rfl) (lim_const _)) (lim_const _)) (lim_const _)) (lim_const _))
theorem impl_descents.f.v_eq (l0 : List Int) : impl_descents.f.v l0 = impl_descents.l0.v l0 (([] : List Int)) 0 :=
  Eq.trans (b := lim (fun k => impl_descents.l0 k l0 (([] : List Int)) 0)) (congrArg lim (funext fun k => by with_reducible exact impl_descents.f.eq_1 _ _ )) rfl
theorem impl_orderKey.l0.v_eq (x3 : List Int) (x7 : List Int) (x8 : Int) (x9 : Int) : impl_orderKey.l0.v x3 x7 x8 x9 = if x9 < x8 then (if 0 ≤ x9 then (if x9 < (x7.length : Int) then (if x3.length < 140737488355328 then (impl_orderKey.l0.v (x3 ++ [(wrap64 (48 + (rd x7 x9))) % 256]) x7 x8 (wrap64 (x9 + 1))) else (none)) else (none)) else (none)) else (some (strOfNums x3)) :=
  Eq.trans (b := lim (fun k => if x9 < x8 then (if 0 ≤ x9 then (if x9 < (x7.length : Int) then (if x3.length < 140737488355328 then (impl_orderKey.l0 k (x3 ++ [(wrap64 (48 + (rd x7 x9))) % 256]) x7 x8 (wrap64 (x9 + 1))) else (none)) else (none)) else (none)) else (some (strOfNums x3)))) (lim_eq (impl_orderKey.l0.m x3 x7 x8 x9) (fun k => by with_reducible exact impl_orderKey.l0.eq_2 _ _ _ _ _ )) (lim_ite_to (lim_ite_to (lim_ite_to (lim_ite_to rfl (lim_const _)) (lim_const _)) (lim_const _)) (lim_const _))
theorem impl_orderKey.f.v_eq (l0 : List Int) : impl_orderKey.f.v l0 = impl_orderKey.l0.v (([] : List Int)) l0 (l0.length : Int) 0 :=
  Eq.trans (b := lim (fun k => impl_orderKey.l0 k (([] : List Int)) l0 (l0.length : Int) 0)) (congrArg lim (funext fun k => by with_reducible exact impl_orderKey.f.eq_1 _ _ )) rfl
end Go.Proofs.Ytnddmmjofpfmfaa.PLc
