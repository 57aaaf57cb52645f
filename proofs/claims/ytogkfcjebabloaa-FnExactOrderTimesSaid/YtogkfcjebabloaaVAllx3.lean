/- The values of the printed functions, without rounds, and the equations that they meet. Written by a program of this session (vgen.py). -/
import Derived.Test.YtogkfcjebabloaaPAllx3
import Derived.Test.YtogkfcjebabloaaVAllx2
import Derived.Test.YtogkfcjebabloaaLim
namespace Go.Proofs.Ytogkfcjebabloaa.PAll
open Go.RowKit Go.Proofs.YtogkfcjebabloaaW.PrintWords Go.Proofs.YtogkfcjebabloaaW.PrintLast Go.Proofs.YtogkfcjebabloaaW.PrintMore Go.Proofs.YtogkfcjebabloaaL
set_option linter.unusedVariables false
set_option maxRecDepth 100000
theorem impl_back.l0.m (x3 : List Int) (x9 : List Int) (x10 : Int) (x11 : Int) : Mono (fun k => impl_back.l0 k x3 x9 x10 x11) := fun k => (impl_back.mono_l k) x3 x9 x10 x11
noncomputable def impl_back.l0.v (x3 : List Int) (x9 : List Int) (x10 : Int) (x11 : Int) : Option (List Int) := lim (fun k => impl_back.l0 k x3 x9 x10 x11)
theorem impl_back.f.m (l0 : List Int) : Mono (fun k => impl_back.f k l0) := fun k => impl_back.mono l0 k
noncomputable def impl_back.f.v (l0 : List Int) : Option (List Int) := lim (fun k => impl_back.f k l0)
theorem impl_back.f.ends (l0 : List Int) {r : _} (h : impl_back.f.v l0 = some r) : ∃ k, impl_back.f k l0 = some r := lim_some h
theorem impl_BackOrder.f.m (l0 : List Int) : Mono (fun k => impl_BackOrder.f k l0) := fun k => impl_BackOrder.mono l0 k
noncomputable def impl_BackOrder.f.v (l0 : List Int) : Option (List Int × Bool) := lim (fun k => impl_BackOrder.f k l0)
theorem impl_BackOrder.f.ends (l0 : List Int) {r : _} (h : impl_BackOrder.f.v l0 = some r) : ∃ k, impl_BackOrder.f k l0 = some r := lim_some h
theorem laws_eqIntS.l0.m (x0 : List Int) (x1 : List Int) (x5 : Int) : Mono (fun k => laws_eqIntS.l0 k x0 x1 x5) := fun k => (laws_eqIntS.mono_l k) x0 x1 x5
noncomputable def laws_eqIntS.l0.v (x0 : List Int) (x1 : List Int) (x5 : Int) : Option (Bool) := lim (fun k => laws_eqIntS.l0 k x0 x1 x5)
theorem laws_eqIntS.f.m (l0 : List Int) (l1 : List Int) : Mono (fun k => laws_eqIntS.f k l0 l1) := fun k => laws_eqIntS.mono l0 l1 k
noncomputable def laws_eqIntS.f.v (l0 : List Int) (l1 : List Int) : Option (Bool) := lim (fun k => laws_eqIntS.f k l0 l1)
theorem laws_eqIntS.f.ends (l0 : List Int) (l1 : List Int) {r : _} (h : laws_eqIntS.f.v l0 l1 = some r) : ∃ k, laws_eqIntS.f k l0 l1 = some r := lim_some h
theorem laws_markIntS.l0.m (x0 : List Int) (x1 : Int) (x5 : Int) : Mono (fun k => laws_markIntS.l0 k x0 x1 x5) := fun k => (laws_markIntS.mono_l k) x0 x1 x5
noncomputable def laws_markIntS.l0.v (x0 : List Int) (x1 : Int) (x5 : Int) : Option (Int × List Int) := lim (fun k => laws_markIntS.l0 k x0 x1 x5)
theorem laws_markIntS.f.m (l0 : List Int) (a1 : Int) : Mono (fun k => laws_markIntS.f k l0 a1) := fun k => laws_markIntS.mono l0 a1 k
noncomputable def laws_markIntS.f.v (l0 : List Int) (a1 : Int) : Option (Int × List Int) := lim (fun k => laws_markIntS.f k l0 a1)
theorem laws_markIntS.f.ends (l0 : List Int) (a1 : Int) {r : _} (h : laws_markIntS.f.v l0 a1 = some r) : ∃ k, laws_markIntS.f k l0 a1 = some r := lim_some h
theorem laws_heldIntS.l0.m (x0 : List Int) (x1 : Int) (x5 : Int) : Mono (fun k => laws_heldIntS.l0 k x0 x1 x5) := fun k => (laws_heldIntS.mono_l k) x0 x1 x5
noncomputable def laws_heldIntS.l0.v (x0 : List Int) (x1 : Int) (x5 : Int) : Option (Int) := lim (fun k => laws_heldIntS.l0 k x0 x1 x5)
theorem laws_heldIntS.f.m (l0 : List Int) (a1 : Int) : Mono (fun k => laws_heldIntS.f k l0 a1) := fun k => laws_heldIntS.mono l0 a1 k
noncomputable def laws_heldIntS.f.v (l0 : List Int) (a1 : Int) : Option (Int) := lim (fun k => laws_heldIntS.f k l0 a1)
theorem laws_heldIntS.f.ends (l0 : List Int) (a1 : Int) {r : _} (h : laws_heldIntS.f.v l0 a1 = some r) : ∃ k, laws_heldIntS.f k l0 a1 = some r := lim_some h
theorem impl_back.l0.v_eq (x3 : List Int) (x9 : List Int) (x10 : Int) (x11 : Int) : impl_back.l0.v x3 x9 x10 x11 = if x11 < x10 then (if 0 ≤ x11 then (if x11 < (x9.length : Int) then (if 0 ≤ (rd x9 x11) then (if (rd x9 x11) < (x3.length : Int) then (impl_back.l0.v (x3.set ((rd x9 x11) : Int).toNat x11) x9 x10 (wrap64 (x11 + 1))) else (none)) else (none)) else (none)) else (none)) else (some x3) :=
  Eq.trans (b := lim (fun k => if x11 < x10 then (if 0 ≤ x11 then (if x11 < (x9.length : Int) then (if 0 ≤ (rd x9 x11) then (if (rd x9 x11) < (x3.length : Int) then (impl_back.l0 k (x3.set ((rd x9 x11) : Int).toNat x11) x9 x10 (wrap64 (x11 + 1))) else (none)) else (none)) else (none)) else (none)) else (some x3))) (lim_eq (impl_back.l0.m x3 x9 x10 x11) (fun k => by with_reducible exact impl_back.l0.eq_2 _ _ _ _ _ )) (lim_ite_to (lim_ite_to (lim_ite_to (lim_ite_to (lim_ite_to rfl (lim_const _)) (lim_const _)) (lim_const _)) (lim_const _)) (lim_const _))
theorem impl_back.f.v_eq (l0 : List Int) : impl_back.f.v l0 = if 0 ≤ (l0.length : Int) then (if ((l0.length : Int) : Int).toNat ≤ 35184372088832 then (impl_back.l0.v (List.replicate ((l0.length : Int) : Int).toNat 0) l0 (l0.length : Int) 0) else (none)) else (none) :=
  Eq.trans (b := lim (fun k => if 0 ≤ (l0.length : Int) then (if ((l0.length : Int) : Int).toNat ≤ 35184372088832 then (impl_back.l0 k (List.replicate ((l0.length : Int) : Int).toNat 0) l0 (l0.length : Int) 0) else (none)) else (none))) (congrArg lim (funext fun k => by with_reducible exact impl_back.f.eq_1 _ _ )) (lim_ite_to (lim_ite_to rfl (lim_const _)) (lim_const _))
theorem impl_BackOrder.f.v_eq (l0 : List Int) : impl_BackOrder.f.v l0 = (impl_isOrder.f.v l0).bind fun t143 => (if t143 = true then ((impl_back.f.v l0).bind fun t144 => (some (t144, true))) else (some (([] : List Int), false))) :=
  Eq.trans (b := lim (fun k => (impl_isOrder.f k l0).bind fun t143 => (if t143 = true then ((impl_back.f k l0).bind fun t144 => (some (t144, true))) else (some (([] : List Int), false))))) (congrArg lim (funext fun k => by with_reducible exact impl_BackOrder.f.eq_1 _ _ )) (lim_bind_to (impl_isOrder.f.m _ ) (fun t143 => (Mono.ite (Mono.bind (impl_back.f.m _ ) (fun t144 => (Mono.const _))) (Mono.const _))) (fun t143 => (lim_ite_to (lim_bind_to (impl_back.f.m _ ) (fun t144 => (Mono.const _)) (fun t144 => (lim_const _))) (lim_const _))))
theorem laws_eqIntS.l0.v_eq (x0 : List Int) (x1 : List Int) (x5 : Int) : laws_eqIntS.l0.v x0 x1 x5 = if x5 < (x0.length : Int) then (if 0 ≤ x5 then (if x5 < (x1.length : Int) then (if (rd x0 x5) = (rd x1 x5) then (laws_eqIntS.l0.v x0 x1 (wrap64 (x5 + 1))) else (some false)) else (none)) else (none)) else (some true) :=
  Eq.trans (b := lim (fun k => if x5 < (x0.length : Int) then (if 0 ≤ x5 then (if x5 < (x1.length : Int) then (if (rd x0 x5) = (rd x1 x5) then (laws_eqIntS.l0 k x0 x1 (wrap64 (x5 + 1))) else (some false)) else (none)) else (none)) else (some true))) (lim_eq (laws_eqIntS.l0.m x0 x1 x5) (fun k => by with_reducible exact laws_eqIntS.l0.eq_2 _ _ _ _ )) (lim_ite_to (lim_ite_to (lim_ite_to (lim_ite_to rfl (lim_const _)) (lim_const _)) (lim_const _)) (lim_const _))
theorem laws_eqIntS.f.v_eq (l0 : List Int) (l1 : List Int) : laws_eqIntS.f.v l0 l1 = if (l0.length : Int) = (l1.length : Int) then (laws_eqIntS.l0.v l0 l1 0) else (some false) :=
  Eq.trans (b := lim (fun k => if (l0.length : Int) = (l1.length : Int) then (laws_eqIntS.l0 k l0 l1 0) else (some false))) (congrArg lim (funext fun k => by with_reducible exact laws_eqIntS.f.eq_1 _ _ _ )) (lim_ite_to rfl (lim_const _))
theorem laws_markIntS.l0.v_eq (x0 : List Int) (x1 : Int) (x5 : Int) : laws_markIntS.l0.v x0 x1 x5 = if x5 < (x0.length : Int) then (if 0 ≤ x5 then (laws_markIntS.l0.v (x0.set (x5 : Int).toNat x1) (wrap64 (x1 + 1)) (wrap64 (x5 + 1))) else (none)) else (some (x1, x0)) :=
  Eq.trans (b := lim (fun k => if x5 < (x0.length : Int) then (if 0 ≤ x5 then (laws_markIntS.l0 k (x0.set (x5 : Int).toNat x1) (wrap64 (x1 + 1)) (wrap64 (x5 + 1))) else (none)) else (some (x1, x0)))) (lim_eq (laws_markIntS.l0.m x0 x1 x5) (fun k => by with_reducible exact laws_markIntS.l0.eq_2 _ _ _ _ )) (lim_ite_to (lim_ite_to rfl (lim_const _)) (lim_const _))
theorem laws_markIntS.f.v_eq (l0 : List Int) (a1 : Int) : laws_markIntS.f.v l0 a1 = laws_markIntS.l0.v l0 a1 0 :=
  Eq.trans (b := lim (fun k => laws_markIntS.l0 k l0 a1 0)) (congrArg lim (funext fun k => by with_reducible exact laws_markIntS.f.eq_1 _ _ _ )) rfl
theorem laws_heldIntS.l0.v_eq (x0 : List Int) (x1 : Int) (x5 : Int) : laws_heldIntS.l0.v x0 x1 x5 = if x5 < (x0.length : Int) then (if 0 ≤ x5 then (if (rd x0 x5) = x1 then (laws_heldIntS.l0.v x0 (wrap64 (x1 + 1)) (wrap64 (x5 + 1))) else (some (-1))) else (none)) else (some x1) :=
  Eq.trans (b := lim (fun k => if x5 < (x0.length : Int) then (if 0 ≤ x5 then (if (rd x0 x5) = x1 then (laws_heldIntS.l0 k x0 (wrap64 (x1 + 1)) (wrap64 (x5 + 1))) else (some (-1))) else (none)) else (some x1))) (lim_eq (laws_heldIntS.l0.m x0 x1 x5) (fun k => by with_reducible exact laws_heldIntS.l0.eq_2 _ _ _ _ )) (lim_ite_to (lim_ite_to (lim_ite_to rfl (lim_const _)) (lim_const _)) (lim_const _))
theorem laws_heldIntS.f.v_eq (l0 : List Int) (a1 : Int) : laws_heldIntS.f.v l0 a1 = laws_heldIntS.l0.v l0 a1 0 :=
  Eq.trans (b := lim (fun k => laws_heldIntS.l0 k l0 a1 0)) (congrArg lim (funext fun k => by with_reducible exact laws_heldIntS.f.eq_1 _ _ _ )) rfl
end Go.Proofs.Ytogkfcjebabloaa.PAll
