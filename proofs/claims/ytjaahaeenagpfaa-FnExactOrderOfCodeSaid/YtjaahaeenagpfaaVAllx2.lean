/- The values of the printed functions, without rounds, and the equations that they meet. Written by a program of this session (vgen.py). -/
import Derived.Test.YtjaahaeenagpfaaPAllx2
import Derived.Test.YtjaahaeenagpfaaLim
namespace Go.Proofs.Ytjaahaeenagpfaa.PAll
open Go.RowKit Go.Proofs.YtjaahaeenagpfaaW.PrintWords Go.Proofs.YtjaahaeenagpfaaW.PrintLast Go.Proofs.YtjaahaeenagpfaaW.PrintMore Go.Proofs.YtjaahaeenagpfaaL
set_option linter.unusedVariables false
set_option maxRecDepth 100000
theorem spec_l1Has.l0.m (x1 : Int) (x7 : List Int) (x8 : Int) (x9 : Int) : Mono (fun k => spec_l1Has.l0 k x1 x7 x8 x9) := fun k => (spec_l1Has.mono_l k) x1 x7 x8 x9
noncomputable def spec_l1Has.l0.v (x1 : Int) (x7 : List Int) (x8 : Int) (x9 : Int) : Option (Bool) := lim (fun k => spec_l1Has.l0 k x1 x7 x8 x9)
theorem spec_l1Has.f.m (l0 : List Int) (a1 : Int) : Mono (fun k => spec_l1Has.f k l0 a1) := fun k => spec_l1Has.mono l0 a1 k
noncomputable def spec_l1Has.f.v (l0 : List Int) (a1 : Int) : Option (Bool) := lim (fun k => spec_l1Has.f k l0 a1)
theorem spec_l1Has.f.ends (l0 : List Int) (a1 : Int) {r : _} (h : spec_l1Has.f.v l0 a1 = some r) : ∃ k, spec_l1Has.f k l0 a1 = some r := lim_some h
theorem spec_laOrder.l0.m (x0 : List Int) (x9 : List Int) (x10 : Int) (x11 : Int) : Mono (fun k => spec_laOrder.l0 k x0 x9 x10 x11) := fun k => (spec_laOrder.mono_l k) x0 x9 x10 x11
noncomputable def spec_laOrder.l0.v (x0 : List Int) (x9 : List Int) (x10 : Int) (x11 : Int) : Option (Bool) := lim (fun k => spec_laOrder.l0 k x0 x9 x10 x11)
theorem spec_laOrder.f.m (l0 : List Int) : Mono (fun k => spec_laOrder.f k l0) := fun k => spec_laOrder.mono l0 k
noncomputable def spec_laOrder.f.v (l0 : List Int) : Option (Bool) := lim (fun k => spec_laOrder.f k l0)
theorem spec_laOrder.f.ends (l0 : List Int) {r : _} (h : spec_laOrder.f.v l0 = some r) : ∃ k, spec_laOrder.f k l0 = some r := lim_some h
theorem spec_IsOrder.f.m (l0 : List Int) : Mono (fun k => spec_IsOrder.f k l0) := fun k => spec_IsOrder.mono l0 k
noncomputable def spec_IsOrder.f.v (l0 : List Int) : Option (Bool) := lim (fun k => spec_IsOrder.f k l0)
theorem spec_IsOrder.f.ends (l0 : List Int) {r : _} (h : spec_IsOrder.f.v l0 = some r) : ∃ k, spec_IsOrder.f k l0 = some r := lim_some h
theorem laws_toIntS.l0.m (x0 : List Int) (x3 : List Int) (x4 : Int) : Mono (fun k => laws_toIntS.l0 k x0 x3 x4) := fun k => (laws_toIntS.mono_l k) x0 x3 x4
noncomputable def laws_toIntS.l0.v (x0 : List Int) (x3 : List Int) (x4 : Int) : Option (List Int) := lim (fun k => laws_toIntS.l0 k x0 x3 x4)
theorem laws_toIntS.f.m (l0 : List Int) : Mono (fun k => laws_toIntS.f k l0) := fun k => laws_toIntS.mono l0 k
noncomputable def laws_toIntS.f.v (l0 : List Int) : Option (List Int) := lim (fun k => laws_toIntS.f k l0)
theorem laws_toIntS.f.ends (l0 : List Int) {r : _} (h : laws_toIntS.f.v l0 = some r) : ∃ k, laws_toIntS.f k l0 = some r := lim_some h
theorem slices_Index_int_int.l0.m (x0 : List Int) (x1 : Int) (x7 : Int) (x8 : Int) : Mono (fun k => slices_Index_int_int.l0 k x0 x1 x7 x8) := fun k => (slices_Index_int_int.mono_l k) x0 x1 x7 x8
noncomputable def slices_Index_int_int.l0.v (x0 : List Int) (x1 : Int) (x7 : Int) (x8 : Int) : Option (Int) := lim (fun k => slices_Index_int_int.l0 k x0 x1 x7 x8)
theorem slices_Index_int_int.f.m (l0 : List Int) (a1 : Int) : Mono (fun k => slices_Index_int_int.f k l0 a1) := fun k => slices_Index_int_int.mono l0 a1 k
noncomputable def slices_Index_int_int.f.v (l0 : List Int) (a1 : Int) : Option (Int) := lim (fun k => slices_Index_int_int.f k l0 a1)
theorem slices_Index_int_int.f.ends (l0 : List Int) (a1 : Int) {r : _} (h : slices_Index_int_int.f.v l0 a1 = some r) : ∃ k, slices_Index_int_int.f k l0 a1 = some r := lim_some h
theorem spec_l1Has.l0.v_eq (x1 : Int) (x7 : List Int) (x8 : Int) (x9 : Int) : spec_l1Has.l0.v x1 x7 x8 x9 = if x9 < x8 then (if 0 ≤ x9 then (if x9 < (x7.length : Int) then (if (rd x7 x9) = x1 then (some true) else (spec_l1Has.l0.v x1 x7 x8 (wrap64 (x9 + 1)))) else (none)) else (none)) else (some false) :=
  Eq.trans (b := lim (fun k => if x9 < x8 then (if 0 ≤ x9 then (if x9 < (x7.length : Int) then (if (rd x7 x9) = x1 then (some true) else (spec_l1Has.l0 k x1 x7 x8 (wrap64 (x9 + 1)))) else (none)) else (none)) else (some false))) (lim_eq (spec_l1Has.l0.m x1 x7 x8 x9) (fun k => by with_reducible exact spec_l1Has.l0.eq_2 _ _ _ _ _ )) (lim_ite_to (lim_ite_to (lim_ite_to (lim_ite_to (lim_const _) rfl) (lim_const _)) (lim_const _)) (lim_const _))
theorem spec_l1Has.f.v_eq (l0 : List Int) (a1 : Int) : spec_l1Has.f.v l0 a1 = spec_l1Has.l0.v a1 l0 (l0.length : Int) 0 :=
  Eq.trans (b := lim (fun k => spec_l1Has.l0 k a1 l0 (l0.length : Int) 0)) (congrArg lim (funext fun k => by with_reducible exact spec_l1Has.f.eq_1 _ _ _ )) rfl
theorem spec_laOrder.l0.v_eq (x0 : List Int) (x9 : List Int) (x10 : Int) (x11 : Int) : spec_laOrder.l0.v x0 x9 x10 x11 = if x11 < x10 then (if 0 ≤ x11 then (if x11 < (x9.length : Int) then ((spec_l1In.f (rd x9 x11) 0 (wrap64 ((x0.length : Int) - 1))).bind fun t110 => (if t110 = true then (if x11 ≤ (x0.length : Int) then ((spec_l1Has.f.v (x0.take (x11 : Int).toNat) (rd x9 x11)).bind fun t115 => (if t115 = true then (some false) else (spec_laOrder.l0.v x0 x9 x10 (wrap64 (x11 + 1))))) else (none)) else (some false))) else (none)) else (none)) else (some true) :=
  Eq.trans (b := lim (fun k => if x11 < x10 then (if 0 ≤ x11 then (if x11 < (x9.length : Int) then ((spec_l1In.f (rd x9 x11) 0 (wrap64 ((x0.length : Int) - 1))).bind fun t110 => (if t110 = true then (if x11 ≤ (x0.length : Int) then ((spec_l1Has.f k (x0.take (x11 : Int).toNat) (rd x9 x11)).bind fun t115 => (if t115 = true then (some false) else (spec_laOrder.l0 k x0 x9 x10 (wrap64 (x11 + 1))))) else (none)) else (some false))) else (none)) else (none)) else (some true))) (lim_eq (spec_laOrder.l0.m x0 x9 x10 x11) (fun k => by with_reducible exact spec_laOrder.l0.eq_2 _ _ _ _ _ )) (lim_ite_to (lim_ite_to (lim_ite_to (lim_bindc_to (fun t110 => (lim_ite_to (lim_ite_to (lim_bind_to (spec_l1Has.f.m _ _ ) (fun t115 => (Mono.ite (Mono.const _) (spec_laOrder.l0.m _ _ _ _ ))) (fun t115 => (lim_ite_to (lim_const _) rfl))) (lim_const _)) (lim_const _)))) (lim_const _)) (lim_const _)) (lim_const _))
theorem spec_laOrder.f.v_eq (l0 : List Int) : spec_laOrder.f.v l0 = (spec_l1In.f (l0.length : Int) 1 8).bind fun t108 => (if t108 = true then (spec_laOrder.l0.v l0 l0 (l0.length : Int) 0) else (some false)) :=
  Eq.trans (b := lim (fun k => (spec_l1In.f (l0.length : Int) 1 8).bind fun t108 => (if t108 = true then (spec_laOrder.l0 k l0 l0 (l0.length : Int) 0) else (some false)))) (congrArg lim (funext fun k => by with_reducible exact spec_laOrder.f.eq_1 _ _ )) (lim_bindc_to (fun t108 => (lim_ite_to rfl (lim_const _))))
theorem spec_IsOrder.f.v_eq (l0 : List Int) : spec_IsOrder.f.v l0 = (spec_laOrder.f.v l0).bind fun t118 => (some t118) :=
  Eq.trans (b := lim (fun k => (spec_laOrder.f k l0).bind fun t118 => (some t118))) (congrArg lim (funext fun k => by with_reducible exact spec_IsOrder.f.eq_1 _ _ )) (lim_bind_to (spec_laOrder.f.m _ ) (fun t118 => (Mono.const _)) (fun t118 => (lim_const _)))
theorem laws_toIntS.l0.v_eq (x0 : List Int) (x3 : List Int) (x4 : Int) : laws_toIntS.l0.v x0 x3 x4 = if x4 < (x0.length : Int) then (if 0 ≤ x4 then (if x4 < (x3.length : Int) then (laws_toIntS.l0.v x0 (x3.set (x4 : Int).toNat (rd x0 x4)) (wrap64 (x4 + 1))) else (none)) else (none)) else (some x3) :=
  Eq.trans (b := lim (fun k => if x4 < (x0.length : Int) then (if 0 ≤ x4 then (if x4 < (x3.length : Int) then (laws_toIntS.l0 k x0 (x3.set (x4 : Int).toNat (rd x0 x4)) (wrap64 (x4 + 1))) else (none)) else (none)) else (some x3))) (lim_eq (laws_toIntS.l0.m x0 x3 x4) (fun k => by with_reducible exact laws_toIntS.l0.eq_2 _ _ _ _ )) (lim_ite_to (lim_ite_to (lim_ite_to rfl (lim_const _)) (lim_const _)) (lim_const _))
theorem laws_toIntS.f.v_eq (l0 : List Int) : laws_toIntS.f.v l0 = if 0 ≤ (l0.length : Int) then (if ((l0.length : Int) : Int).toNat ≤ 35184372088832 then (laws_toIntS.l0.v l0 (List.replicate ((l0.length : Int) : Int).toNat 0) 0) else (none)) else (none) :=
  Eq.trans (b := lim (fun k => if 0 ≤ (l0.length : Int) then (if ((l0.length : Int) : Int).toNat ≤ 35184372088832 then (laws_toIntS.l0 k l0 (List.replicate ((l0.length : Int) : Int).toNat 0) 0) else (none)) else (none))) (congrArg lim (funext fun k => by with_reducible exact laws_toIntS.f.eq_1 _ _ )) (lim_ite_to (lim_ite_to rfl (lim_const _)) (lim_const _))
theorem slices_Index_int_int.l0.v_eq (x0 : List Int) (x1 : Int) (x7 : Int) (x8 : Int) : slices_Index_int_int.l0.v x0 x1 x7 x8 = if x8 < x7 then (if 0 ≤ x8 then (if x8 < (x0.length : Int) then (if x1 = (rd x0 x8) then (some x8) else (slices_Index_int_int.l0.v x0 x1 x7 (wrap64 (x8 + 1)))) else (none)) else (none)) else (some (-1)) :=
  Eq.trans (b := lim (fun k => if x8 < x7 then (if 0 ≤ x8 then (if x8 < (x0.length : Int) then (if x1 = (rd x0 x8) then (some x8) else (slices_Index_int_int.l0 k x0 x1 x7 (wrap64 (x8 + 1)))) else (none)) else (none)) else (some (-1)))) (lim_eq (slices_Index_int_int.l0.m x0 x1 x7 x8) (fun k => by with_reducible exact slices_Index_int_int.l0.eq_2 _ _ _ _ _ )) (lim_ite_to (lim_ite_to (lim_ite_to (lim_ite_to (lim_const _) rfl) (lim_const _)) (lim_const _)) (lim_const _))
theorem slices_Index_int_int.f.v_eq (l0 : List Int) (a1 : Int) : slices_Index_int_int.f.v l0 a1 = slices_Index_int_int.l0.v l0 a1 (l0.length : Int) 0 :=
  Eq.trans (b := lim (fun k => slices_Index_int_int.l0 k l0 a1 (l0.length : Int) 0)) (congrArg lim (funext fun k => by with_reducible exact slices_Index_int_int.f.eq_1 _ _ _ )) rfl
end Go.Proofs.Ytjaahaeenagpfaa.PAll
