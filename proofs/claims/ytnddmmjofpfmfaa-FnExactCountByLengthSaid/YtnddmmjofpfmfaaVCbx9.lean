/- The values of the printed functions, without rounds, and the equations that they meet. Written by a program of this session (vgen.py). -/
import Derived.Test.YtnddmmjofpfmfaaPCbx9
import Derived.Test.YtnddmmjofpfmfaaLim
namespace Go.Proofs.Ytnddmmjofpfmfaa.PCb
open Go.RowKit Go.Proofs.YtnddmmjofpfmfaaW.PrintWords Go.Proofs.YtnddmmjofpfmfaaW.PrintLast Go.Proofs.YtnddmmjofpfmfaaW.PrintMore Go.Proofs.YtnddmmjofpfmfaaL
set_option linter.unusedVariables false
set_option maxRecDepth 100000
theorem laws_eqIntS.l0.m (x0 : List Int) (x1 : List Int) (x5 : Int) : Mono (fun k => laws_eqIntS.l0 k x0 x1 x5) := fun k => (laws_eqIntS.mono_l k) x0 x1 x5
noncomputable def laws_eqIntS.l0.v (x0 : List Int) (x1 : List Int) (x5 : Int) : Option (Bool) := lim (fun k => laws_eqIntS.l0 k x0 x1 x5)
theorem laws_eqIntS.f.m (l0 : List Int) (l1 : List Int) : Mono (fun k => laws_eqIntS.f k l0 l1) := fun k => laws_eqIntS.mono l0 l1 k
noncomputable def laws_eqIntS.f.v (l0 : List Int) (l1 : List Int) : Option (Bool) := lim (fun k => laws_eqIntS.f k l0 l1)
theorem laws_eqIntS.f.ends (l0 : List Int) (l1 : List Int) {r : _} (h : laws_eqIntS.f.v l0 l1 = some r) : ∃ k, laws_eqIntS.f k l0 l1 = some r := lim_some h
theorem laws_markIntS.l0.m (x0 : List Int) (x1 : Int) (x5 : Int) : Mono (fun k => laws_markIntS.l0 k x0 x1 x5) := fun k => (laws_markIntS.mono_l k) x0 x1 x5
noncomputable def laws_markIntS.l0.v (x0 : List Int) (x1 : Int) (x5 : Int) : Option (Int × List Int) := lim (fun k => laws_markIntS.l0 k x0 x1 x5)
theorem laws_markIntS.f.m (l0 : List Int) (a1 : Int) : Mono (fun k => laws_markIntS.f k l0 a1) := fun k => laws_markIntS.mono l0 a1 k
noncomputable def laws_markIntS.f.v (l0 : List Int) (a1 : Int) : Option (Int × List Int) := lim (fun k => laws_markIntS.f k l0 a1)
theorem laws_markIntS.f.ends (l0 : List Int) (a1 : Int) {r : _} (h : laws_markIntS.f.v l0 a1 = some r) : ∃ k, laws_markIntS.f k l0 a1 = some r := lim_some h
theorem laws_heldIntS.l0.m (x0 : List Int) (x1 : Int) (x5 : Int) : Mono (fun k => laws_heldIntS.l0 k x0 x1 x5) := fun k => (laws_heldIntS.mono_l k) x0 x1 x5
noncomputable def laws_heldIntS.l0.v (x0 : List Int) (x1 : Int) (x5 : Int) : Option (Int) := lim (fun k => laws_heldIntS.l0 k x0 x1 x5)
theorem laws_heldIntS.f.m (l0 : List Int) (a1 : Int) : Mono (fun k => laws_heldIntS.f k l0 a1) := fun k => laws_heldIntS.mono l0 a1 k
noncomputable def laws_heldIntS.f.v (l0 : List Int) (a1 : Int) : Option (Int) := lim (fun k => laws_heldIntS.f k l0 a1)
theorem laws_heldIntS.f.ends (l0 : List Int) (a1 : Int) {r : _} (h : laws_heldIntS.f.v l0 a1 = some r) : ∃ k, laws_heldIntS.f k l0 a1 = some r := lim_some h
theorem laws_eqIntS.l0.v_eq (x0 : List Int) (x1 : List Int) (x5 : Int) : laws_eqIntS.l0.v x0 x1 x5 = if x5 < (x0.length : Int) then (if 0 ≤ x5 then (if x5 < (x1.length : Int) then (if (rd x0 x5) = (rd x1 x5) then (laws_eqIntS.l0.v x0 x1 (wrap64 (x5 + 1))) else (some false)) else (none)) else (none)) else (some true) :=
  Eq.trans (b := lim (fun k => if x5 < (x0.length : Int) then (if 0 ≤ x5 then (if x5 < (x1.length : Int) then (if (rd x0 x5) = (rd x1 x5) then (laws_eqIntS.l0 k x0 x1 (wrap64 (x5 + 1))) else (some false)) else (none)) else (none)) else (some true))) (lim_eq (laws_eqIntS.l0.m x0 x1 x5) (fun k => by with_reducible exact laws_eqIntS.l0.eq_2 _ _ _ _ )) (lim_ite_to (lim_ite_to (lim_ite_to (lim_ite_to rfl (lim_const _)) (lim_const _)) (lim_const _)) (lim_const _))
theorem laws_eqIntS.f.v_eq (l0 : List Int) (l1 : List Int) : laws_eqIntS.f.v l0 l1 = if (l0.length : Int) = (l1.length : Int) then (laws_eqIntS.l0.v l0 l1 0) else (some false) :=
  Eq.trans (b := lim (fun k => if (l0.length : Int) = (l1.length : Int) then (laws_eqIntS.l0 k l0 l1 0) else (some false))) (congrArg lim (funext fun k => by with_reducible exact laws_eqIntS.f.eq_1 _ _ _ )) (lim_ite_to rfl (lim_const _))
theorem laws_markIntS.l0.v_eq (x0 : List Int) (x1 : Int) (x5 : Int) : laws_markIntS.l0.v x0 x1 x5 = if x5 < (x0.length : Int) then (if 0 ≤ x5 then (laws_markIntS.l0.v (x0.set (x5 : Int).toNat x1) (wrap64 (x1 + 1)) (wrap64 (x5 + 1))) else (none)) else (some (x1, x0)) :=
  Eq.trans (b := lim (fun k => if x5 < (x0.length : Int) then (if 0 ≤ x5 then (laws_markIntS.l0 k (x0.set (x5 : Int).toNat x1) (wrap64 (x1 + 1)) (wrap64 (x5 + 1))) else (none)) else (some (x1, x0)))) (lim_eq (laws_markIntS.l0.m x0 x1 x5) (fun k => by with_reducible exact laws_markIntS.l0.eq_2 _ _ _ _ )) (lim_ite_to (lim_ite_to rfl (lim_const _)) (lim_const _))
theorem laws_markIntS.f.v_eq (l0 : List Int) (a1 : Int) : laws_markIntS.f.v l0 a1 = laws_markIntS.l0.v l0 a1 0 :=
  Eq.trans (b := lim (fun k => laws_markIntS.l0 k l0 a1 0)) (congrArg lim (funext fun k => by with_reducible exact laws_markIntS.f.eq_1 _ _ _ )) rfl
theorem laws_heldIntS.l0.v_eq (x0 : List Int) (x1 : Int) (x5 : Int) : laws_heldIntS.l0.v x0 x1 x5 = if x5 < (x0.length : Int) then (if 0 ≤ x5 then (if (rd x0 x5) = x1 then (laws_heldIntS.l0.v x0 (wrap64 (x1 + 1)) (wrap64 (x5 + 1))) else (some (-1))) else (none)) else (some x1) :=
  Eq.trans (b := lim (fun k => if x5 < (x0.length : Int) then (if 0 ≤ x5 then (if (rd x0 x5) = x1 then (laws_heldIntS.l0 k x0 (wrap64 (x1 + 1)) (wrap64 (x5 + 1))) else (some (-1))) else (none)) else (some x1))) (lim_eq (laws_heldIntS.l0.m x0 x1 x5) (fun k => by with_reducible exact laws_heldIntS.l0.eq_2 _ _ _ _ )) (lim_ite_to (lim_ite_to (lim_ite_to rfl (lim_const _)) (lim_const _)) (lim_const _))
theorem laws_heldIntS.f.v_eq (l0 : List Int) (a1 : Int) : laws_heldIntS.f.v l0 a1 = laws_heldIntS.l0.v l0 a1 0 :=
  Eq.trans (b := lim (fun k => laws_heldIntS.l0 k l0 a1 0)) (congrArg lim (funext fun k => by with_reducible exact laws_heldIntS.f.eq_1 _ _ _ )) rfl
end Go.Proofs.Ytnddmmjofpfmfaa.PCb
