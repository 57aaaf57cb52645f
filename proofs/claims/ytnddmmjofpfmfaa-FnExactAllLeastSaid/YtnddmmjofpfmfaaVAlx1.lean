/- The values of the printed functions, without rounds, and the equations that they meet. Written by a program of this session (vgen.py). -/
import Derived.Test.YtnddmmjofpfmfaaPAlx1
import Derived.Test.YtnddmmjofpfmfaaLim
namespace Go.Proofs.Ytnddmmjofpfmfaa.PAl
open Go.RowKit Go.Proofs.YtnddmmjofpfmfaaW.PrintWords Go.Proofs.YtnddmmjofpfmfaaW.PrintLast Go.Proofs.YtnddmmjofpfmfaaW.PrintMore Go.Proofs.YtnddmmjofpfmfaaL
set_option linter.unusedVariables false
set_option maxRecDepth 100000
theorem laws_eqIntS.l0.m (x0 : List Int) (x1 : List Int) (x5 : Int) : Mono (fun k => laws_eqIntS.l0 k x0 x1 x5) := fun k => (laws_eqIntS.mono_l k) x0 x1 x5
noncomputable def laws_eqIntS.l0.v (x0 : List Int) (x1 : List Int) (x5 : Int) : Option (Bool) := lim (fun k => laws_eqIntS.l0 k x0 x1 x5)
theorem laws_eqIntS.f.m (l0 : List Int) (l1 : List Int) : Mono (fun k => laws_eqIntS.f k l0 l1) := fun k => laws_eqIntS.mono l0 l1 k
noncomputable def laws_eqIntS.f.v (l0 : List Int) (l1 : List Int) : Option (Bool) := lim (fun k => laws_eqIntS.f k l0 l1)
theorem laws_eqIntS.f.ends (l0 : List Int) (l1 : List Int) {r : _} (h : laws_eqIntS.f.v l0 l1 = some r) : ∃ k, laws_eqIntS.f k l0 l1 = some r := lim_some h
theorem laws_markIntS.l0.m (x0 : List Int) (x1 : Int) (x5 : Int) : Mono (fun k => laws_markIntS.l0 k x0 x1 x5) := fun k => (laws_markIntS.mono_l k) x0 x1 x5
noncomputable def laws_markIntS.l0.v (x0 : List Int) (x1 : Int) (x5 : Int) : Option (Int × List Int) := lim (fun k => laws_markIntS.l0 k x0 x1 x5)
theorem laws_markIntS.f.m (l0 : List Int) (a1 : Int) : Mono (fun k => laws_markIntS.f k l0 a1) := fun k => laws_markIntS.mono l0 a1 k
noncomputable def laws_markIntS.f.v (l0 : List Int) (a1 : Int) : Option (Int × List Int) := lim (fun k => laws_markIntS.f k l0 a1)
theorem laws_markIntS.f.ends (l0 : List Int) (a1 : Int) {r : _} (h : laws_markIntS.f.v l0 a1 = some r) : ∃ k, laws_markIntS.f k l0 a1 = some r := lim_some h
theorem laws_toIntS.l0.m (x0 : List Int) (x3 : List Int) (x4 : Int) : Mono (fun k => laws_toIntS.l0 k x0 x3 x4) := fun k => (laws_toIntS.mono_l k) x0 x3 x4
noncomputable def laws_toIntS.l0.v (x0 : List Int) (x3 : List Int) (x4 : Int) : Option (List Int) := lim (fun k => laws_toIntS.l0 k x0 x3 x4)
theorem laws_toIntS.f.m (l0 : List Int) : Mono (fun k => laws_toIntS.f k l0) := fun k => laws_toIntS.mono l0 k
noncomputable def laws_toIntS.f.v (l0 : List Int) : Option (List Int) := lim (fun k => laws_toIntS.f k l0)
theorem laws_toIntS.f.ends (l0 : List Int) {r : _} (h : laws_toIntS.f.v l0 = some r) : ∃ k, laws_toIntS.f k l0 = some r := lim_some h
theorem laws_eqIntS.l0.v_eq (x0 : List Int) (x1 : List Int) (x5 : Int) : laws_eqIntS.l0.v x0 x1 x5 = if x5 < (x0.length : Int) then (if 0 ≤ x5 then (if x5 < (x1.length : Int) then (if (rd x0 x5) = (rd x1 x5) then (laws_eqIntS.l0.v x0 x1 (wrap64 (x5 + 1))) else (some false)) else (none)) else (none)) else (some true) :=
  Eq.trans (b := lim (fun k => if x5 < (x0.length : Int) then (if 0 ≤ x5 then (if x5 < (x1.length : Int) then (if (rd x0 x5) = (rd x1 x5) then (laws_eqIntS.l0 k x0 x1 (wrap64 (x5 + 1))) else (some false)) else (none)) else (none)) else (some true))) (lim_eq (laws_eqIntS.l0.m x0 x1 x5) (fun k => by with_reducible exact laws_eqIntS.l0.eq_2 _ _ _ _ )) (lim_ite_to (lim_ite_to (lim_ite_to (lim_ite_to rfl (lim_const _)) (lim_const _)) (lim_const _)) (lim_const _))
theorem laws_eqIntS.f.v_eq (l0 : List Int) (l1 : List Int) : laws_eqIntS.f.v l0 l1 = if (l0.length : Int) = (l1.length : Int) then (laws_eqIntS.l0.v l0 l1 0) else (some false) :=
  Eq.trans (b := lim (fun k => if (l0.length : Int) = (l1.length : Int) then (laws_eqIntS.l0 k l0 l1 0) else (some false))) (congrArg lim (funext fun k => by with_reducible exact laws_eqIntS.f.eq_1 _ _ _ )) (lim_ite_to rfl (lim_const _))
theorem laws_markIntS.l0.v_eq (x0 : List Int) (x1 : Int) (x5 : Int) : laws_markIntS.l0.v x0 x1 x5 = if x5 < (x0.length : Int) then (if 0 ≤ x5 then (laws_markIntS.l0.v (x0.set (x5 : Int).toNat x1) (wrap64 (x1 + 1)) (wrap64 (x5 + 1))) else (none)) else (some (x1, x0)) :=
  Eq.trans (b := lim (fun k => if x5 < (x0.length : Int) then (if 0 ≤ x5 then (laws_markIntS.l0 k (x0.set (x5 : Int).toNat x1) (wrap64 (x1 + 1)) (wrap64 (x5 + 1))) else (none)) else (some (x1, x0)))) (lim_eq (laws_markIntS.l0.m x0 x1 x5) (fun k => by with_reducible exact laws_markIntS.l0.eq_2 _ _ _ _ )) (lim_ite_to (lim_ite_to rfl (lim_const _)) (lim_const _))
theorem laws_markIntS.f.v_eq (l0 : List Int) (a1 : Int) : laws_markIntS.f.v l0 a1 = laws_markIntS.l0.v l0 a1 0 :=
  Eq.trans (b := lim (fun k => laws_markIntS.l0 k l0 a1 0)) (congrArg lim (funext fun k => by with_reducible exact laws_markIntS.f.eq_1 _ _ _ )) rfl
theorem laws_toIntS.l0.v_eq (x0 : List Int) (x3 : List Int) (x4 : Int) : laws_toIntS.l0.v x0 x3 x4 = if x4 < (x0.length : Int) then (if 0 ≤ x4 then (if x4 < (x3.length : Int) then (laws_toIntS.l0.v x0 (x3.set (x4 : Int).toNat (rd x0 x4)) (wrap64 (x4 + 1))) else (none)) else (none)) else (some x3) :=
  Eq.trans (b := lim (fun k => if x4 < (x0.length : Int) then (if 0 ≤ x4 then (if x4 < (x3.length : Int) then (laws_toIntS.l0 k x0 (x3.set (x4 : Int).toNat (rd x0 x4)) (wrap64 (x4 + 1))) else (none)) else (none)) else (some x3))) (lim_eq (laws_toIntS.l0.m x0 x3 x4) (fun k => by with_reducible exact laws_toIntS.l0.eq_2 _ _ _ _ )) (lim_ite_to (lim_ite_to (lim_ite_to rfl (lim_const _)) (lim_const _)) (lim_const _))
theorem laws_toIntS.f.v_eq (l0 : List Int) : laws_toIntS.f.v l0 = if 0 ≤ (l0.length : Int) then (if ((l0.length : Int) : Int).toNat ≤ 35184372088832 then (laws_toIntS.l0.v l0 (List.replicate ((l0.length : Int) : Int).toNat 0) 0) else (none)) else (none) :=
  Eq.trans (b := lim (fun k => if 0 ≤ (l0.length : Int) then (if ((l0.length : Int) : Int).toNat ≤ 35184372088832 then (laws_toIntS.l0 k l0 (List.replicate ((l0.length : Int) : Int).toNat 0) 0) else (none)) else (none))) (congrArg lim (funext fun k => by with_reducible exact laws_toIntS.f.eq_1 _ _ )) (lim_ite_to (lim_ite_to rfl (lim_const _)) (lim_const _))
end Go.Proofs.Ytnddmmjofpfmfaa.PAl
