/- The values of the printed functions, without rounds, and the equations that they meet. Written by a program of this session (vgen.py). -/
import Derived.Test.YtnddmmjofpfmfaaPLrx1
import Derived.Test.YtnddmmjofpfmfaaLim
namespace Go.Proofs.Ytnddmmjofpfmfaa.PLr
open Go.RowKit Go.Proofs.YtnddmmjofpfmfaaW.PrintWords Go.Proofs.YtnddmmjofpfmfaaW.PrintLast Go.Proofs.YtnddmmjofpfmfaaW.PrintMore Go.Proofs.YtnddmmjofpfmfaaL
set_option linter.unusedVariables false
set_option maxRecDepth 100000
theorem laws_eqIntS.l0.m (x0 : List Int) (x1 : List Int) (x5 : Int) : Mono (fun k => laws_eqIntS.l0 k x0 x1 x5) := fun k => (laws_eqIntS.mono_l k) x0 x1 x5
noncomputable def laws_eqIntS.l0.v (x0 : List Int) (x1 : List Int) (x5 : Int) : Option (Bool) := lim (fun k => laws_eqIntS.l0 k x0 x1 x5)
theorem laws_eqIntS.f.m (l0 : List Int) (l1 : List Int) : Mono (fun k => laws_eqIntS.f k l0 l1) := fun k => laws_eqIntS.mono l0 l1 k
noncomputable def laws_eqIntS.f.v (l0 : List Int) (l1 : List Int) : Option (Bool) := lim (fun k => laws_eqIntS.f k l0 l1)
theorem laws_eqIntS.f.ends (l0 : List Int) (l1 : List Int) {r : _} (h : laws_eqIntS.f.v l0 l1 = some r) : ∃ k, laws_eqIntS.f k l0 l1 = some r := lim_some h
theorem laws_markIntS.l0.m (x0 : List Int) (x1 : Int) (x5 : Int) : Mono (fun k => laws_markIntS.l0 k x0 x1 x5) := fun k => (laws_markIntS.mono_l k) x0 x1 x5
noncomputable def laws_markIntS.l0.v (x0 : List Int) (x1 : Int) (x5 : Int) : Option (Int × List Int) := lim (fun k => laws_markIntS.l0 k x0 x1 x5)
theorem laws_markIntS.f.m (l0 : List Int) (a1 : Int) : Mono (fun k => laws_markIntS.f k l0 a1) := fun k => laws_markIntS.mono l0 a1 k
noncomputable def laws_markIntS.f.v (l0 : List Int) (a1 : Int) : Option (Int × List Int) := lim (fun k => laws_markIntS.f k l0 a1)
theorem laws_markIntS.f.ends (l0 : List Int) (a1 : Int) {r : _} (h : laws_markIntS.f.v l0 a1 = some r) : ∃ k, laws_markIntS.f k l0 a1 = some r := lim_some h
theorem spec_lsInversions.l0.m (x0 : List Int) (x3 : List (List Int)) (x7 : Int) (x8 : Int) : Mono (fun k => spec_lsInversions.l0 k x0 x3 x7 x8) := fun k => (spec_lsInversions.mono_l k).1 x0 x3 x7 x8
noncomputable def spec_lsInversions.l0.v (x0 : List Int) (x3 : List (List Int)) (x7 : Int) (x8 : Int) : Option ((List (List Int))) := lim (fun k => spec_lsInversions.l0 k x0 x3 x7 x8)
theorem spec_lsInversions.l1.m (x0 : List Int) (x3 : List (List Int)) (x4 : Int) (x5 : Int) (x7 : Int) (x8 : Int) : Mono (fun k => spec_lsInversions.l1 k x0 x3 x4 x5 x7 x8) := fun k => (spec_lsInversions.mono_l k).2 x0 x3 x4 x5 x7 x8
noncomputable def spec_lsInversions.l1.v (x0 : List Int) (x3 : List (List Int)) (x4 : Int) (x5 : Int) (x7 : Int) (x8 : Int) : Option ((List (List Int))) := lim (fun k => spec_lsInversions.l1 k x0 x3 x4 x5 x7 x8)
theorem spec_lsInversions.f.m (l0 : List Int) : Mono (fun k => spec_lsInversions.f k l0) := fun k => spec_lsInversions.mono l0 k
noncomputable def spec_lsInversions.f.v (l0 : List Int) : Option ((List (List Int))) := lim (fun k => spec_lsInversions.f k l0)
theorem spec_lsInversions.f.ends (l0 : List Int) {r : _} (h : spec_lsInversions.f.v l0 = some r) : ∃ k, spec_lsInversions.f k l0 = some r := lim_some h
theorem laws_eqIntS.l0.v_eq (x0 : List Int) (x1 : List Int) (x5 : Int) : laws_eqIntS.l0.v x0 x1 x5 = if x5 < (x0.length : Int) then (if 0 ≤ x5 then (if x5 < (x1.length : Int) then (if (rd x0 x5) = (rd x1 x5) then (laws_eqIntS.l0.v x0 x1 (wrap64 (x5 + 1))) else (some false)) else (none)) else (none)) else (some true) :=
  Eq.trans (b := lim (fun k => if x5 < (x0.length : Int) then (if 0 ≤ x5 then (if x5 < (x1.length : Int) then (if (rd x0 x5) = (rd x1 x5) then (laws_eqIntS.l0 k x0 x1 (wrap64 (x5 + 1))) else (some false)) else (none)) else (none)) else (some true))) (lim_eq (laws_eqIntS.l0.m x0 x1 x5) (fun k => by with_reducible exact laws_eqIntS.l0.eq_2 _ _ _ _ )) (lim_ite_to (lim_ite_to (lim_ite_to (lim_ite_to rfl (lim_const _)) (lim_const _)) (lim_const _)) (lim_const _))
theorem laws_eqIntS.f.v_eq (l0 : List Int) (l1 : List Int) : laws_eqIntS.f.v l0 l1 = if (l0.length : Int) = (l1.length : Int) then (laws_eqIntS.l0.v l0 l1 0) else (some false) :=
  Eq.trans (b := lim (fun k => if (l0.length : Int) = (l1.length : Int) then (laws_eqIntS.l0 k l0 l1 0) else (some false))) (congrArg lim (funext fun k => by with_reducible exact laws_eqIntS.f.eq_1 _ _ _ )) (lim_ite_to rfl (lim_const _))
theorem laws_markIntS.l0.v_eq (x0 : List Int) (x1 : Int) (x5 : Int) : laws_markIntS.l0.v x0 x1 x5 = if x5 < (x0.length : Int) then (if 0 ≤ x5 then (laws_markIntS.l0.v (x0.set (x5 : Int).toNat x1) (wrap64 (x1 + 1)) (wrap64 (x5 + 1))) else (none)) else (some (x1, x0)) :=
  Eq.trans (b := lim (fun k => if x5 < (x0.length : Int) then (if 0 ≤ x5 then (laws_markIntS.l0 k (x0.set (x5 : Int).toNat x1) (wrap64 (x1 + 1)) (wrap64 (x5 + 1))) else (none)) else (some (x1, x0)))) (lim_eq (laws_markIntS.l0.m x0 x1 x5) (fun k => by with_reducible exact laws_markIntS.l0.eq_2 _ _ _ _ )) (lim_ite_to (lim_ite_to rfl (lim_const _)) (lim_const _))
theorem laws_markIntS.f.v_eq (l0 : List Int) (a1 : Int) : laws_markIntS.f.v l0 a1 = laws_markIntS.l0.v l0 a1 0 :=
  Eq.trans (b := lim (fun k => laws_markIntS.l0 k l0 a1 0)) (congrArg lim (funext fun k => by with_reducible exact laws_markIntS.f.eq_1 _ _ _ )) rfl
theorem spec_lsInversions.l0.v_eq (x0 : List Int) (x3 : List (List Int)) (x7 : Int) (x8 : Int) : spec_lsInversions.l0.v x0 x3 x7 x8 = if x8 < x7 then (spec_lsInversions.l1.v x0 x3 x8 (wrap64 (x8 + 1)) x7 x8) else (some x3) :=
  Eq.trans (b := lim (fun k => if x8 < x7 then (spec_lsInversions.l1 k x0 x3 x8 (wrap64 (x8 + 1)) x7 x8) else (some x3))) (lim_eq (spec_lsInversions.l0.m x0 x3 x7 x8) (fun k => by with_reducible exact spec_lsInversions.l0.eq_2 _ _ _ _ _ )) (lim_ite_to rfl (lim_const _))
theorem spec_lsInversions.l1.v_eq (x0 : List Int) (x3 : List (List Int)) (x4 : Int) (x5 : Int) (x7 : Int) (x8 : Int) : spec_lsInversions.l1.v x0 x3 x4 x5 x7 x8 = if x5 < (x0.length : Int) then (if 0 ≤ x4 then (if x4 < (x0.length : Int) then (if 0 ≤ x5 then (if (rd x0 x4) > (rd x0 x5) then (if x3.length < 5864062014805 then (spec_lsInversions.l1.v x0 (x3 ++ [(([x4, x5] : List Int))]) x4 (wrap64 (x5 + 1)) x7 x8) else (none)) else (spec_lsInversions.l1.v x0 x3 x4 (wrap64 (x5 + 1)) x7 x8)) else (none)) else (none)) else (none)) else (spec_lsInversions.l0.v x0 x3 x7 (wrap64 (x8 + 1))) :=
  Eq.trans (b := lim (fun k => if x5 < (x0.length : Int) then (if 0 ≤ x4 then (if x4 < (x0.length : Int) then (if 0 ≤ x5 then (if (rd x0 x4) > (rd x0 x5) then (if x3.length < 5864062014805 then (spec_lsInversions.l1 k x0 (x3 ++ [(([x4, x5] : List Int))]) x4 (wrap64 (x5 + 1)) x7 x8) else (none)) else (spec_lsInversions.l1 k x0 x3 x4 (wrap64 (x5 + 1)) x7 x8)) else (none)) else (none)) else (none)) else (spec_lsInversions.l0 k x0 x3 x7 (wrap64 (x8 + 1))))) (lim_eq (spec_lsInversions.l1.m x0 x3 x4 x5 x7 x8) (fun k => by with_reducible exact spec_lsInversions.l1.eq_2 _ _ _ _ _ _ _ )) (lim_ite_to (lim_ite_to (lim_ite_to (lim_ite_to (lim_ite_to (lim_ite_to rfl (lim_const _)) rfl) (lim_const _)) (lim_const _)) (lim_const _)) rfl)
theorem spec_lsInversions.f.v_eq (l0 : List Int) : spec_lsInversions.f.v l0 = spec_lsInversions.l0.v l0 ([] : List (List Int)) (l0.length : Int) 0 :=
  Eq.trans (b := lim (fun k => spec_lsInversions.l0 k l0 ([] : List (List Int)) (l0.length : Int) 0)) (congrArg lim (funext fun k => by with_reducible exact spec_lsInversions.f.eq_1 _ _ )) rfl
end Go.Proofs.Ytnddmmjofpfmfaa.PLr
