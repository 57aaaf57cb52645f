/- The values of the printed functions, without rounds, and the equations that they meet. Written by a program of this session (vgen.py). -/
import Derived.Test.YtnddmmjofpfmfaaPScx2
import Derived.Test.YtnddmmjofpfmfaaVScx1
import Derived.Test.YtnddmmjofpfmfaaLim
namespace Go.Proofs.Ytnddmmjofpfmfaa.PSc
open Go.RowKit Go.Proofs.YtnddmmjofpfmfaaW.PrintWords Go.Proofs.YtnddmmjofpfmfaaW.PrintLast Go.Proofs.YtnddmmjofpfmfaaW.PrintMore Go.Proofs.YtnddmmjofpfmfaaL
set_option linter.unusedVariables false
set_option maxRecDepth 100000
theorem laws_eqLadderS.l0.m (x0 : List (S31)) (x1 : List (S31)) (x5 : Int) : Mono (fun k => laws_eqLadderS.l0 k x0 x1 x5) := fun k => (laws_eqLadderS.mono_l k) x0 x1 x5
noncomputable def laws_eqLadderS.l0.v (x0 : List (S31)) (x1 : List (S31)) (x5 : Int) : Option (Bool) := lim (fun k => laws_eqLadderS.l0 k x0 x1 x5)
theorem laws_eqLadderS.f.m (l0 : List (S31)) (l1 : List (S31)) : Mono (fun k => laws_eqLadderS.f k l0 l1) := fun k => laws_eqLadderS.mono l0 l1 k
noncomputable def laws_eqLadderS.f.v (l0 : List (S31)) (l1 : List (S31)) : Option (Bool) := lim (fun k => laws_eqLadderS.f k l0 l1)
theorem laws_eqLadderS.f.ends (l0 : List (S31)) (l1 : List (S31)) {r : _} (h : laws_eqLadderS.f.v l0 l1 = some r) : ∃ k, laws_eqLadderS.f k l0 l1 = some r := lim_some h
theorem laws_markLadderS.l0.m (x0 : List S31) (x1 : Int) (x5 : Int) : Mono (fun k => laws_markLadderS.l0 k x0 x1 x5) := fun k => (laws_markLadderS.mono_l k) x0 x1 x5
noncomputable def laws_markLadderS.l0.v (x0 : List S31) (x1 : Int) (x5 : Int) : Option (Int × List S31) := lim (fun k => laws_markLadderS.l0 k x0 x1 x5)
theorem laws_markLadderS.f.m (l0 : List S31) (a1 : Int) : Mono (fun k => laws_markLadderS.f k l0 a1) := fun k => laws_markLadderS.mono l0 a1 k
noncomputable def laws_markLadderS.f.v (l0 : List S31) (a1 : Int) : Option (Int × List S31) := lim (fun k => laws_markLadderS.f k l0 a1)
theorem laws_markLadderS.f.ends (l0 : List S31) (a1 : Int) {r : _} (h : laws_markLadderS.f.v l0 a1 = some r) : ∃ k, laws_markLadderS.f k l0 a1 = some r := lim_some h
theorem laws_eqLadderS.l0.v_eq (x0 : List (S31)) (x1 : List (S31)) (x5 : Int) : laws_eqLadderS.l0.v x0 x1 x5 = if x5 < (x0.length : Int) then (if 0 ≤ x5 then (if x5 < (x1.length : Int) then ((laws_eqLadder.f.v ((rd_T31 x0 x5).f0) ((rd_T31 x0 x5).f1) ((rd_T31 x1 x5).f0) ((rd_T31 x1 x5).f1)).bind fun t112 => (if t112 = true then (laws_eqLadderS.l0.v x0 x1 (wrap64 (x5 + 1))) else (some false))) else (none)) else (none)) else (some true) :=
  Eq.trans (b := lim (fun k => if x5 < (x0.length : Int) then (if 0 ≤ x5 then (if x5 < (x1.length : Int) then ((laws_eqLadder.f k ((rd_T31 x0 x5).f0) ((rd_T31 x0 x5).f1) ((rd_T31 x1 x5).f0) ((rd_T31 x1 x5).f1)).bind fun t112 => (if t112 = true then (laws_eqLadderS.l0 k x0 x1 (wrap64 (x5 + 1))) else (some false))) else (none)) else (none)) else (some true))) (lim_eq (laws_eqLadderS.l0.m x0 x1 x5) (fun k => by with_reducible exact laws_eqLadderS.l0.eq_2 _ _ _ _ )) (lim_ite_to (lim_ite_to (lim_ite_to (lim_bind_to (laws_eqLadder.f.m _ _ _ _ ) (fun t112 => (Mono.ite (laws_eqLadderS.l0.m _ _ _ ) (Mono.const _))) (fun t112 => (lim_ite_to rfl (lim_const _)))) (lim_const _)) (lim_const _)) (lim_const _))
theorem laws_eqLadderS.f.v_eq (l0 : List (S31)) (l1 : List (S31)) : laws_eqLadderS.f.v l0 l1 = if (l0.length : Int) = (l1.length : Int) then (laws_eqLadderS.l0.v l0 l1 0) else (some false) :=
  Eq.trans (b := lim (fun k => if (l0.length : Int) = (l1.length : Int) then (laws_eqLadderS.l0 k l0 l1 0) else (some false))) (congrArg lim (funext fun k => by with_reducible exact laws_eqLadderS.f.eq_1 _ _ _ )) (lim_ite_to rfl (lim_const _))
theorem laws_markLadderS.l0.v_eq (x0 : List S31) (x1 : Int) (x5 : Int) : laws_markLadderS.l0.v x0 x1 x5 = if x5 < (x0.length : Int) then (if 0 ≤ x5 then ((laws_markIntS.f.v (x0.getD x5.toNat z31).f1 (wrap64 (x1 + 1))).bind fun bt1 => (laws_markLadderS.l0.v (x0.set x5.toNat ⟨x1, bt1.2⟩) bt1.1 (wrap64 (x5 + 1)))) else (none)) else (some (x1, x0)) :=
  Eq.trans (b := lim (fun k => if x5 < (x0.length : Int) then (if 0 ≤ x5 then ((laws_markIntS.f k (x0.getD x5.toNat z31).f1 (wrap64 (x1 + 1))).bind fun bt1 => (laws_markLadderS.l0 k (x0.set x5.toNat ⟨x1, bt1.2⟩) bt1.1 (wrap64 (x5 + 1)))) else (none)) else (some (x1, x0)))) (lim_eq (laws_markLadderS.l0.m x0 x1 x5) (fun k => by with_reducible exact laws_markLadderS.l0.eq_2 _ _ _ _ )) (lim_ite_to (lim_ite_to (lim_bind_to (laws_markIntS.f.m _ _ ) (fun bt1 => (laws_markLadderS.l0.m _ _ _ )) (fun bt1 => rfl)) (lim_const _)) (lim_const _))
theorem laws_markLadderS.f.v_eq (l0 : List S31) (a1 : Int) : laws_markLadderS.f.v l0 a1 = laws_markLadderS.l0.v l0 a1 0 :=
  Eq.trans (b := lim (fun k => laws_markLadderS.l0 k l0 a1 0)) (congrArg lim (funext fun k => by with_reducible exact laws_markLadderS.f.eq_1 _ _ _ )) rfl
end Go.Proofs.Ytnddmmjofpfmfaa.PSc
