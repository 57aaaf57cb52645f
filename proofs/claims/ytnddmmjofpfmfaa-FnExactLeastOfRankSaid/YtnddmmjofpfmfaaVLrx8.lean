/- The values of the printed functions, without rounds, and the equations that they meet. Written by a program of this session (vgen.py). -/
import Derived.Test.YtnddmmjofpfmfaaPLrx8
import Derived.Test.YtnddmmjofpfmfaaVLrx1
import Derived.Test.YtnddmmjofpfmfaaLim
namespace Go.Proofs.Ytnddmmjofpfmfaa.PLr
open Go.RowKit Go.Proofs.YtnddmmjofpfmfaaW.PrintWords Go.Proofs.YtnddmmjofpfmfaaW.PrintLast Go.Proofs.YtnddmmjofpfmfaaW.PrintMore Go.Proofs.YtnddmmjofpfmfaaL
set_option linter.unusedVariables false
set_option maxRecDepth 100000
theorem laws_eqLadder.f.m (a0_0 : Int) (l0_1 : List Int) (a1_0 : Int) (l1_1 : List Int) : Mono (fun k => laws_eqLadder.f k a0_0 l0_1 a1_0 l1_1) := fun k => laws_eqLadder.mono a0_0 l0_1 a1_0 l1_1 k
noncomputable def laws_eqLadder.f.v (a0_0 : Int) (l0_1 : List Int) (a1_0 : Int) (l1_1 : List Int) : Option (Bool) := lim (fun k => laws_eqLadder.f k a0_0 l0_1 a1_0 l1_1)
theorem laws_eqLadder.f.ends (a0_0 : Int) (l0_1 : List Int) (a1_0 : Int) (l1_1 : List Int) {r : _} (h : laws_eqLadder.f.v a0_0 l0_1 a1_0 l1_1 = some r) : ∃ k, laws_eqLadder.f k a0_0 l0_1 a1_0 l1_1 = some r := lim_some h
theorem laws_markLadder.f.m (a0_0 : Int) (l0_1 : List Int) (a1 : Int) : Mono (fun k => laws_markLadder.f k a0_0 l0_1 a1) := fun k => laws_markLadder.mono a0_0 l0_1 a1 k
noncomputable def laws_markLadder.f.v (a0_0 : Int) (l0_1 : List Int) (a1 : Int) : Option (Int × List Int) := lim (fun k => laws_markLadder.f k a0_0 l0_1 a1)
theorem laws_markLadder.f.ends (a0_0 : Int) (l0_1 : List Int) (a1 : Int) {r : _} (h : laws_markLadder.f.v a0_0 l0_1 a1 = some r) : ∃ k, laws_markLadder.f k a0_0 l0_1 a1 = some r := lim_some h
theorem laws_heldIntS.l0.m (x0 : List Int) (x1 : Int) (x5 : Int) : Mono (fun k => laws_heldIntS.l0 k x0 x1 x5) := fun k => (laws_heldIntS.mono_l k) x0 x1 x5
noncomputable def laws_heldIntS.l0.v (x0 : List Int) (x1 : Int) (x5 : Int) : Option (Int) := lim (fun k => laws_heldIntS.l0 k x0 x1 x5)
theorem laws_heldIntS.f.m (l0 : List Int) (a1 : Int) : Mono (fun k => laws_heldIntS.f k l0 a1) := fun k => laws_heldIntS.mono l0 a1 k
noncomputable def laws_heldIntS.f.v (l0 : List Int) (a1 : Int) : Option (Int) := lim (fun k => laws_heldIntS.f k l0 a1)
theorem laws_heldIntS.f.ends (l0 : List Int) (a1 : Int) {r : _} (h : laws_heldIntS.f.v l0 a1 = some r) : ∃ k, laws_heldIntS.f k l0 a1 = some r := lim_some h
theorem laws_heldLadder.f.m (a0_0 : Int) (l0_1 : List Int) (a1 : Int) : Mono (fun k => laws_heldLadder.f k a0_0 l0_1 a1) := fun k => laws_heldLadder.mono a0_0 l0_1 a1 k
noncomputable def laws_heldLadder.f.v (a0_0 : Int) (l0_1 : List Int) (a1 : Int) : Option (Int) := lim (fun k => laws_heldLadder.f k a0_0 l0_1 a1)
theorem laws_heldLadder.f.ends (a0_0 : Int) (l0_1 : List Int) (a1 : Int) {r : _} (h : laws_heldLadder.f.v a0_0 l0_1 a1 = some r) : ∃ k, laws_heldLadder.f k a0_0 l0_1 a1 = some r := lim_some h
theorem laws_eqLadder.f.v_eq (a0_0 : Int) (l0_1 : List Int) (a1_0 : Int) (l1_1 : List Int) : laws_eqLadder.f.v a0_0 l0_1 a1_0 l1_1 = if a0_0 = a1_0 then ((laws_eqIntS.f.v l0_1 l1_1).bind fun t187 => (if t187 = true then (some true) else (some false))) else (some false) :=
  Eq.trans (b := lim (fun k => if a0_0 = a1_0 then ((laws_eqIntS.f k l0_1 l1_1).bind fun t187 => (if t187 = true then (some true) else (some false))) else (some false))) (congrArg lim (funext fun k => by with_reducible exact laws_eqLadder.f.eq_1 _ _ _ _ _ )) (lim_ite_to (lim_bind_to (laws_eqIntS.f.m _ _ ) (fun t187 => (Mono.const _)) (fun t187 => (lim_const _))) (lim_const _))
theorem laws_markLadder.f.v_eq (a0_0 : Int) (l0_1 : List Int) (a1 : Int) : laws_markLadder.f.v a0_0 l0_1 a1 = (laws_markIntS.f.v l0_1 a1).bind fun bt189 => (some (bt189.1, bt189.2)) :=
  Eq.trans (b := lim (fun k => (laws_markIntS.f k l0_1 a1).bind fun bt189 => (some (bt189.1, bt189.2)))) (congrArg lim (funext fun k => by with_reducible exact laws_markLadder.f.eq_1 _ _ _ _ )) (lim_bind_to (laws_markIntS.f.m _ _ ) (fun bt189 => (Mono.const _)) (fun bt189 => (lim_const _)))
theorem laws_heldIntS.l0.v_eq (x0 : List Int) (x1 : Int) (x5 : Int) : laws_heldIntS.l0.v x0 x1 x5 = if x5 < (x0.length : Int) then (if 0 ≤ x5 then (if (rd x0 x5) = x1 then (laws_heldIntS.l0.v x0 (wrap64 (x1 + 1)) (wrap64 (x5 + 1))) else (some (-1))) else (none)) else (some x1) :=
  Eq.trans (b := lim (fun k => if x5 < (x0.length : Int) then (if 0 ≤ x5 then (if (rd x0 x5) = x1 then (laws_heldIntS.l0 k x0 (wrap64 (x1 + 1)) (wrap64 (x5 + 1))) else (some (-1))) else (none)) else (some x1))) (lim_eq (laws_heldIntS.l0.m x0 x1 x5) (fun k => by with_reducible exact laws_heldIntS.l0.eq_2 _ _ _ _ )) (lim_ite_to (lim_ite_to (lim_ite_to rfl (lim_const _)) (lim_const _)) (lim_const _))
theorem laws_heldIntS.f.v_eq (l0 : List Int) (a1 : Int) : laws_heldIntS.f.v l0 a1 = laws_heldIntS.l0.v l0 a1 0 :=
  Eq.trans (b := lim (fun k => laws_heldIntS.l0 k l0 a1 0)) (congrArg lim (funext fun k => by with_reducible exact laws_heldIntS.f.eq_1 _ _ _ )) rfl
theorem laws_heldLadder.f.v_eq (a0_0 : Int) (l0_1 : List Int) (a1 : Int) : laws_heldLadder.f.v a0_0 l0_1 a1 = (laws_heldIntS.f.v l0_1 a1).bind fun t193 => (if t193 < 0 then (some (-1)) else (some t193)) :=
  Eq.trans (b := lim (fun k => (laws_heldIntS.f k l0_1 a1).bind fun t193 => (if t193 < 0 then (some (-1)) else (some t193)))) (congrArg lim (funext fun k => by with_reducible exact laws_heldLadder.f.eq_1 _ _ _ _ )) (lim_bind_to (laws_heldIntS.f.m _ _ ) (fun t193 => (Mono.const _)) (fun t193 => (lim_const _)))
end Go.Proofs.Ytnddmmjofpfmfaa.PLr
