/- The values of the printed functions, without rounds, and the equations that they meet. Written by a program of this session (vgen.py). -/
import Derived.Test.YtmoobmeihckaiaaPAllx5
import Derived.Test.YtmoobmeihckaiaaLim
namespace Go.Proofs.Ytmoobmeihckaiaa.PAll
open Go.RowKit Go.Proofs.YtmoobmeihckaiaaW.PrintWords Go.Proofs.YtmoobmeihckaiaaW.PrintLast Go.Proofs.YtmoobmeihckaiaaW.PrintMore Go.Proofs.YtmoobmeihckaiaaL
set_option linter.unusedVariables false
set_option maxRecDepth 100000
theorem laws_markIntS.l0.m (x0 : List Int) (x1 : Int) (x5 : Int) : Mono (fun k => laws_markIntS.l0 k x0 x1 x5) := fun k => (laws_markIntS.mono_l k) x0 x1 x5
noncomputable def laws_markIntS.l0.v (x0 : List Int) (x1 : Int) (x5 : Int) : Option (Int × List Int) := lim (fun k => laws_markIntS.l0 k x0 x1 x5)
theorem laws_markIntS.f.m (l0 : List Int) (a1 : Int) : Mono (fun k => laws_markIntS.f k l0 a1) := fun k => laws_markIntS.mono l0 a1 k
noncomputable def laws_markIntS.f.v (l0 : List Int) (a1 : Int) : Option (Int × List Int) := lim (fun k => laws_markIntS.f k l0 a1)
theorem laws_markIntS.f.ends (l0 : List Int) (a1 : Int) {r : _} (h : laws_markIntS.f.v l0 a1 = some r) : ∃ k, laws_markIntS.f k l0 a1 = some r := lim_some h
theorem laws_markLadder.f.m (a0_0 : Int) (l0_1 : List Int) (a1 : Int) : Mono (fun k => laws_markLadder.f k a0_0 l0_1 a1) := fun k => laws_markLadder.mono a0_0 l0_1 a1 k
noncomputable def laws_markLadder.f.v (a0_0 : Int) (l0_1 : List Int) (a1 : Int) : Option (Int × List Int) := lim (fun k => laws_markLadder.f k a0_0 l0_1 a1)
theorem laws_markLadder.f.ends (a0_0 : Int) (l0_1 : List Int) (a1 : Int) {r : _} (h : laws_markLadder.f.v a0_0 l0_1 a1 = some r) : ∃ k, laws_markLadder.f k a0_0 l0_1 a1 = some r := lim_some h
theorem laws_heldIntS.l0.m (x0 : List Int) (x1 : Int) (x5 : Int) : Mono (fun k => laws_heldIntS.l0 k x0 x1 x5) := fun k => (laws_heldIntS.mono_l k) x0 x1 x5
noncomputable def laws_heldIntS.l0.v (x0 : List Int) (x1 : Int) (x5 : Int) : Option (Int) := lim (fun k => laws_heldIntS.l0 k x0 x1 x5)
theorem laws_heldIntS.f.m (l0 : List Int) (a1 : Int) : Mono (fun k => laws_heldIntS.f k l0 a1) := fun k => laws_heldIntS.mono l0 a1 k
noncomputable def laws_heldIntS.f.v (l0 : List Int) (a1 : Int) : Option (Int) := lim (fun k => laws_heldIntS.f k l0 a1)
theorem laws_heldIntS.f.ends (l0 : List Int) (a1 : Int) {r : _} (h : laws_heldIntS.f.v l0 a1 = some r) : ∃ k, laws_heldIntS.f k l0 a1 = some r := lim_some h
theorem laws_heldLadder.f.m (a0_0 : Int) (l0_1 : List Int) (a1 : Int) : Mono (fun k => laws_heldLadder.f k a0_0 l0_1 a1) := fun k => laws_heldLadder.mono a0_0 l0_1 a1 k
noncomputable def laws_heldLadder.f.v (a0_0 : Int) (l0_1 : List Int) (a1 : Int) : Option (Int) := lim (fun k => laws_heldLadder.f k a0_0 l0_1 a1)
theorem laws_heldLadder.f.ends (a0_0 : Int) (l0_1 : List Int) (a1 : Int) {r : _} (h : laws_heldLadder.f.v a0_0 l0_1 a1 = some r) : ∃ k, laws_heldLadder.f k a0_0 l0_1 a1 = some r := lim_some h
theorem laws_markIntS.l0.v_eq (x0 : List Int) (x1 : Int) (x5 : Int) : laws_markIntS.l0.v x0 x1 x5 = if x5 < (x0.length : Int) then (if 0 ≤ x5 then (laws_markIntS.l0.v (x0.set (x5 : Int).toNat x1) (wrap64 (x1 + 1)) (wrap64 (x5 + 1))) else (none)) else (some (x1, x0)) :=
  Eq.trans (b := lim (fun k => if x5 < (x0.length : Int) then (if 0 ≤ x5 then (laws_markIntS.l0 k (x0.set (x5 : Int).toNat x1) (wrap64 (x1 + 1)) (wrap64 (x5 + 1))) else (none)) else (some (x1, x0)))) (lim_eq (laws_markIntS.l0.m x0 x1 x5) (fun k => by with_reducible exact laws_markIntS.l0.eq_2 _ _ _ _ )) (lim_ite_to (lim_ite_to rfl (lim_const _)) (lim_const _))
theorem laws_markIntS.f.v_eq (l0 : List Int) (a1 : Int) : laws_markIntS.f.v l0 a1 = laws_markIntS.l0.v l0 a1 0 :=
  Eq.trans (b := lim (fun k => laws_markIntS.l0 k l0 a1 0)) (congrArg lim (funext fun k => by with_reducible exact laws_markIntS.f.eq_1 _ _ _ )) rfl
theorem laws_markLadder.f.v_eq (a0_0 : Int) (l0_1 : List Int) (a1 : Int) : laws_markLadder.f.v a0_0 l0_1 a1 = (laws_markIntS.f.v l0_1 a1).bind fun bt160 => (some (bt160.1, bt160.2)) :=
  Eq.trans (b := lim (fun k => (laws_markIntS.f k l0_1 a1).bind fun bt160 => (some (bt160.1, bt160.2)))) (congrArg lim (funext fun k => by with_reducible exact laws_markLadder.f.eq_1 _ _ _ _ )) (lim_bind_to (laws_markIntS.f.m _ _ ) (fun bt160 => (Mono.const _)) (fun bt160 => (lim_const _)))
theorem laws_heldIntS.l0.v_eq (x0 : List Int) (x1 : Int) (x5 : Int) : laws_heldIntS.l0.v x0 x1 x5 = if x5 < (x0.length : Int) then (if 0 ≤ x5 then (if (rd x0 x5) = x1 then (laws_heldIntS.l0.v x0 (wrap64 (x1 + 1)) (wrap64 (x5 + 1))) else (some (-1))) else (none)) else (some x1) :=
  Eq.trans (b := lim (fun k => if x5 < (x0.length : Int) then (if 0 ≤ x5 then (if (rd x0 x5) = x1 then (laws_heldIntS.l0 k x0 (wrap64 (x1 + 1)) (wrap64 (x5 + 1))) else (some (-1))) else (none)) else (some x1))) (lim_eq (laws_heldIntS.l0.m x0 x1 x5) (fun k => by with_reducible exact laws_heldIntS.l0.eq_2 _ _ _ _ )) (lim_ite_to (lim_ite_to (lim_ite_to rfl (lim_const _)) (lim_const _)) (lim_const _))
theorem laws_heldIntS.f.v_eq (l0 : List Int) (a1 : Int) : laws_heldIntS.f.v l0 a1 = laws_heldIntS.l0.v l0 a1 0 :=
  Eq.trans (b := lim (fun k => laws_heldIntS.l0 k l0 a1 0)) (congrArg lim (funext fun k => by with_reducible exact laws_heldIntS.f.eq_1 _ _ _ )) rfl
theorem laws_heldLadder.f.v_eq (a0_0 : Int) (l0_1 : List Int) (a1 : Int) : laws_heldLadder.f.v a0_0 l0_1 a1 = (laws_heldIntS.f.v l0_1 a1).bind fun t164 => (if t164 < 0 then (some (-1)) else (some t164)) :=
  Eq.trans (b := lim (fun k => (laws_heldIntS.f k l0_1 a1).bind fun t164 => (if t164 < 0 then (some (-1)) else (some t164)))) (congrArg lim (funext fun k => by with_reducible exact laws_heldLadder.f.eq_1 _ _ _ _ )) (lim_bind_to (laws_heldIntS.f.m _ _ ) (fun t164 => (Mono.const _)) (fun t164 => (lim_const _)))
end Go.Proofs.Ytmoobmeihckaiaa.PAll
