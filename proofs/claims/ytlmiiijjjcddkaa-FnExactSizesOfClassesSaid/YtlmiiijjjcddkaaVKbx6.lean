/- The values of the printed functions, without rounds, and the equations that they meet. Written by a program of this session (vgen.py). -/
import Derived.Test.YtlmiiijjjcddkaaPKbx6
import Derived.Test.YtlmiiijjjcddkaaLim
namespace Go.Proofs.Ytlmiiijjjcddkaa.PKb
noncomputable section
open Go.RowKit Go.Proofs.YtlmiiijjjcddkaaW.PrintWords Go.Proofs.YtlmiiijjjcddkaaW.PrintLast Go.Proofs.YtlmiiijjjcddkaaW.PrintMore Go.Proofs.YtlmiiijjjcddkaaL
set_option linter.unusedVariables false
set_option maxRecDepth 100000
theorem laws_heldIntS.l0.m (x0 : List Int) (x1 x5 : Int) : Mono (fun k => laws_heldIntS.l0 k x0 x1 x5) := fun k => (laws_heldIntS.mono_l k) x0 x1 x5
def laws_heldIntS.l0.v (x0 : List Int) (x1 x5 : Int) : Option (Int) := lim (fun k => laws_heldIntS.l0 k x0 x1 x5)
theorem laws_heldIntS.f.m (l0 : List Int) (a1 : Int) : Mono (fun k => laws_heldIntS.f k l0 a1) := fun k => laws_heldIntS.mono l0 a1 k
def laws_heldIntS.f.v (l0 : List Int) (a1 : Int) : Option (Int) := lim (fun k => laws_heldIntS.f k l0 a1)
theorem laws_heldIntS.f.ends (l0 : List Int) (a1 : Int) {r : _} (h : laws_heldIntS.f.v l0 a1 = some r) : ∃ k, laws_heldIntS.f k l0 a1 = some r := lim_some h
theorem laws_heldIntS.l0.v_eq (x0 : List Int) (x1 x5 : Int) : laws_heldIntS.l0.v x0 x1 x5 = if x5 < (x0.length : Int) then (if 0 ≤ x5 then (if (rd x0 x5) = x1 then (laws_heldIntS.l0.v x0 (wrap64 (x1 + 1)) (wrap64 (x5 + 1))) else (some (-1))) else (none)) else (some x1) :=
 Eq.trans (b := lim (fun k => if x5 < (x0.length : Int) then (if 0 ≤ x5 then (if (rd x0 x5) = x1 then (laws_heldIntS.l0 k x0 (wrap64 (x1 + 1)) (wrap64 (x5 + 1))) else (some (-1))) else (none)) else (some x1))) (lim_eq (laws_heldIntS.l0.m x0 x1 x5) (fun k => by with_reducible exact laws_heldIntS.l0.eq_2 _ _ _ _ )) (lim_ite_to (lim_ite_to (lim_ite_to rfl (lim_const _)) (lim_const _)) (lim_const _))
theorem laws_heldIntS.f.v_eq (l0 : List Int) (a1 : Int) : laws_heldIntS.f.v l0 a1 = laws_heldIntS.l0.v l0 a1 0 :=
 Eq.trans (b := lim (fun k => laws_heldIntS.l0 k l0 a1 0)) (congrArg lim (funext fun k => by with_reducible exact laws_heldIntS.f.eq_1 _ _ _ )) rfl
end
end Go.Proofs.Ytlmiiijjjcddkaa.PKb
