/- The values of the printed functions, without rounds, and the equations that they meet. Written by a program of this session (vgen.py). -/
import Derived.Test.YtlmiiijjjcddkaaPKax6
import Derived.Test.YtlmiiijjjcddkaaLim
namespace Go.Proofs.Ytlmiiijjjcddkaa.PKa
noncomputable section
open Go.RowKit Go.Proofs.YtlmiiijjjcddkaaW.PrintWords Go.Proofs.YtlmiiijjjcddkaaW.PrintLast Go.Proofs.YtlmiiijjjcddkaaW.PrintMore Go.Proofs.YtlmiiijjjcddkaaL
set_option linter.unusedVariables false
set_option maxRecDepth 100000
theorem laws_eqIntS.l0.m (x0 x1 : List Int) (x5 : Int) : Mono (fun k => laws_eqIntS.l0 k x0 x1 x5) := fun k => (laws_eqIntS.mono_l k) x0 x1 x5
def laws_eqIntS.l0.v (x0 x1 : List Int) (x5 : Int) : Option (Bool) := lim (fun k => laws_eqIntS.l0 k x0 x1 x5)
theorem laws_eqIntS.f.m (l0 l1 : List Int) : Mono (fun k => laws_eqIntS.f k l0 l1) := fun k => laws_eqIntS.mono l0 l1 k
def laws_eqIntS.f.v (l0 l1 : List Int) : Option (Bool) := lim (fun k => laws_eqIntS.f k l0 l1)
theorem laws_eqIntS.f.ends (l0 l1 : List Int) {r : _} (h : laws_eqIntS.f.v l0 l1 = some r) : ∃ k, laws_eqIntS.f k l0 l1 = some r := lim_some h
theorem laws_eqLadder.f.m (a0_0 : Int) (l0_1 : List Int) (a1_0 : Int) (l1_1 : List Int) : Mono (fun k => laws_eqLadder.f k a0_0 l0_1 a1_0 l1_1) := fun k => laws_eqLadder.mono a0_0 l0_1 a1_0 l1_1 k
def laws_eqLadder.f.v (a0_0 : Int) (l0_1 : List Int) (a1_0 : Int) (l1_1 : List Int) : Option (Bool) := lim (fun k => laws_eqLadder.f k a0_0 l0_1 a1_0 l1_1)
theorem laws_eqLadder.f.ends (a0_0 : Int) (l0_1 : List Int) (a1_0 : Int) (l1_1 : List Int) {r : _} (h : laws_eqLadder.f.v a0_0 l0_1 a1_0 l1_1 = some r) : ∃ k, laws_eqLadder.f k a0_0 l0_1 a1_0 l1_1 = some r := lim_some h
theorem laws_eqIntS.l0.v_eq (x0 x1 : List Int) (x5 : Int) : laws_eqIntS.l0.v x0 x1 x5 = if x5 < (x0.length : Int) then (if 0 ≤ x5 then (if x5 < (x1.length : Int) then (if (rd x0 x5) = (rd x1 x5) then (laws_eqIntS.l0.v x0 x1 (wrap64 (x5 + 1))) else (some false)) else (none)) else (none)) else (some true) :=
 Eq.trans (b := lim (fun k => if x5 < (x0.length : Int) then (if 0 ≤ x5 then (if x5 < (x1.length : Int) then (if (rd x0 x5) = (rd x1 x5) then (laws_eqIntS.l0 k x0 x1 (wrap64 (x5 + 1))) else (some false)) else (none)) else (none)) else (some true))) (lim_eq (laws_eqIntS.l0.m x0 x1 x5) (fun k => by with_reducible exact laws_eqIntS.l0.eq_2 _ _ _ _ )) (lim_ite_to (lim_ite_to (lim_ite_to (lim_ite_to rfl (lim_const _)) (lim_const _)) (lim_const _)) (lim_const _))
theorem laws_eqIntS.f.v_eq (l0 l1 : List Int) : laws_eqIntS.f.v l0 l1 = if (l0.length : Int) = (l1.length : Int) then (laws_eqIntS.l0.v l0 l1 0) else (some false) :=
 Eq.trans (b := lim (fun k => if (l0.length : Int) = (l1.length : Int) then (laws_eqIntS.l0 k l0 l1 0) else (some false))) (congrArg lim (funext fun k => by with_reducible exact laws_eqIntS.f.eq_1 _ _ _ )) (lim_ite_to rfl (lim_const _))
theorem laws_eqLadder.f.v_eq (a0_0 : Int) (l0_1 : List Int) (a1_0 : Int) (l1_1 : List Int) : laws_eqLadder.f.v a0_0 l0_1 a1_0 l1_1 = if a0_0 = a1_0 then ((laws_eqIntS.f.v l0_1 l1_1).bind fun t306 => (if t306 = true then (some true) else (some false))) else (some false) :=
 Eq.trans (b := lim (fun k => if a0_0 = a1_0 then ((laws_eqIntS.f k l0_1 l1_1).bind fun t306 => (if t306 = true then (some true) else (some false))) else (some false))) (congrArg lim (funext fun k => by with_reducible exact laws_eqLadder.f.eq_1 _ _ _ _ _ )) (lim_ite_to (lim_bind_to (laws_eqIntS.f.m _ _ ) (fun t306 => (Mono.const _)) (fun t306 => (lim_const _))) (lim_const _))
end
end Go.Proofs.Ytlmiiijjjcddkaa.PKa
