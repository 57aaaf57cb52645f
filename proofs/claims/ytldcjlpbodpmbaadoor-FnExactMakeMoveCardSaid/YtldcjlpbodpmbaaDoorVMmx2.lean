/- The values of the printed functions, without rounds, and the equations that they meet. Written by a program of this session (vgen.py). -/
import Derived.Test.YtldcjlpbodpmbaaDoorPMmx2
import Derived.Test.YtldcjlpbodpmbaaDoorVMmx1
import Derived.Test.YtldcjlpbodpmbaaDoorLim
namespace Go.Proofs.YtldcjlpbodpmbaaDoor.PMm
open Go.RowKit Go.Proofs.YtldcjlpbodpmbaaDoorW.PrintWords Go.Proofs.YtldcjlpbodpmbaaDoorW.PrintLast Go.Proofs.YtldcjlpbodpmbaaDoorW.PrintMore Go.Proofs.YtldcjlpbodpmbaaDoorL
set_option linter.unusedVariables false
set_option maxRecDepth 100000
theorem laws_markLadder.f.m (a0_0 : Int) (l0_1 : List Int) (a1 : Int) : Mono (fun k => laws_markLadder.f k a0_0 l0_1 a1) := fun k => laws_markLadder.mono a0_0 l0_1 a1 k
noncomputable def laws_markLadder.f.v (a0_0 : Int) (l0_1 : List Int) (a1 : Int) : Option (Int × List Int) := lim (fun k => laws_markLadder.f k a0_0 l0_1 a1)
theorem laws_markLadder.f.ends (a0_0 : Int) (l0_1 : List Int) (a1 : Int) {r : _} (h : laws_markLadder.f.v a0_0 l0_1 a1 = some r) : ∃ k, laws_markLadder.f k a0_0 l0_1 a1 = some r := lim_some h
theorem laws_heldIntS.l0.m (x0 : List Int) (x1 : Int) (x5 : Int) : Mono (fun k => laws_heldIntS.l0 k x0 x1 x5) := fun k => (laws_heldIntS.mono_l k) x0 x1 x5
noncomputable def laws_heldIntS.l0.v (x0 : List Int) (x1 : Int) (x5 : Int) : Option (Int) := lim (fun k => laws_heldIntS.l0 k x0 x1 x5)
theorem laws_heldIntS.f.m (l0 : List Int) (a1 : Int) : Mono (fun k => laws_heldIntS.f k l0 a1) := fun k => laws_heldIntS.mono l0 a1 k
noncomputable def laws_heldIntS.f.v (l0 : List Int) (a1 : Int) : Option (Int) := lim (fun k => laws_heldIntS.f k l0 a1)
theorem laws_heldIntS.f.ends (l0 : List Int) (a1 : Int) {r : _} (h : laws_heldIntS.f.v l0 a1 = some r) : ∃ k, laws_heldIntS.f k l0 a1 = some r := lim_some h
theorem laws_heldLadder.f.m (a0_0 : Int) (l0_1 : List Int) (a1 : Int) : Mono (fun k => laws_heldLadder.f k a0_0 l0_1 a1) := fun k => laws_heldLadder.mono a0_0 l0_1 a1 k
noncomputable def laws_heldLadder.f.v (a0_0 : Int) (l0_1 : List Int) (a1 : Int) : Option (Int) := lim (fun k => laws_heldLadder.f k a0_0 l0_1 a1)
theorem laws_heldLadder.f.ends (a0_0 : Int) (l0_1 : List Int) (a1 : Int) {r : _} (h : laws_heldLadder.f.v a0_0 l0_1 a1 = some r) : ∃ k, laws_heldLadder.f k a0_0 l0_1 a1 = some r := lim_some h
theorem spec_l1All.l0.m (x1 : Int) (x2 : Int) (x9 : List Int) (x10 : Int) (x11 : Int) : Mono (fun k => spec_l1All.l0 k x1 x2 x9 x10 x11) := fun k => (spec_l1All.mono_l k) x1 x2 x9 x10 x11
noncomputable def spec_l1All.l0.v (x1 : Int) (x2 : Int) (x9 : List Int) (x10 : Int) (x11 : Int) : Option (Bool) := lim (fun k => spec_l1All.l0 k x1 x2 x9 x10 x11)
theorem spec_l1All.f.m (l0 : List Int) (a1 : Int) (a2 : Int) : Mono (fun k => spec_l1All.f k l0 a1 a2) := fun k => spec_l1All.mono l0 a1 a2 k
noncomputable def spec_l1All.f.v (l0 : List Int) (a1 : Int) (a2 : Int) : Option (Bool) := lim (fun k => spec_l1All.f k l0 a1 a2)
theorem spec_l1All.f.ends (l0 : List Int) (a1 : Int) (a2 : Int) {r : _} (h : spec_l1All.f.v l0 a1 a2 = some r) : ∃ k, spec_l1All.f k l0 a1 a2 = some r := lim_some h
theorem spec_laGood.f.m (a0_0 : Int) (l0_1 : List Int) : Mono (fun k => spec_laGood.f k a0_0 l0_1) := fun k => spec_laGood.mono a0_0 l0_1 k
noncomputable def spec_laGood.f.v (a0_0 : Int) (l0_1 : List Int) : Option (Bool) := lim (fun k => spec_laGood.f k a0_0 l0_1)
theorem spec_laGood.f.ends (a0_0 : Int) (l0_1 : List Int) {r : _} (h : spec_laGood.f.v a0_0 l0_1 = some r) : ∃ k, spec_laGood.f k a0_0 l0_1 = some r := lim_some h
theorem laws_markLadder.f.v_eq (a0_0 : Int) (l0_1 : List Int) (a1 : Int) : laws_markLadder.f.v a0_0 l0_1 a1 = (laws_markIntS.f.v l0_1 a1).bind fun bt121 => (some (bt121.1, bt121.2)) :=
  Eq.trans (b := lim (fun k => (laws_markIntS.f k l0_1 a1).bind fun bt121 => (some (bt121.1, bt121.2)))) (congrArg lim (funext fun k => by with_reducible exact laws_markLadder.f.eq_1 _ _ _ _ )) (lim_bind_to (laws_markIntS.f.m _ _ ) (fun bt121 => (Mono.const _)) (fun bt121 => (lim_const _)))
theorem laws_heldIntS.l0.v_eq (x0 : List Int) (x1 : Int) (x5 : Int) : laws_heldIntS.l0.v x0 x1 x5 = if x5 < (x0.length : Int) then (if 0 ≤ x5 then (if (rd x0 x5) = x1 then (laws_heldIntS.l0.v x0 (wrap64 (x1 + 1)) (wrap64 (x5 + 1))) else (some (-1))) else (none)) else (some x1) :=
  Eq.trans (b := lim (fun k => if x5 < (x0.length : Int) then (if 0 ≤ x5 then (if (rd x0 x5) = x1 then (laws_heldIntS.l0 k x0 (wrap64 (x1 + 1)) (wrap64 (x5 + 1))) else (some (-1))) else (none)) else (some x1))) (lim_eq (laws_heldIntS.l0.m x0 x1 x5) (fun k => by with_reducible exact laws_heldIntS.l0.eq_2 _ _ _ _ )) (lim_ite_to (lim_ite_to (lim_ite_to rfl (lim_const _)) (lim_const _)) (lim_const _))
theorem laws_heldIntS.f.v_eq (l0 : List Int) (a1 : Int) : laws_heldIntS.f.v l0 a1 = laws_heldIntS.l0.v l0 a1 0 :=
  Eq.trans (b := lim (fun k => laws_heldIntS.l0 k l0 a1 0)) (congrArg lim (funext fun k => by with_reducible exact laws_heldIntS.f.eq_1 _ _ _ )) rfl
theorem laws_heldLadder.f.v_eq (a0_0 : Int) (l0_1 : List Int) (a1 : Int) : laws_heldLadder.f.v a0_0 l0_1 a1 = (laws_heldIntS.f.v l0_1 a1).bind fun t125 => (if t125 < 0 then (some (-1)) else (some t125)) :=
  Eq.trans (b := lim (fun k => (laws_heldIntS.f k l0_1 a1).bind fun t125 => (if t125 < 0 then (some (-1)) else (some t125)))) (congrArg lim (funext fun k => by with_reducible exact laws_heldLadder.f.eq_1 _ _ _ _ )) (lim_bind_to (laws_heldIntS.f.m _ _ ) (fun t125 => (Mono.const _)) (fun t125 => (lim_const _)))
theorem spec_l1All.l0.v_eq (x1 : Int) (x2 : Int) (x9 : List Int) (x10 : Int) (x11 : Int) : spec_l1All.l0.v x1 x2 x9 x10 x11 = if x11 < x10 then (if 0 ≤ x11 then (if x11 < (x9.length : Int) then ((spec_l1In.f (rd x9 x11) x1 x2).bind fun t127 => (if t127 = true then (spec_l1All.l0.v x1 x2 x9 x10 (wrap64 (x11 + 1))) else (some false))) else (none)) else (none)) else (some true) :=
  Eq.trans (b := lim (fun k => if x11 < x10 then (if 0 ≤ x11 then (if x11 < (x9.length : Int) then ((spec_l1In.f (rd x9 x11) x1 x2).bind fun t127 => (if t127 = true then (spec_l1All.l0 k x1 x2 x9 x10 (wrap64 (x11 + 1))) else (some false))) else (none)) else (none)) else (some true))) (lim_eq (spec_l1All.l0.m x1 x2 x9 x10 x11) (fun k => by with_reducible exact spec_l1All.l0.eq_2 _ _ _ _ _ _ )) (lim_ite_to (lim_ite_to (lim_ite_to (lim_bindc_to (fun t127 => (lim_ite_to rfl (lim_const _)))) (lim_const _)) (lim_const _)) (lim_const _))
theorem spec_l1All.f.v_eq (l0 : List Int) (a1 : Int) (a2 : Int) : spec_l1All.f.v l0 a1 a2 = spec_l1All.l0.v a1 a2 l0 (l0.length : Int) 0 :=
  Eq.trans (b := lim (fun k => spec_l1All.l0 k a1 a2 l0 (l0.length : Int) 0)) (congrArg lim (funext fun k => by with_reducible exact spec_l1All.f.eq_1 _ _ _ _ )) rfl
theorem spec_laGood.f.v_eq (a0_0 : Int) (l0_1 : List Int) : spec_laGood.f.v a0_0 l0_1 = (spec_l1In.f a0_0 2 8).bind fun t129 => (if t129 = true then (if (l0_1.length : Int) ≤ 60 then ((spec_l1All.f.v l0_1 0 (wrap64 (a0_0 - 2))).bind fun t130 => (some t130)) else (some false)) else (some false)) :=
  Eq.trans (b := lim (fun k => (spec_l1In.f a0_0 2 8).bind fun t129 => (if t129 = true then (if (l0_1.length : Int) ≤ 60 then ((spec_l1All.f k l0_1 0 (wrap64 (a0_0 - 2))).bind fun t130 => (some t130)) else (some false)) else (some false)))) (congrArg lim (funext fun k => by with_reducible exact spec_laGood.f.eq_1 _ _ _ )) (lim_bindc_to (fun t129 => (lim_ite_to (lim_ite_to (lim_bind_to (spec_l1All.f.m _ _ _ ) (fun t130 => (Mono.const _)) (fun t130 => (lim_const _))) (lim_const _)) (lim_const _))))
end Go.Proofs.YtldcjlpbodpmbaaDoor.PMm
