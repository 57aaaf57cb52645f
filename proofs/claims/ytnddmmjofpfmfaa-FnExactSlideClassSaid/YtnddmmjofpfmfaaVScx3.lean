/- The values of the printed functions, without rounds, and the equations that they meet. Written by a program of this session (vgen.py). -/
import Derived.Test.YtnddmmjofpfmfaaPScx3
import Derived.Test.YtnddmmjofpfmfaaLim
namespace Go.Proofs.Ytnddmmjofpfmfaa.PSc
open Go.RowKit Go.Proofs.YtnddmmjofpfmfaaW.PrintWords Go.Proofs.YtnddmmjofpfmfaaW.PrintLast Go.Proofs.YtnddmmjofpfmfaaW.PrintMore Go.Proofs.YtnddmmjofpfmfaaL
set_option linter.unusedVariables false
set_option maxRecDepth 100000
theorem laws_heldIntS.l0.m (x0 : List Int) (x1 : Int) (x5 : Int) : Mono (fun k => laws_heldIntS.l0 k x0 x1 x5) := fun k => (laws_heldIntS.mono_l k) x0 x1 x5
noncomputable def laws_heldIntS.l0.v (x0 : List Int) (x1 : Int) (x5 : Int) : Option (Int) := lim (fun k => laws_heldIntS.l0 k x0 x1 x5)
theorem laws_heldIntS.f.m (l0 : List Int) (a1 : Int) : Mono (fun k => laws_heldIntS.f k l0 a1) := fun k => laws_heldIntS.mono l0 a1 k
noncomputable def laws_heldIntS.f.v (l0 : List Int) (a1 : Int) : Option (Int) := lim (fun k => laws_heldIntS.f k l0 a1)
theorem laws_heldIntS.f.ends (l0 : List Int) (a1 : Int) {r : _} (h : laws_heldIntS.f.v l0 a1 = some r) : ∃ k, laws_heldIntS.f k l0 a1 = some r := lim_some h
theorem laws_heldLadderS.l0.m (x0 : List (S31)) (x1 : Int) (x5 : Int) : Mono (fun k => laws_heldLadderS.l0 k x0 x1 x5) := fun k => (laws_heldLadderS.mono_l k) x0 x1 x5
noncomputable def laws_heldLadderS.l0.v (x0 : List (S31)) (x1 : Int) (x5 : Int) : Option (Int) := lim (fun k => laws_heldLadderS.l0 k x0 x1 x5)
theorem laws_heldLadderS.f.m (l0 : List (S31)) (a1 : Int) : Mono (fun k => laws_heldLadderS.f k l0 a1) := fun k => laws_heldLadderS.mono l0 a1 k
noncomputable def laws_heldLadderS.f.v (l0 : List (S31)) (a1 : Int) : Option (Int) := lim (fun k => laws_heldLadderS.f k l0 a1)
theorem laws_heldLadderS.f.ends (l0 : List (S31)) (a1 : Int) {r : _} (h : laws_heldLadderS.f.v l0 a1 = some r) : ∃ k, laws_heldLadderS.f k l0 a1 = some r := lim_some h
theorem spec_l1All.l0.m (x1 : Int) (x2 : Int) (x9 : List Int) (x10 : Int) (x11 : Int) : Mono (fun k => spec_l1All.l0 k x1 x2 x9 x10 x11) := fun k => (spec_l1All.mono_l k) x1 x2 x9 x10 x11
noncomputable def spec_l1All.l0.v (x1 : Int) (x2 : Int) (x9 : List Int) (x10 : Int) (x11 : Int) : Option (Bool) := lim (fun k => spec_l1All.l0 k x1 x2 x9 x10 x11)
theorem spec_l1All.f.m (l0 : List Int) (a1 : Int) (a2 : Int) : Mono (fun k => spec_l1All.f k l0 a1 a2) := fun k => spec_l1All.mono l0 a1 a2 k
noncomputable def spec_l1All.f.v (l0 : List Int) (a1 : Int) (a2 : Int) : Option (Bool) := lim (fun k => spec_l1All.f k l0 a1 a2)
theorem spec_l1All.f.ends (l0 : List Int) (a1 : Int) (a2 : Int) {r : _} (h : spec_l1All.f.v l0 a1 a2 = some r) : ∃ k, spec_l1All.f k l0 a1 a2 = some r := lim_some h
theorem spec_laGood.f.m (a0_0 : Int) (l0_1 : List Int) : Mono (fun k => spec_laGood.f k a0_0 l0_1) := fun k => spec_laGood.mono a0_0 l0_1 k
noncomputable def spec_laGood.f.v (a0_0 : Int) (l0_1 : List Int) : Option (Bool) := lim (fun k => spec_laGood.f k a0_0 l0_1)
theorem spec_laGood.f.ends (a0_0 : Int) (l0_1 : List Int) {r : _} (h : spec_laGood.f.v a0_0 l0_1 = some r) : ∃ k, spec_laGood.f k a0_0 l0_1 = some r := lim_some h
theorem laws_heldIntS.l0.v_eq (x0 : List Int) (x1 : Int) (x5 : Int) : laws_heldIntS.l0.v x0 x1 x5 = if x5 < (x0.length : Int) then (if 0 ≤ x5 then (if (rd x0 x5) = x1 then (laws_heldIntS.l0.v x0 (wrap64 (x1 + 1)) (wrap64 (x5 + 1))) else (some (-1))) else (none)) else (some x1) :=
  Eq.trans (b := lim (fun k => if x5 < (x0.length : Int) then (if 0 ≤ x5 then (if (rd x0 x5) = x1 then (laws_heldIntS.l0 k x0 (wrap64 (x1 + 1)) (wrap64 (x5 + 1))) else (some (-1))) else (none)) else (some x1))) (lim_eq (laws_heldIntS.l0.m x0 x1 x5) (fun k => by with_reducible exact laws_heldIntS.l0.eq_2 _ _ _ _ )) (lim_ite_to (lim_ite_to (lim_ite_to rfl (lim_const _)) (lim_const _)) (lim_const _))
theorem laws_heldIntS.f.v_eq (l0 : List Int) (a1 : Int) : laws_heldIntS.f.v l0 a1 = laws_heldIntS.l0.v l0 a1 0 :=
  Eq.trans (b := lim (fun k => laws_heldIntS.l0 k l0 a1 0)) (congrArg lim (funext fun k => by with_reducible exact laws_heldIntS.f.eq_1 _ _ _ )) rfl
theorem laws_heldLadderS.l0.v_eq (x0 : List (S31)) (x1 : Int) (x5 : Int) : laws_heldLadderS.l0.v x0 x1 x5 = if x5 < (x0.length : Int) then (if 0 ≤ x5 then (if ((rd_T31 x0 x5).f0) = x1 then ((laws_heldIntS.f.v ((rd_T31 x0 x5).f1) (wrap64 (x1 + 1))).bind fun t116 => (if t116 < 0 then (some (-1)) else (laws_heldLadderS.l0.v x0 t116 (wrap64 (x5 + 1))))) else (some (-1))) else (none)) else (some x1) :=
  Eq.trans (b := lim (fun k => if x5 < (x0.length : Int) then (if 0 ≤ x5 then (if ((rd_T31 x0 x5).f0) = x1 then ((laws_heldIntS.f k ((rd_T31 x0 x5).f1) (wrap64 (x1 + 1))).bind fun t116 => (if t116 < 0 then (some (-1)) else (laws_heldLadderS.l0 k x0 t116 (wrap64 (x5 + 1))))) else (some (-1))) else (none)) else (some x1))) (lim_eq (laws_heldLadderS.l0.m x0 x1 x5) (fun k => by with_reducible exact laws_heldLadderS.l0.eq_2 _ _ _ _ )) (lim_ite_to (lim_ite_to (lim_ite_to (lim_bind_to (laws_heldIntS.f.m _ _ ) (fun t116 => (Mono.ite (Mono.const _) (laws_heldLadderS.l0.m _ _ _ ))) (fun t116 => (lim_ite_to (lim_const _) rfl))) (lim_const _)) (lim_const _)) (lim_const _))
theorem laws_heldLadderS.f.v_eq (l0 : List (S31)) (a1 : Int) : laws_heldLadderS.f.v l0 a1 = laws_heldLadderS.l0.v l0 a1 0 :=
  Eq.trans (b := lim (fun k => laws_heldLadderS.l0 k l0 a1 0)) (congrArg lim (funext fun k => by with_reducible exact laws_heldLadderS.f.eq_1 _ _ _ )) rfl
theorem spec_l1All.l0.v_eq (x1 : Int) (x2 : Int) (x9 : List Int) (x10 : Int) (x11 : Int) : spec_l1All.l0.v x1 x2 x9 x10 x11 = if x11 < x10 then (if 0 ≤ x11 then (if x11 < (x9.length : Int) then ((spec_l1In.f (rd x9 x11) x1 x2).bind fun t120 => (if t120 = true then (spec_l1All.l0.v x1 x2 x9 x10 (wrap64 (x11 + 1))) else (some false))) else (none)) else (none)) else (some true) :=
  Eq.trans (b := lim (fun k => if x11 < x10 then (if 0 ≤ x11 then (if x11 < (x9.length : Int) then ((spec_l1In.f (rd x9 x11) x1 x2).bind fun t120 => (if t120 = true then (spec_l1All.l0 k x1 x2 x9 x10 (wrap64 (x11 + 1))) else (some false))) else (none)) else (none)) else (some true))) (lim_eq (spec_l1All.l0.m x1 x2 x9 x10 x11) (fun k => by with_reducible exact spec_l1All.l0.eq_2 _ _ _ _ _ _ )) (lim_ite_to (lim_ite_to (lim_ite_to (lim_bindc_to (fun t120 => (lim_ite_to rfl (lim_const _)))) (lim_const _)) (lim_const _)) (lim_const _))
theorem spec_l1All.f.v_eq (l0 : List Int) (a1 : Int) (a2 : Int) : spec_l1All.f.v l0 a1 a2 = spec_l1All.l0.v a1 a2 l0 (l0.length : Int) 0 :=
  Eq.trans (b := lim (fun k => spec_l1All.l0 k a1 a2 l0 (l0.length : Int) 0)) (congrArg lim (funext fun k => by with_reducible exact spec_l1All.f.eq_1 _ _ _ _ )) rfl
theorem spec_laGood.f.v_eq (a0_0 : Int) (l0_1 : List Int) : spec_laGood.f.v a0_0 l0_1 = (spec_l1In.f a0_0 2 8).bind fun t122 => (if t122 = true then (if (l0_1.length : Int) ≤ 60 then ((spec_l1All.f.v l0_1 0 (wrap64 (a0_0 - 2))).bind fun t123 => (some t123)) else (some false)) else (some false)) :=
  Eq.trans (b := lim (fun k => (spec_l1In.f a0_0 2 8).bind fun t122 => (if t122 = true then (if (l0_1.length : Int) ≤ 60 then ((spec_l1All.f k l0_1 0 (wrap64 (a0_0 - 2))).bind fun t123 => (some t123)) else (some false)) else (some false)))) (congrArg lim (funext fun k => by with_reducible exact spec_laGood.f.eq_1 _ _ _ )) (lim_bindc_to (fun t122 => (lim_ite_to (lim_ite_to (lim_bind_to (spec_l1All.f.m _ _ _ ) (fun t123 => (Mono.const _)) (fun t123 => (lim_const _))) (lim_const _)) (lim_const _))))
end Go.Proofs.Ytnddmmjofpfmfaa.PSc
