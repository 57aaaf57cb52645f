/- The values of the printed functions, without rounds, and the equations that they meet. Written by a program of this session (vgen.py). -/
import Derived.Test.YtnddmmjofpfmfaaPScx6
import Derived.Test.YtnddmmjofpfmfaaLim
namespace Go.Proofs.Ytnddmmjofpfmfaa.PSc
open Go.RowKit Go.Proofs.YtnddmmjofpfmfaaW.PrintWords Go.Proofs.YtnddmmjofpfmfaaW.PrintLast Go.Proofs.YtnddmmjofpfmfaaW.PrintMore Go.Proofs.YtnddmmjofpfmfaaL
set_option linter.unusedVariables false
set_option maxRecDepth 100000
theorem laws_toIntS.l0.m (x0 : List Int) (x3 : List Int) (x4 : Int) : Mono (fun k => laws_toIntS.l0 k x0 x3 x4) := fun k => (laws_toIntS.mono_l k) x0 x3 x4
noncomputable def laws_toIntS.l0.v (x0 : List Int) (x3 : List Int) (x4 : Int) : Option (List Int) := lim (fun k => laws_toIntS.l0 k x0 x3 x4)
theorem laws_toIntS.f.m (l0 : List Int) : Mono (fun k => laws_toIntS.f k l0) := fun k => laws_toIntS.mono l0 k
noncomputable def laws_toIntS.f.v (l0 : List Int) : Option (List Int) := lim (fun k => laws_toIntS.f k l0)
theorem laws_toIntS.f.ends (l0 : List Int) {r : _} (h : laws_toIntS.f.v l0 = some r) : ∃ k, laws_toIntS.f k l0 = some r := lim_some h
theorem laws_toLadder.f.m (a0_0 : Int) (l0_1 : List Int) : Mono (fun k => laws_toLadder.f k a0_0 l0_1) := fun k => laws_toLadder.mono a0_0 l0_1 k
noncomputable def laws_toLadder.f.v (a0_0 : Int) (l0_1 : List Int) : Option (Int × List Int) := lim (fun k => laws_toLadder.f k a0_0 l0_1)
theorem laws_toLadder.f.ends (a0_0 : Int) (l0_1 : List Int) {r : _} (h : laws_toLadder.f.v a0_0 l0_1 = some r) : ∃ k, laws_toLadder.f k a0_0 l0_1 = some r := lim_some h
theorem laws_toIntS.l0.v_eq (x0 : List Int) (x3 : List Int) (x4 : Int) : laws_toIntS.l0.v x0 x3 x4 = if x4 < (x0.length : Int) then (if 0 ≤ x4 then (if x4 < (x3.length : Int) then (laws_toIntS.l0.v x0 (x3.set (x4 : Int).toNat (rd x0 x4)) (wrap64 (x4 + 1))) else (none)) else (none)) else (some x3) :=
  Eq.trans (b := lim (fun k => if x4 < (x0.length : Int) then (if 0 ≤ x4 then (if x4 < (x3.length : Int) then (laws_toIntS.l0 k x0 (x3.set (x4 : Int).toNat (rd x0 x4)) (wrap64 (x4 + 1))) else (none)) else (none)) else (some x3))) (lim_eq (laws_toIntS.l0.m x0 x3 x4) (fun k => by with_reducible exact laws_toIntS.l0.eq_2 _ _ _ _ )) (lim_ite_to (lim_ite_to (lim_ite_to rfl (lim_const _)) (lim_const _)) (lim_const _))
theorem laws_toIntS.f.v_eq (l0 : List Int) : laws_toIntS.f.v l0 = if 0 ≤ (l0.length : Int) then (if ((l0.length : Int) : Int).toNat ≤ 35184372088832 then (laws_toIntS.l0.v l0 (List.replicate ((l0.length : Int) : Int).toNat 0) 0) else (none)) else (none) :=
  Eq.trans (b := lim (fun k => if 0 ≤ (l0.length : Int) then (if ((l0.length : Int) : Int).toNat ≤ 35184372088832 then (laws_toIntS.l0 k l0 (List.replicate ((l0.length : Int) : Int).toNat 0) 0) else (none)) else (none))) (congrArg lim (funext fun k => by with_reducible exact laws_toIntS.f.eq_1 _ _ )) (lim_ite_to (lim_ite_to rfl (lim_const _)) (lim_const _))
theorem laws_toLadder.f.v_eq (a0_0 : Int) (l0_1 : List Int) : laws_toLadder.f.v a0_0 l0_1 = (laws_toIntS.f.v l0_1).bind fun t200 => (some (a0_0, t200)) :=
  Eq.trans (b := lim (fun k => (laws_toIntS.f k l0_1).bind fun t200 => (some (a0_0, t200)))) (congrArg lim (funext fun k => by with_reducible exact laws_toLadder.f.eq_1 _ _ _ )) (lim_bind_to (laws_toIntS.f.m _ ) (fun t200 => (Mono.const _)) (fun t200 => (lim_const _)))
end Go.Proofs.Ytnddmmjofpfmfaa.PSc
