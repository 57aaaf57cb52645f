/- The values of the printed functions, without rounds, and the equations that they meet. Written by a program of this session (vgen.py). -/
import Derived.Test.YtnddmmjofpfmfaaPScx4
import Derived.Test.YtnddmmjofpfmfaaLim
namespace Go.Proofs.Ytnddmmjofpfmfaa.PSc
open Go.RowKit Go.Proofs.YtnddmmjofpfmfaaW.PrintWords Go.Proofs.YtnddmmjofpfmfaaW.PrintLast Go.Proofs.YtnddmmjofpfmfaaW.PrintMore Go.Proofs.YtnddmmjofpfmfaaL
set_option linter.unusedVariables false
set_option maxRecDepth 100000
theorem spec_lsLess.l0.m (x0 : List Int) (x1 : List Int) (x5 : Int) : Mono (fun k => spec_lsLess.l0 k x0 x1 x5) := fun k => (spec_lsLess.mono_l k).1 x0 x1 x5
noncomputable def spec_lsLess.l0.v (x0 : List Int) (x1 : List Int) (x5 : Int) : Option (Bool) := lim (fun k => spec_lsLess.l0 k x0 x1 x5)
theorem spec_lsLess.j1.m (x0 : List Int) (x1 : List Int) (x5 : Int) (x15 : Bool) : Mono (fun k => spec_lsLess.j1 k x0 x1 x5 x15) := fun k => (spec_lsLess.mono_l k).2 x0 x1 x5 x15
noncomputable def spec_lsLess.j1.v (x0 : List Int) (x1 : List Int) (x5 : Int) (x15 : Bool) : Option (Bool) := lim (fun k => spec_lsLess.j1 k x0 x1 x5 x15)
theorem spec_lsLess.f.m (l0 : List Int) (l1 : List Int) : Mono (fun k => spec_lsLess.f k l0 l1) := fun k => spec_lsLess.mono l0 l1 k
noncomputable def spec_lsLess.f.v (l0 : List Int) (l1 : List Int) : Option (Bool) := lim (fun k => spec_lsLess.f k l0 l1)
theorem spec_lsLess.f.ends (l0 : List Int) (l1 : List Int) {r : _} (h : spec_lsLess.f.v l0 l1 = some r) : ∃ k, spec_lsLess.f k l0 l1 = some r := lim_some h
theorem spec_lsSame.f.m (l0 : List Int) (l1 : List Int) : Mono (fun k => spec_lsSame.f k l0 l1) := fun k => spec_lsSame.mono l0 l1 k
noncomputable def spec_lsSame.f.v (l0 : List Int) (l1 : List Int) : Option (Bool) := lim (fun k => spec_lsSame.f k l0 l1)
theorem spec_lsSame.f.ends (l0 : List Int) (l1 : List Int) {r : _} (h : spec_lsSame.f.v l0 l1 = some r) : ∃ k, spec_lsSame.f k l0 l1 = some r := lim_some h
theorem spec_lsLess.l0.v_eq (x0 : List Int) (x1 : List Int) (x5 : Int) : spec_lsLess.l0.v x0 x1 x5 = if x5 < (x0.length : Int) then (spec_lsLess.j1.v x0 x1 x5 (decide (x5 < (x1.length : Int)))) else (spec_lsLess.j1.v x0 x1 x5 false) :=
  Eq.trans (b := lim (fun k => if x5 < (x0.length : Int) then (spec_lsLess.j1 k x0 x1 x5 (decide (x5 < (x1.length : Int)))) else (spec_lsLess.j1 k x0 x1 x5 false))) (lim_eq (spec_lsLess.l0.m x0 x1 x5) (fun k => by with_reducible exact spec_lsLess.l0.eq_2 _ _ _ _ )) (lim_ite_to rfl rfl)
theorem spec_lsLess.j1.v_eq (x0 : List Int) (x1 : List Int) (x5 : Int) (x15 : Bool) : spec_lsLess.j1.v x0 x1 x5 x15 = if x15 = true then (if 0 ≤ x5 then (if x5 < (x0.length : Int) then (if x5 < (x1.length : Int) then (if (rd x0 x5) = (rd x1 x5) then (spec_lsLess.l0.v x0 x1 (wrap64 (x5 + 1))) else (some (decide ((rd x0 x5) < (rd x1 x5))))) else (none)) else (none)) else (none)) else (some (decide ((x0.length : Int) < (x1.length : Int)))) :=
  Eq.trans (b := lim (fun k => if x15 = true then (if 0 ≤ x5 then (if x5 < (x0.length : Int) then (if x5 < (x1.length : Int) then (if (rd x0 x5) = (rd x1 x5) then (spec_lsLess.l0 k x0 x1 (wrap64 (x5 + 1))) else (some (decide ((rd x0 x5) < (rd x1 x5))))) else (none)) else (none)) else (none)) else (some (decide ((x0.length : Int) < (x1.length : Int)))))) (lim_eq (spec_lsLess.j1.m x0 x1 x5 x15) (fun k => by with_reducible exact spec_lsLess.j1.eq_2 _ _ _ _ _ )) (lim_ite_to (lim_ite_to (lim_ite_to (lim_ite_to (lim_ite_to rfl (lim_const _)) (lim_const _)) (lim_const _)) (lim_const _)) (lim_const _))
theorem spec_lsLess.f.v_eq (l0 : List Int) (l1 : List Int) : spec_lsLess.f.v l0 l1 = spec_lsLess.l0.v l0 l1 0 :=
  Eq.trans (b := lim (fun k => spec_lsLess.l0 k l0 l1 0)) (congrArg lim (funext fun k => by with_reducible exact spec_lsLess.f.eq_1 _ _ _ )) rfl
theorem spec_lsSame.f.v_eq (l0 : List Int) (l1 : List Int) : spec_lsSame.f.v l0 l1 = (spec_lsLess.f.v l0 l1).bind fun t146 => (if t146 = true then (some false) else ((spec_lsLess.f.v l1 l0).bind fun t147 => (some (!t147)))) :=
  Eq.trans (b := lim (fun k => (spec_lsLess.f k l0 l1).bind fun t146 => (if t146 = true then (some false) else ((spec_lsLess.f k l1 l0).bind fun t147 => (some (!t147)))))) (congrArg lim (funext fun k => by with_reducible exact spec_lsSame.f.eq_1 _ _ _ )) (lim_bind_to (spec_lsLess.f.m _ _ ) (fun t146 => (Mono.ite (Mono.const _) (Mono.bind (spec_lsLess.f.m _ _ ) (fun t147 => (Mono.const _))))) (fun t146 => (lim_ite_to (lim_const _) (lim_bind_to (spec_lsLess.f.m _ _ ) (fun t147 => (Mono.const _)) (fun t147 => (lim_const _))))))
end Go.Proofs.Ytnddmmjofpfmfaa.PSc
