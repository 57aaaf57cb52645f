/- The values of the printed functions, without rounds, and the equations that they meet. Written by a program of this session (vgen.py). -/
import Derived.Test.YtnddmmjofpfmfaaPCbx1
import Derived.Test.YtnddmmjofpfmfaaLim
namespace Go.Proofs.Ytnddmmjofpfmfaa.PCb
open Go.RowKit Go.Proofs.YtnddmmjofpfmfaaW.PrintWords Go.Proofs.YtnddmmjofpfmfaaW.PrintLast Go.Proofs.YtnddmmjofpfmfaaW.PrintMore Go.Proofs.YtnddmmjofpfmfaaL
set_option linter.unusedVariables false
set_option maxRecDepth 100000
theorem spec_l1Has.l0.m (x1 : Int) (x7 : List Int) (x8 : Int) (x9 : Int) : Mono (fun k => spec_l1Has.l0 k x1 x7 x8 x9) := fun k => (spec_l1Has.mono_l k) x1 x7 x8 x9
noncomputable def spec_l1Has.l0.v (x1 : Int) (x7 : List Int) (x8 : Int) (x9 : Int) : Option (Bool) := lim (fun k => spec_l1Has.l0 k x1 x7 x8 x9)
theorem spec_l1Has.f.m (l0 : List Int) (a1 : Int) : Mono (fun k => spec_l1Has.f k l0 a1) := fun k => spec_l1Has.mono l0 a1 k
noncomputable def spec_l1Has.f.v (l0 : List Int) (a1 : Int) : Option (Bool) := lim (fun k => spec_l1Has.f k l0 a1)
theorem spec_l1Has.f.ends (l0 : List Int) (a1 : Int) {r : _} (h : spec_l1Has.f.v l0 a1 = some r) : ∃ k, spec_l1Has.f k l0 a1 = some r := lim_some h
theorem spec_l1Has.l0.v_eq (x1 : Int) (x7 : List Int) (x8 : Int) (x9 : Int) : spec_l1Has.l0.v x1 x7 x8 x9 = if x9 < x8 then (if 0 ≤ x9 then (if x9 < (x7.length : Int) then (if (rd x7 x9) = x1 then (some true) else (spec_l1Has.l0.v x1 x7 x8 (wrap64 (x9 + 1)))) else (none)) else (none)) else (some false) :=
  Eq.trans (b := lim (fun k => if x9 < x8 then (if 0 ≤ x9 then (if x9 < (x7.length : Int) then (if (rd x7 x9) = x1 then (some true) else (spec_l1Has.l0 k x1 x7 x8 (wrap64 (x9 + 1)))) else (none)) else (none)) else (some false))) (lim_eq (spec_l1Has.l0.m x1 x7 x8 x9) (fun k => by with_reducible exact spec_l1Has.l0.eq_2 _ _ _ _ _ )) (lim_ite_to (lim_ite_to (lim_ite_to (lim_ite_to (lim_const _) rfl) (lim_const _)) (lim_const _)) (lim_const _))
theorem spec_l1Has.f.v_eq (l0 : List Int) (a1 : Int) : spec_l1Has.f.v l0 a1 = spec_l1Has.l0.v a1 l0 (l0.length : Int) 0 :=
  Eq.trans (b := lim (fun k => spec_l1Has.l0 k a1 l0 (l0.length : Int) 0)) (congrArg lim (funext fun k => by with_reducible exact spec_l1Has.f.eq_1 _ _ _ )) rfl
end Go.Proofs.Ytnddmmjofpfmfaa.PCb
