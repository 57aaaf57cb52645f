/- The values of the printed functions, without rounds, and the equations that they meet. Written by a program of this session (vgen.py). -/
import Derived.Test.YtnddmmjofpfmfaaPLcx2
import Derived.Test.YtnddmmjofpfmfaaLim
namespace Go.Proofs.Ytnddmmjofpfmfaa.PLc
open Go.RowKit Go.Proofs.YtnddmmjofpfmfaaW.PrintWords Go.Proofs.YtnddmmjofpfmfaaW.PrintLast Go.Proofs.YtnddmmjofpfmfaaW.PrintMore Go.Proofs.YtnddmmjofpfmfaaL
set_option linter.unusedVariables false
set_option maxRecDepth 100000
theorem spec_CountAllLeast.l0.m (x5 : Bool) (x6 : Int) (x14 : List Int) (x15 : Int) (x16 : Int) : Mono (fun k => spec_CountAllLeast.l0 k x5 x6 x14 x15 x16) := fun k => (spec_CountAllLeast.mono_l k) x5 x6 x14 x15 x16
noncomputable def spec_CountAllLeast.l0.v (x5 : Bool) (x6 : Int) (x14 : List Int) (x15 : Int) (x16 : Int) : Option (Int × Bool) := lim (fun k => spec_CountAllLeast.l0 k x5 x6 x14 x15 x16)
theorem spec_CountAllLeast.f.m (a0 : Int) : Mono (fun k => spec_CountAllLeast.f k a0) := fun k => spec_CountAllLeast.mono a0 k
noncomputable def spec_CountAllLeast.f.v (a0 : Int) : Option (Int × Bool) := lim (fun k => spec_CountAllLeast.f k a0)
theorem spec_CountAllLeast.f.ends (a0 : Int) {r : _} (h : spec_CountAllLeast.f.v a0 = some r) : ∃ k, spec_CountAllLeast.f k a0 = some r := lim_some h
theorem spec_CountAllLeast.l0.v_eq (x5 : Bool) (x6 : Int) (x14 : List Int) (x15 : Int) (x16 : Int) : spec_CountAllLeast.l0.v x5 x6 x14 x15 x16 = if x16 < x15 then (if 0 ≤ x16 then (if x16 < (x14.length : Int) then (spec_CountAllLeast.l0.v x5 (wrap64 (x6 + (rd x14 x16))) x14 x15 (wrap64 (x16 + 1))) else (none)) else (none)) else (some (x6, x5)) :=
  Eq.trans (b := lim (fun k => if x16 < x15 then (if 0 ≤ x16 then (if x16 < (x14.length : Int) then (spec_CountAllLeast.l0 k x5 (wrap64 (x6 + (rd x14 x16))) x14 x15 (wrap64 (x16 + 1))) else (none)) else (none)) else (some (x6, x5)))) (lim_eq (spec_CountAllLeast.l0.m x5 x6 x14 x15 x16) (fun k => by with_reducible exact spec_CountAllLeast.l0.eq_2 _ _ _ _ _ _ )) (lim_ite_to (lim_ite_to (lim_ite_to rfl (lim_const _)) (lim_const _)) (lim_const _))
theorem spec_CountAllLeast.f.v_eq (a0 : Int) : spec_CountAllLeast.f.v a0 = (spec_CountByLength.f a0).bind fun bt144 => (spec_CountAllLeast.l0.v bt144.2 0 bt144.1 (bt144.1.length : Int) 0) :=
  Eq.trans (b := lim (fun k => (spec_CountByLength.f a0).bind fun bt144 => (spec_CountAllLeast.l0 k bt144.2 0 bt144.1 (bt144.1.length : Int) 0))) (congrArg lim (funext fun k => by with_reducible exact spec_CountAllLeast.f.eq_1 _ _ )) (lim_bindc_to (fun bt144 => rfl))
end Go.Proofs.Ytnddmmjofpfmfaa.PLc
