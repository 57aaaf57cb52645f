/- The values of the printed functions, without rounds, and the equations that they meet. Written by a program of this session (vgen.py). -/
import Derived.Test.YtnddmmjofpfmfaaPCbx11
import Derived.Test.YtnddmmjofpfmfaaVCbx10
import Derived.Test.YtnddmmjofpfmfaaLim
namespace Go.Proofs.Ytnddmmjofpfmfaa.PCb
open Go.RowKit Go.Proofs.YtnddmmjofpfmfaaW.PrintWords Go.Proofs.YtnddmmjofpfmfaaW.PrintLast Go.Proofs.YtnddmmjofpfmfaaW.PrintMore Go.Proofs.YtnddmmjofpfmfaaL
set_option linter.unusedVariables false
set_option maxRecDepth 100000
theorem laws_FnExactCountAllLeast.f.m (a0 : Int) : Mono (fun k => laws_FnExactCountAllLeast.f k a0) := fun k => laws_FnExactCountAllLeast.mono a0 k
noncomputable def laws_FnExactCountAllLeast.f.v (a0 : Int) : Option (Bool) := lim (fun k => laws_FnExactCountAllLeast.f k a0)
theorem laws_FnExactCountAllLeast.f.ends (a0 : Int) {r : _} (h : laws_FnExactCountAllLeast.f.v a0 = some r) : ∃ k, laws_FnExactCountAllLeast.f k a0 = some r := lim_some h
theorem laws_FnExactCountAllLeast.f.v_eq (a0 : Int) : laws_FnExactCountAllLeast.f.v a0 = (spec_CountAllLeast.f.v a0).bind fun bt224 => ((impl_CountAllLeast.f.v a0).bind fun bt226 => (if bt226.1 = bt224.1 then (if (bt226.2 != bt224.2) = true then (some false) else (some true)) else (some false))) :=
  Eq.trans (b := lim (fun k => (spec_CountAllLeast.f k a0).bind fun bt224 => ((impl_CountAllLeast.f k a0).bind fun bt226 => (if bt226.1 = bt224.1 then (if (bt226.2 != bt224.2) = true then (some false) else (some true)) else (some false))))) (congrArg lim (funext fun k => by with_reducible exact laws_FnExactCountAllLeast.f.eq_1 _ _ )) (lim_bind_to (spec_CountAllLeast.f.m _ ) (fun bt224 => (Mono.bind (impl_CountAllLeast.f.m _ ) (fun bt226 => (Mono.const _)))) (fun bt224 => (lim_bind_to (impl_CountAllLeast.f.m _ ) (fun bt226 => (Mono.const _)) (fun bt226 => (lim_const _)))))
end Go.Proofs.Ytnddmmjofpfmfaa.PCb
