/- The values of the printed functions, without rounds, and the equations that they meet. Written by a program of this session (vgen.py). -/
import Derived.Test.YtldcjlpbodpmbaaDoorPMvx11
import Derived.Test.YtldcjlpbodpmbaaDoorVMvx10
import Derived.Test.YtldcjlpbodpmbaaDoorLim
namespace Go.Proofs.YtldcjlpbodpmbaaDoor.PMv
open Go.RowKit Go.Proofs.YtldcjlpbodpmbaaDoorW.PrintWords Go.Proofs.YtldcjlpbodpmbaaDoorW.PrintLast Go.Proofs.YtldcjlpbodpmbaaDoorW.PrintMore Go.Proofs.YtldcjlpbodpmbaaDoorL
set_option linter.unusedVariables false
set_option maxRecDepth 100000
theorem laws_heldStringS.l0.m (x0 : List ByteArray) (x1 : Int) (x5 : Int) : Mono (fun k => laws_heldStringS.l0 k x0 x1 x5) := fun k => (laws_heldStringS.mono_l k) x0 x1 x5
noncomputable def laws_heldStringS.l0.v (x0 : List ByteArray) (x1 : Int) (x5 : Int) : Option (Int) := lim (fun k => laws_heldStringS.l0 k x0 x1 x5)
theorem laws_heldStringS.f.m (l0 : List ByteArray) (a1 : Int) : Mono (fun k => laws_heldStringS.f k l0 a1) := fun k => laws_heldStringS.mono l0 a1 k
noncomputable def laws_heldStringS.f.v (l0 : List ByteArray) (a1 : Int) : Option (Int) := lim (fun k => laws_heldStringS.f k l0 a1)
theorem laws_heldStringS.f.ends (l0 : List ByteArray) (a1 : Int) {r : _} (h : laws_heldStringS.f.v l0 a1 = some r) : ∃ k, laws_heldStringS.f k l0 a1 = some r := lim_some h
theorem laws_heldStringS.l0.v_eq (x0 : List ByteArray) (x1 : Int) (x5 : Int) : laws_heldStringS.l0.v x0 x1 x5 = if x5 < (x0.length : Int) then (if 0 ≤ x5 then ((laws_markText.f.v x1).bind fun t246 => (if (rdOf ByteArray.empty x0 x5).toList = t246.toList then (laws_heldStringS.l0.v x0 (wrap64 (x1 + 1)) (wrap64 (x5 + 1))) else (some (-1)))) else (none)) else (some x1) :=
  Eq.trans (b := lim (fun k => if x5 < (x0.length : Int) then (if 0 ≤ x5 then ((laws_markText.f k x1).bind fun t246 => (if (rdOf ByteArray.empty x0 x5).toList = t246.toList then (laws_heldStringS.l0 k x0 (wrap64 (x1 + 1)) (wrap64 (x5 + 1))) else (some (-1)))) else (none)) else (some x1))) (lim_eq (laws_heldStringS.l0.m x0 x1 x5) (fun k => by with_reducible exact laws_heldStringS.l0.eq_2 _ _ _ _ )) (lim_ite_to (lim_ite_to (lim_bind_to (laws_markText.f.m _ ) (fun t246 => (Mono.ite (laws_heldStringS.l0.m _ _ _ ) (Mono.const _))) (fun t246 => (lim_ite_to rfl (lim_const _)))) (lim_const _)) (lim_const _))
theorem laws_heldStringS.f.v_eq (l0 : List ByteArray) (a1 : Int) : laws_heldStringS.f.v l0 a1 = laws_heldStringS.l0.v l0 a1 0 :=
  Eq.trans (b := lim (fun k => laws_heldStringS.l0 k l0 a1 0)) (congrArg lim (funext fun k => by with_reducible exact laws_heldStringS.f.eq_1 _ _ _ )) rfl
end Go.Proofs.YtldcjlpbodpmbaaDoor.PMv
