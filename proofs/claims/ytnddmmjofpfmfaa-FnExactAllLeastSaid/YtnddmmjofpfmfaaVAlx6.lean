/- The values of the printed functions, without rounds, and the equations that they meet. Written by a program of this session (vgen.py). -/
import Derived.Test.YtnddmmjofpfmfaaPAlx6
import Derived.Test.YtnddmmjofpfmfaaLim
namespace Go.Proofs.Ytnddmmjofpfmfaa.PAl
open Go.RowKit Go.Proofs.YtnddmmjofpfmfaaW.PrintWords Go.Proofs.YtnddmmjofpfmfaaW.PrintLast Go.Proofs.YtnddmmjofpfmfaaW.PrintMore Go.Proofs.YtnddmmjofpfmfaaL
set_option linter.unusedVariables false
set_option maxRecDepth 100000
theorem slices_Index_int_int.l0.m (x0 : List Int) (x1 : Int) (x7 : Int) (x8 : Int) : Mono (fun k => slices_Index_int_int.l0 k x0 x1 x7 x8) := fun k => (slices_Index_int_int.mono_l k) x0 x1 x7 x8
noncomputable def slices_Index_int_int.l0.v (x0 : List Int) (x1 : Int) (x7 : Int) (x8 : Int) : Option (Int) := lim (fun k => slices_Index_int_int.l0 k x0 x1 x7 x8)
theorem slices_Index_int_int.f.m (l0 : List Int) (a1 : Int) : Mono (fun k => slices_Index_int_int.f k l0 a1) := fun k => slices_Index_int_int.mono l0 a1 k
noncomputable def slices_Index_int_int.f.v (l0 : List Int) (a1 : Int) : Option (Int) := lim (fun k => slices_Index_int_int.f k l0 a1)
theorem slices_Index_int_int.f.ends (l0 : List Int) (a1 : Int) {r : _} (h : slices_Index_int_int.f.v l0 a1 = some r) : ∃ k, slices_Index_int_int.f k l0 a1 = some r := lim_some h
theorem slices_Contains_int_int.f.m (l0 : List Int) (a1 : Int) : Mono (fun k => slices_Contains_int_int.f k l0 a1) := fun k => slices_Contains_int_int.mono l0 a1 k
noncomputable def slices_Contains_int_int.f.v (l0 : List Int) (a1 : Int) : Option (Bool) := lim (fun k => slices_Contains_int_int.f k l0 a1)
theorem slices_Contains_int_int.f.ends (l0 : List Int) (a1 : Int) {r : _} (h : slices_Contains_int_int.f.v l0 a1 = some r) : ∃ k, slices_Contains_int_int.f k l0 a1 = some r := lim_some h
theorem slices_Index_int_int.l0.v_eq (x0 : List Int) (x1 : Int) (x7 : Int) (x8 : Int) : slices_Index_int_int.l0.v x0 x1 x7 x8 = if x8 < x7 then (if 0 ≤ x8 then (if x8 < (x0.length : Int) then (if x1 = (rd x0 x8) then (some x8) else (slices_Index_int_int.l0.v x0 x1 x7 (wrap64 (x8 + 1)))) else (none)) else (none)) else (some (-1)) :=
  Eq.trans (b := lim (fun k => if x8 < x7 then (if 0 ≤ x8 then (if x8 < (x0.length : Int) then (if x1 = (rd x0 x8) then (some x8) else (slices_Index_int_int.l0 k x0 x1 x7 (wrap64 (x8 + 1)))) else (none)) else (none)) else (some (-1)))) (lim_eq (slices_Index_int_int.l0.m x0 x1 x7 x8) (fun k => by with_reducible exact slices_Index_int_int.l0.eq_2 _ _ _ _ _ )) (lim_ite_to (lim_ite_to (lim_ite_to (lim_ite_to (lim_const _) rfl) (lim_const _)) (lim_const _)) (lim_const _))
theorem slices_Index_int_int.f.v_eq (l0 : List Int) (a1 : Int) : slices_Index_int_int.f.v l0 a1 = slices_Index_int_int.l0.v l0 a1 (l0.length : Int) 0 :=
  Eq.trans (b := lim (fun k => slices_Index_int_int.l0 k l0 a1 (l0.length : Int) 0)) (congrArg lim (funext fun k => by with_reducible exact slices_Index_int_int.f.eq_1 _ _ _ )) rfl
theorem slices_Contains_int_int.f.v_eq (l0 : List Int) (a1 : Int) : slices_Contains_int_int.f.v l0 a1 = (slices_Index_int_int.f.v l0 a1).bind fun t196 => (some (decide (t196 ≥ 0))) :=
  Eq.trans (b := lim (fun k => (slices_Index_int_int.f k l0 a1).bind fun t196 => (some (decide (t196 ≥ 0))))) (congrArg lim (funext fun k => by with_reducible exact slices_Contains_int_int.f.eq_1 _ _ _ )) (lim_bind_to (slices_Index_int_int.f.m _ _ ) (fun t196 => (Mono.const _)) (fun t196 => (lim_const _)))
end Go.Proofs.Ytnddmmjofpfmfaa.PAl
