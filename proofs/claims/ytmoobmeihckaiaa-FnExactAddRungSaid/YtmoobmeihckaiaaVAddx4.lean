/- The values of the printed functions, without rounds, and the equations that they meet. Written by a program of this session (vgen.py). -/
import Derived.Test.YtmoobmeihckaiaaPAddx4
import Derived.Test.YtmoobmeihckaiaaLim
namespace Go.Proofs.Ytmoobmeihckaiaa.PAdd
open Go.RowKit Go.Proofs.YtmoobmeihckaiaaW.PrintWords Go.Proofs.YtmoobmeihckaiaaW.PrintLast Go.Proofs.YtmoobmeihckaiaaW.PrintMore Go.Proofs.YtmoobmeihckaiaaL
set_option linter.unusedVariables false
set_option maxRecDepth 100000
theorem slices_Reverse_int_int.l0.m (x0 : List Int) (x2 : Int) (x3 : Int) : Mono (fun k => slices_Reverse_int_int.l0 k x0 x2 x3) := fun k => (slices_Reverse_int_int.mono_l k) x0 x2 x3
noncomputable def slices_Reverse_int_int.l0.v (x0 : List Int) (x2 : Int) (x3 : Int) : Option (List Int) := lim (fun k => slices_Reverse_int_int.l0 k x0 x2 x3)
theorem slices_Reverse_int_int.f.m (l0 : List Int) : Mono (fun k => slices_Reverse_int_int.f k l0) := fun k => slices_Reverse_int_int.mono l0 k
noncomputable def slices_Reverse_int_int.f.v (l0 : List Int) : Option (List Int) := lim (fun k => slices_Reverse_int_int.f k l0)
theorem slices_Reverse_int_int.f.ends (l0 : List Int) {r : _} (h : slices_Reverse_int_int.f.v l0 = some r) : ∃ k, slices_Reverse_int_int.f k l0 = some r := lim_some h
theorem slices_Reverse_int_int.l0.v_eq (x0 : List Int) (x2 : Int) (x3 : Int) : slices_Reverse_int_int.l0.v x0 x2 x3 = if x2 < x3 then (if 0 ≤ x3 then (if x3 < (x0.length : Int) then (if 0 ≤ x2 then (if x2 < (x0.length : Int) then (slices_Reverse_int_int.l0.v ((x0.set (x2 : Int).toNat (rd x0 x3)).set (x3 : Int).toNat (rd x0 x2)) (wrap64 (x2 + 1)) (wrap64 (x3 - 1))) else (none)) else (none)) else (none)) else (none)) else (some x0) :=
  Eq.trans (b := lim (fun k => if x2 < x3 then (if 0 ≤ x3 then (if x3 < (x0.length : Int) then (if 0 ≤ x2 then (if x2 < (x0.length : Int) then (slices_Reverse_int_int.l0 k ((x0.set (x2 : Int).toNat (rd x0 x3)).set (x3 : Int).toNat (rd x0 x2)) (wrap64 (x2 + 1)) (wrap64 (x3 - 1))) else (none)) else (none)) else (none)) else (none)) else (some x0))) (lim_eq (slices_Reverse_int_int.l0.m x0 x2 x3) (fun k => by with_reducible exact slices_Reverse_int_int.l0.eq_2 _ _ _ _ )) (lim_ite_to (lim_ite_to (lim_ite_to (lim_ite_to (lim_ite_to rfl (lim_const _)) (lim_const _)) (lim_const _)) (lim_const _)) (lim_const _))
theorem slices_Reverse_int_int.f.v_eq (l0 : List Int) : slices_Reverse_int_int.f.v l0 = slices_Reverse_int_int.l0.v l0 0 (wrap64 ((l0.length : Int) - 1)) :=
  Eq.trans (b := lim (fun k => slices_Reverse_int_int.l0 k l0 0 (wrap64 ((l0.length : Int) - 1)))) (congrArg lim (funext fun k => by with_reducible exact slices_Reverse_int_int.f.eq_1 _ _ )) rfl
end Go.Proofs.Ytmoobmeihckaiaa.PAdd
