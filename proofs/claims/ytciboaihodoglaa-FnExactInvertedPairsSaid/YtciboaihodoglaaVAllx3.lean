/- The values of the printed functions, without rounds, and the equations that they meet. Written by a program of this session (vgen.py). -/
import Derived.Test.YtciboaihodoglaaPAllx3
import Derived.Test.YtciboaihodoglaaVAllx2
import Derived.Test.YtciboaihodoglaaLim
namespace Go.Proofs.Ytciboaihodoglaa.PAll
open Go.RowKit Go.Proofs.YtciboaihodoglaaW.PrintWords Go.Proofs.YtciboaihodoglaaW.PrintLast Go.Proofs.YtciboaihodoglaaW.PrintMore Go.Proofs.YtciboaihodoglaaL
set_option linter.unusedVariables false
set_option maxRecDepth 100000
theorem impl_inverted.l0.m (x0 : List Int) (x3 : List (List Int)) (x8 : Int) (x9 : Int) : Mono (fun k => impl_inverted.l0 k x0 x3 x8 x9) := fun k => (impl_inverted.mono_l k).1 x0 x3 x8 x9
noncomputable def impl_inverted.l0.v (x0 : List Int) (x3 : List (List Int)) (x8 : Int) (x9 : Int) : Option ((List (List Int))) := lim (fun k => impl_inverted.l0 k x0 x3 x8 x9)
theorem impl_inverted.l1.m (x0 : List Int) (x3 : List (List Int)) (x4 : Int) (x5 : Int) (x8 : Int) (x9 : Int) : Mono (fun k => impl_inverted.l1 k x0 x3 x4 x5 x8 x9) := fun k => (impl_inverted.mono_l k).2 x0 x3 x4 x5 x8 x9
noncomputable def impl_inverted.l1.v (x0 : List Int) (x3 : List (List Int)) (x4 : Int) (x5 : Int) (x8 : Int) (x9 : Int) : Option ((List (List Int))) := lim (fun k => impl_inverted.l1 k x0 x3 x4 x5 x8 x9)
theorem impl_inverted.f.m (l0 : List Int) : Mono (fun k => impl_inverted.f k l0) := fun k => impl_inverted.mono l0 k
noncomputable def impl_inverted.f.v (l0 : List Int) : Option ((List (List Int))) := lim (fun k => impl_inverted.f k l0)
theorem impl_inverted.f.ends (l0 : List Int) {r : _} (h : impl_inverted.f.v l0 = some r) : ∃ k, impl_inverted.f k l0 = some r := lim_some h
theorem impl_InvertedPairs.f.m (l0 : List Int) : Mono (fun k => impl_InvertedPairs.f k l0) := fun k => impl_InvertedPairs.mono l0 k
noncomputable def impl_InvertedPairs.f.v (l0 : List Int) : Option ((List (List Int)) × Bool) := lim (fun k => impl_InvertedPairs.f k l0)
theorem impl_InvertedPairs.f.ends (l0 : List Int) {r : _} (h : impl_InvertedPairs.f.v l0 = some r) : ∃ k, impl_InvertedPairs.f k l0 = some r := lim_some h
theorem laws_eqIntS.l0.m (x0 : List Int) (x1 : List Int) (x5 : Int) : Mono (fun k => laws_eqIntS.l0 k x0 x1 x5) := fun k => (laws_eqIntS.mono_l k) x0 x1 x5
noncomputable def laws_eqIntS.l0.v (x0 : List Int) (x1 : List Int) (x5 : Int) : Option (Bool) := lim (fun k => laws_eqIntS.l0 k x0 x1 x5)
theorem laws_eqIntS.f.m (l0 : List Int) (l1 : List Int) : Mono (fun k => laws_eqIntS.f k l0 l1) := fun k => laws_eqIntS.mono l0 l1 k
noncomputable def laws_eqIntS.f.v (l0 : List Int) (l1 : List Int) : Option (Bool) := lim (fun k => laws_eqIntS.f k l0 l1)
theorem laws_eqIntS.f.ends (l0 : List Int) (l1 : List Int) {r : _} (h : laws_eqIntS.f.v l0 l1 = some r) : ∃ k, laws_eqIntS.f k l0 l1 = some r := lim_some h
theorem impl_inverted.l0.v_eq (x0 : List Int) (x3 : List (List Int)) (x8 : Int) (x9 : Int) : impl_inverted.l0.v x0 x3 x8 x9 = if x9 < x8 then (impl_inverted.l1.v x0 x3 x9 (wrap64 (x9 + 1)) x8 x9) else (some x3) :=
  Eq.trans (b := lim (fun k => if x9 < x8 then (impl_inverted.l1 k x0 x3 x9 (wrap64 (x9 + 1)) x8 x9) else (some x3))) (lim_eq (impl_inverted.l0.m x0 x3 x8 x9) (fun k => by with_reducible exact impl_inverted.l0.eq_2 _ _ _ _ _ )) (lim_ite_to rfl (lim_const _))
theorem impl_inverted.l1.v_eq (x0 : List Int) (x3 : List (List Int)) (x4 : Int) (x5 : Int) (x8 : Int) (x9 : Int) : impl_inverted.l1.v x0 x3 x4 x5 x8 x9 = if x5 < (x0.length : Int) then (if 0 ≤ x4 then (if x4 < (x0.length : Int) then (if 0 ≤ x5 then (if (rd x0 x4) > (rd x0 x5) then (if x3.length < 5864062014805 then (impl_inverted.l1.v x0 (x3 ++ [(([x4, x5] : List Int))]) x4 (wrap64 (x5 + 1)) x8 x9) else (none)) else (impl_inverted.l1.v x0 x3 x4 (wrap64 (x5 + 1)) x8 x9)) else (none)) else (none)) else (none)) else (impl_inverted.l0.v x0 x3 x8 (wrap64 (x9 + 1))) :=
  Eq.trans (b := lim (fun k => if x5 < (x0.length : Int) then (if 0 ≤ x4 then (if x4 < (x0.length : Int) then (if 0 ≤ x5 then (if (rd x0 x4) > (rd x0 x5) then (if x3.length < 5864062014805 then (impl_inverted.l1 k x0 (x3 ++ [(([x4, x5] : List Int))]) x4 (wrap64 (x5 + 1)) x8 x9) else (none)) else (impl_inverted.l1 k x0 x3 x4 (wrap64 (x5 + 1)) x8 x9)) else (none)) else (none)) else (none)) else (impl_inverted.l0 k x0 x3 x8 (wrap64 (x9 + 1))))) (lim_eq (impl_inverted.l1.m x0 x3 x4 x5 x8 x9) (fun k => by with_reducible exact impl_inverted.l1.eq_2 _ _ _ _ _ _ _ )) (lim_ite_to (lim_ite_to (lim_ite_to (lim_ite_to (lim_ite_to (lim_ite_to rfl (lim_const _)) rfl) (lim_const _)) (lim_const _)) (lim_const _)) rfl)
theorem impl_inverted.f.v_eq (l0 : List Int) : impl_inverted.f.v l0 = impl_inverted.l0.v l0 (([] : List (List Int))) (l0.length : Int) 0 :=
  Eq.trans (b := lim (fun k => impl_inverted.l0 k l0 (([] : List (List Int))) (l0.length : Int) 0)) (congrArg lim (funext fun k => by with_reducible exact impl_inverted.f.eq_1 _ _ )) rfl
theorem impl_InvertedPairs.f.v_eq (l0 : List Int) : impl_InvertedPairs.f.v l0 = (impl_isOrder.f.v l0).bind fun t152 => (if t152 = true then ((impl_inverted.f.v l0).bind fun t153 => (some (t153, true))) else (some (([] : List (List Int)), false))) :=
  Eq.trans (b := lim (fun k => (impl_isOrder.f k l0).bind fun t152 => (if t152 = true then ((impl_inverted.f k l0).bind fun t153 => (some (t153, true))) else (some (([] : List (List Int)), false))))) (congrArg lim (funext fun k => by with_reducible exact impl_InvertedPairs.f.eq_1 _ _ )) (lim_bind_to (impl_isOrder.f.m _ ) (fun t152 => (Mono.ite (Mono.bind (impl_inverted.f.m _ ) (fun t153 => (Mono.const _))) (Mono.const _))) (fun t152 => (lim_ite_to (lim_bind_to (impl_inverted.f.m _ ) (fun t153 => (Mono.const _)) (fun t153 => (lim_const _))) (lim_const _))))
theorem laws_eqIntS.l0.v_eq (x0 : List Int) (x1 : List Int) (x5 : Int) : laws_eqIntS.l0.v x0 x1 x5 = if x5 < (x0.length : Int) then (if 0 ≤ x5 then (if x5 < (x1.length : Int) then (if (rd x0 x5) = (rd x1 x5) then (laws_eqIntS.l0.v x0 x1 (wrap64 (x5 + 1))) else (some false)) else (none)) else (none)) else (some true) :=
  Eq.trans (b := lim (fun k => if x5 < (x0.length : Int) then (if 0 ≤ x5 then (if x5 < (x1.length : Int) then (if (rd x0 x5) = (rd x1 x5) then (laws_eqIntS.l0 k x0 x1 (wrap64 (x5 + 1))) else (some false)) else (none)) else (none)) else (some true))) (lim_eq (laws_eqIntS.l0.m x0 x1 x5) (fun k => by with_reducible exact laws_eqIntS.l0.eq_2 _ _ _ _ )) (lim_ite_to (lim_ite_to (lim_ite_to (lim_ite_to rfl (lim_const _)) (lim_const _)) (lim_const _)) (lim_const _))
theorem laws_eqIntS.f.v_eq (l0 : List Int) (l1 : List Int) : laws_eqIntS.f.v l0 l1 = if (l0.length : Int) = (l1.length : Int) then (laws_eqIntS.l0.v l0 l1 0) else (some false) :=
  Eq.trans (b := lim (fun k => if (l0.length : Int) = (l1.length : Int) then (laws_eqIntS.l0 k l0 l1 0) else (some false))) (congrArg lim (funext fun k => by with_reducible exact laws_eqIntS.f.eq_1 _ _ _ )) (lim_ite_to rfl (lim_const _))
end Go.Proofs.Ytciboaihodoglaa.PAll
