/- The values of the printed functions, without rounds, and the equations that they meet. Written by a program of this session (vgen.py). -/
import Derived.Test.YtldolihoffcomaaPAllx16
import Derived.Test.YtldolihoffcomaaVAllx11
import Derived.Test.YtldolihoffcomaaLim
namespace Go.Proofs.Ytldolihoffcomaa.PAll
open Go.RowKit Go.Proofs.YtldolihoffcomaaW.PrintWords Go.Proofs.YtldolihoffcomaaW.PrintLast Go.Proofs.YtldolihoffcomaaW.PrintMore Go.Proofs.YtldolihoffcomaaL
set_option linter.unusedVariables false
set_option maxRecDepth 100000
theorem impl_inverted.l0.m (x0 : List Int) (x3 : List (List Int)) (x8 : Int) (x9 : Int) : Mono (fun k => impl_inverted.l0 k x0 x3 x8 x9) := fun k => (impl_inverted.mono_l k).1 x0 x3 x8 x9
noncomputable def impl_inverted.l0.v (x0 : List Int) (x3 : List (List Int)) (x8 : Int) (x9 : Int) : Option ((List (List Int))) := lim (fun k => impl_inverted.l0 k x0 x3 x8 x9)
theorem impl_inverted.l1.m (x0 : List Int) (x3 : List (List Int)) (x4 : Int) (x5 : Int) (x8 : Int) (x9 : Int) : Mono (fun k => impl_inverted.l1 k x0 x3 x4 x5 x8 x9) := fun k => (impl_inverted.mono_l k).2 x0 x3 x4 x5 x8 x9
noncomputable def impl_inverted.l1.v (x0 : List Int) (x3 : List (List Int)) (x4 : Int) (x5 : Int) (x8 : Int) (x9 : Int) : Option ((List (List Int))) := lim (fun k => impl_inverted.l1 k x0 x3 x4 x5 x8 x9)
theorem impl_inverted.f.m (l0 : List Int) : Mono (fun k => impl_inverted.f k l0) := fun k => impl_inverted.mono l0 k
noncomputable def impl_inverted.f.v (l0 : List Int) : Option ((List (List Int))) := lim (fun k => impl_inverted.f k l0)
theorem impl_inverted.f.ends (l0 : List Int) {r : _} (h : impl_inverted.f.v l0 = some r) : ∃ k, impl_inverted.f k l0 = some r := lim_some h
theorem impl_inversions.f.m (l0 : List Int) : Mono (fun k => impl_inversions.f k l0) := fun k => impl_inversions.mono l0 k
noncomputable def impl_inversions.f.v (l0 : List Int) : Option (Int) := lim (fun k => impl_inversions.f k l0)
theorem impl_inversions.f.ends (l0 : List Int) {r : _} (h : impl_inversions.f.v l0 = some r) : ∃ k, impl_inversions.f k l0 = some r := lim_some h
theorem impl_needless.f.m (a0_0 : Int) (l0_1 : List Int) : Mono (fun k => impl_needless.f k a0_0 l0_1) := fun k => impl_needless.mono a0_0 l0_1 k
noncomputable def impl_needless.f.v (a0_0 : Int) (l0_1 : List Int) : Option (Int) := lim (fun k => impl_needless.f k a0_0 l0_1)
theorem impl_needless.f.ends (a0_0 : Int) (l0_1 : List Int) {r : _} (h : impl_needless.f.v a0_0 l0_1 = some r) : ∃ k, impl_needless.f k a0_0 l0_1 = some r := lim_some h
theorem impl_NeedlessRungs.f.m (a0_0 : Int) (l0_1 : List Int) : Mono (fun k => impl_NeedlessRungs.f k a0_0 l0_1) := fun k => impl_NeedlessRungs.mono a0_0 l0_1 k
noncomputable def impl_NeedlessRungs.f.v (a0_0 : Int) (l0_1 : List Int) : Option (Int × Bool) := lim (fun k => impl_NeedlessRungs.f k a0_0 l0_1)
theorem impl_NeedlessRungs.f.ends (a0_0 : Int) (l0_1 : List Int) {r : _} (h : impl_NeedlessRungs.f.v a0_0 l0_1 = some r) : ∃ k, impl_NeedlessRungs.f k a0_0 l0_1 = some r := lim_some h
theorem impl_inverted.l0.v_eq (x0 : List Int) (x3 : List (List Int)) (x8 : Int) (x9 : Int) : impl_inverted.l0.v x0 x3 x8 x9 = if x9 < x8 then (impl_inverted.l1.v x0 x3 x9 (wrap64 (x9 + 1)) x8 x9) else (some x3) :=
  Eq.trans (b := lim (fun k => if x9 < x8 then (impl_inverted.l1 k x0 x3 x9 (wrap64 (x9 + 1)) x8 x9) else (some x3))) (lim_eq (impl_inverted.l0.m x0 x3 x8 x9) (fun k => by with_reducible exact impl_inverted.l0.eq_2 _ _ _ _ _ )) (lim_ite_to rfl (lim_const _))
theorem impl_inverted.l1.v_eq (x0 : List Int) (x3 : List (List Int)) (x4 : Int) (x5 : Int) (x8 : Int) (x9 : Int) : impl_inverted.l1.v x0 x3 x4 x5 x8 x9 = if x5 < (x0.length : Int) then (if 0 ≤ x4 then (if x4 < (x0.length : Int) then (if 0 ≤ x5 then (if (rd x0 x4) > (rd x0 x5) then (if x3.length < 5864062014805 then (impl_inverted.l1.v x0 (x3 ++ [(([x4, x5] : List Int))]) x4 (wrap64 (x5 + 1)) x8 x9) else (none)) else (impl_inverted.l1.v x0 x3 x4 (wrap64 (x5 + 1)) x8 x9)) else (none)) else (none)) else (none)) else (impl_inverted.l0.v x0 x3 x8 (wrap64 (x9 + 1))) :=
  Eq.trans (b := lim (fun k => if x5 < (x0.length : Int) then (if 0 ≤ x4 then (if x4 < (x0.length : Int) then (if 0 ≤ x5 then (if (rd x0 x4) > (rd x0 x5) then (if x3.length < 5864062014805 then (impl_inverted.l1 k x0 (x3 ++ [(([x4, x5] : List Int))]) x4 (wrap64 (x5 + 1)) x8 x9) else (none)) else (impl_inverted.l1 k x0 x3 x4 (wrap64 (x5 + 1)) x8 x9)) else (none)) else (none)) else (none)) else (impl_inverted.l0 k x0 x3 x8 (wrap64 (x9 + 1))))) (lim_eq (impl_inverted.l1.m x0 x3 x4 x5 x8 x9) (fun k => by with_reducible exact impl_inverted.l1.eq_2 _ _ _ _ _ _ _ )) (lim_ite_to (lim_ite_to (lim_ite_to (lim_ite_to (lim_ite_to (lim_ite_to rfl (lim_const _)) rfl) (lim_const _)) (lim_const _)) (lim_const _)) rfl)
theorem impl_inverted.f.v_eq (l0 : List Int) : impl_inverted.f.v l0 = impl_inverted.l0.v l0 (([] : List (List Int))) (l0.length : Int) 0 :=
  Eq.trans (b := lim (fun k => impl_inverted.l0 k l0 (([] : List (List Int))) (l0.length : Int) 0)) (congrArg lim (funext fun k => by with_reducible exact impl_inverted.f.eq_1 _ _ )) rfl
theorem impl_inversions.f.v_eq (l0 : List Int) : impl_inversions.f.v l0 = (impl_inverted.f.v l0).bind fun t499 => (some (t499.length : Int)) :=
  Eq.trans (b := lim (fun k => (impl_inverted.f k l0).bind fun t499 => (some (t499.length : Int)))) (congrArg lim (funext fun k => by with_reducible exact impl_inversions.f.eq_1 _ _ )) (lim_bind_to (impl_inverted.f.m _ ) (fun t499 => (Mono.const _)) (fun t499 => (lim_const _)))
theorem impl_needless.f.v_eq (a0_0 : Int) (l0_1 : List Int) : impl_needless.f.v a0_0 l0_1 = (impl_result.f.v a0_0 l0_1).bind fun t503 => ((impl_inversions.f.v t503).bind fun t506 => (some (wrap64 ((l0_1.length : Int) - t506)))) :=
  Eq.trans (b := lim (fun k => (impl_result.f k a0_0 l0_1).bind fun t503 => ((impl_inversions.f k t503).bind fun t506 => (some (wrap64 ((l0_1.length : Int) - t506)))))) (congrArg lim (funext fun k => by with_reducible exact impl_needless.f.eq_1 _ _ _ )) (lim_bind_to (impl_result.f.m _ _ ) (fun t503 => (Mono.bind (impl_inversions.f.m _ ) (fun t506 => (Mono.const _)))) (fun t503 => (lim_bind_to (impl_inversions.f.m _ ) (fun t506 => (Mono.const _)) (fun t506 => (lim_const _)))))
theorem impl_NeedlessRungs.f.v_eq (a0_0 : Int) (l0_1 : List Int) : impl_NeedlessRungs.f.v a0_0 l0_1 = (impl_isLadder.f a0_0 l0_1).bind fun t508 => (if t508 = true then ((impl_needless.f.v a0_0 l0_1).bind fun t509 => (some (t509, true))) else (some (0, false))) :=
  Eq.trans (b := lim (fun k => (impl_isLadder.f a0_0 l0_1).bind fun t508 => (if t508 = true then ((impl_needless.f k a0_0 l0_1).bind fun t509 => (some (t509, true))) else (some (0, false))))) (congrArg lim (funext fun k => by with_reducible exact impl_NeedlessRungs.f.eq_1 _ _ _ )) (lim_bindc_to (fun t508 => (lim_ite_to (lim_bind_to (impl_needless.f.m _ _ ) (fun t509 => (Mono.const _)) (fun t509 => (lim_const _))) (lim_const _))))
end Go.Proofs.Ytldolihoffcomaa.PAll
