/- The values of the printed functions, without rounds, and the equations that they meet. Written by a program of this session (vgen.py). -/
import Derived.Test.YtmpdkpggahkogaaPAllx5
import Derived.Test.YtmpdkpggahkogaaVAllx2
import Derived.Test.YtmpdkpggahkogaaLim
namespace Go.Proofs.Ytmpdkpggahkogaa.PAll
open Go.RowKit Go.Proofs.YtmpdkpggahkogaaW.PrintWords Go.Proofs.YtmpdkpggahkogaaW.PrintLast Go.Proofs.YtmpdkpggahkogaaW.PrintMore Go.Proofs.YtmpdkpggahkogaaL
set_option linter.unusedVariables false
set_option maxRecDepth 100000
theorem laws_kSame.l0.m (x0 : List Int) (x1 : List Int) (x12 : Int) (x13 : Int) : Mono (fun k => laws_kSame.l0 k x0 x1 x12 x13) := fun k => (laws_kSame.mono_l k) x0 x1 x12 x13
noncomputable def laws_kSame.l0.v (x0 : List Int) (x1 : List Int) (x12 : Int) (x13 : Int) : Option (Bool) := lim (fun k => laws_kSame.l0 k x0 x1 x12 x13)
theorem laws_kSame.f.m (l0 : List Int) (l1 : List Int) : Mono (fun k => laws_kSame.f k l0 l1) := fun k => laws_kSame.mono l0 l1 k
noncomputable def laws_kSame.f.v (l0 : List Int) (l1 : List Int) : Option (Bool) := lim (fun k => laws_kSame.f k l0 l1)
theorem laws_kSame.f.ends (l0 : List Int) (l1 : List Int) {r : _} (h : laws_kSame.f.v l0 l1 = some r) : ∃ k, laws_kSame.f k l0 l1 = some r := lim_some h
theorem impl_IsOrder.f.m (l0 : List Int) : Mono (fun k => impl_IsOrder.f k l0) := fun k => impl_IsOrder.mono l0 k
noncomputable def impl_IsOrder.f.v (l0 : List Int) : Option (Bool) := lim (fun k => impl_IsOrder.f k l0)
theorem impl_IsOrder.f.ends (l0 : List Int) {r : _} (h : impl_IsOrder.f.v l0 = some r) : ∃ k, impl_IsOrder.f k l0 = some r := lim_some h
theorem impl_identity.l0.m (x3 : List Int) (x6 : Int) (x7 : Int) : Mono (fun k => impl_identity.l0 k x3 x6 x7) := fun k => (impl_identity.mono_l k) x3 x6 x7
noncomputable def impl_identity.l0.v (x3 : List Int) (x6 : Int) (x7 : Int) : Option (List Int) := lim (fun k => impl_identity.l0 k x3 x6 x7)
theorem impl_identity.f.m (a0 : Int) : Mono (fun k => impl_identity.f k a0) := fun k => impl_identity.mono a0 k
noncomputable def impl_identity.f.v (a0 : Int) : Option (List Int) := lim (fun k => impl_identity.f k a0)
theorem impl_identity.f.ends (a0 : Int) {r : _} (h : impl_identity.f.v a0 = some r) : ∃ k, impl_identity.f k a0 = some r := lim_some h
theorem laws_kSame.l0.v_eq (x0 : List Int) (x1 : List Int) (x12 : Int) (x13 : Int) : laws_kSame.l0.v x0 x1 x12 x13 = if x13 < x12 then (if 0 ≤ x13 then (if x13 < (x0.length : Int) then (if x13 < (x1.length : Int) then (if (rd x0 x13) = (rd x1 x13) then (laws_kSame.l0.v x0 x1 x12 (wrap64 (x13 + 1))) else (some false)) else (none)) else (none)) else (none)) else (some true) :=
  Eq.trans (b := lim (fun k => if x13 < x12 then (if 0 ≤ x13 then (if x13 < (x0.length : Int) then (if x13 < (x1.length : Int) then (if (rd x0 x13) = (rd x1 x13) then (laws_kSame.l0 k x0 x1 x12 (wrap64 (x13 + 1))) else (some false)) else (none)) else (none)) else (none)) else (some true))) (lim_eq (laws_kSame.l0.m x0 x1 x12 x13) (fun k => by with_reducible exact laws_kSame.l0.eq_2 _ _ _ _ _ )) (lim_ite_to (lim_ite_to (lim_ite_to (lim_ite_to (lim_ite_to rfl (lim_const _)) (lim_const _)) (lim_const _)) (lim_const _)) (lim_const _))
theorem laws_kSame.f.v_eq (l0 : List Int) (l1 : List Int) : laws_kSame.f.v l0 l1 = if (l0.length : Int) = (l1.length : Int) then (laws_kSame.l0.v l0 l1 (l0.length : Int) 0) else (some false) :=
  Eq.trans (b := lim (fun k => if (l0.length : Int) = (l1.length : Int) then (laws_kSame.l0 k l0 l1 (l0.length : Int) 0) else (some false))) (congrArg lim (funext fun k => by with_reducible exact laws_kSame.f.eq_1 _ _ _ )) (lim_ite_to rfl (lim_const _))
theorem impl_IsOrder.f.v_eq (l0 : List Int) : impl_IsOrder.f.v l0 = (impl_isOrder.f.v l0).bind fun t233 => (some t233) :=
  Eq.trans (b := lim (fun k => (impl_isOrder.f k l0).bind fun t233 => (some t233))) (congrArg lim (funext fun k => by with_reducible exact impl_IsOrder.f.eq_1 _ _ )) (lim_bind_to (impl_isOrder.f.m _ ) (fun t233 => (Mono.const _)) (fun t233 => (lim_const _)))
theorem impl_identity.l0.v_eq (x3 : List Int) (x6 : Int) (x7 : Int) : impl_identity.l0.v x3 x6 x7 = if x7 < x6 then (if x3.length < 17592186044416 then (impl_identity.l0.v (x3 ++ [x7]) x6 (wrap64 (x7 + 1))) else (none)) else (some x3) :=
  Eq.trans (b := lim (fun k => if x7 < x6 then (if x3.length < 17592186044416 then (impl_identity.l0 k (x3 ++ [x7]) x6 (wrap64 (x7 + 1))) else (none)) else (some x3))) (lim_eq (impl_identity.l0.m x3 x6 x7) (fun k => by with_reducible exact impl_identity.l0.eq_2 _ _ _ _ )) (lim_ite_to (lim_ite_to rfl (lim_const _)) (lim_const _))
theorem impl_identity.f.v_eq (a0 : Int) : impl_identity.f.v a0 = impl_identity.l0.v (([] : List Int)) a0 0 :=
  Eq.trans (b := lim (fun k => impl_identity.l0 k (([] : List Int)) a0 0)) (congrArg lim (funext fun k => by with_reducible exact impl_identity.f.eq_1 _ _ )) rfl
end Go.Proofs.Ytmpdkpggahkogaa.PAll
