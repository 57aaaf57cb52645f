/- The values of the printed functions, without rounds, and the equations that they meet. Written by a program of this session (vgen.py). -/
import Derived.Test.YtogkfcjebabloaaPAllx7
import Derived.Test.YtogkfcjebabloaaVAllx1
import Derived.Test.YtogkfcjebabloaaVAllx2
import Derived.Test.YtogkfcjebabloaaLim
namespace Go.Proofs.Ytogkfcjebabloaa.PAll
open Go.RowKit Go.Proofs.YtogkfcjebabloaaW.PrintWords Go.Proofs.YtogkfcjebabloaaW.PrintLast Go.Proofs.YtogkfcjebabloaaW.PrintMore Go.Proofs.YtogkfcjebabloaaL
set_option linter.unusedVariables false
set_option maxRecDepth 100000
theorem spec_DescentsOf.l0.m (x0 : List Int) (x4 : List Int) (x5 : Int) : Mono (fun k => spec_DescentsOf.l0 k x0 x4 x5) := fun k => (spec_DescentsOf.mono_l k) x0 x4 x5
noncomputable def spec_DescentsOf.l0.v (x0 : List Int) (x4 : List Int) (x5 : Int) : Option (List Int × Bool) := lim (fun k => spec_DescentsOf.l0 k x0 x4 x5)
theorem spec_DescentsOf.f.m (l0 : List Int) : Mono (fun k => spec_DescentsOf.f k l0) := fun k => spec_DescentsOf.mono l0 k
noncomputable def spec_DescentsOf.f.v (l0 : List Int) : Option (List Int × Bool) := lim (fun k => spec_DescentsOf.f k l0)
theorem spec_DescentsOf.f.ends (l0 : List Int) {r : _} (h : spec_DescentsOf.f.v l0 = some r) : ∃ k, spec_DescentsOf.f k l0 = some r := lim_some h
theorem impl_descents.l0.m (x0 : List Int) (x3 : List Int) (x4 : Int) : Mono (fun k => impl_descents.l0 k x0 x3 x4) := fun k => (impl_descents.mono_l k) x0 x3 x4
noncomputable def impl_descents.l0.v (x0 : List Int) (x3 : List Int) (x4 : Int) : Option (List Int) := lim (fun k => impl_descents.l0 k x0 x3 x4)
theorem impl_descents.f.m (l0 : List Int) : Mono (fun k => impl_descents.f k l0) := fun k => impl_descents.mono l0 k
noncomputable def impl_descents.f.v (l0 : List Int) : Option (List Int) := lim (fun k => impl_descents.f k l0)
theorem impl_descents.f.ends (l0 : List Int) {r : _} (h : impl_descents.f.v l0 = some r) : ∃ k, impl_descents.f k l0 = some r := lim_some h
theorem impl_DescentsOf.f.m (l0 : List Int) : Mono (fun k => impl_DescentsOf.f k l0) := fun k => impl_DescentsOf.mono l0 k
noncomputable def impl_DescentsOf.f.v (l0 : List Int) : Option (List Int × Bool) := lim (fun k => impl_DescentsOf.f k l0)
theorem impl_DescentsOf.f.ends (l0 : List Int) {r : _} (h : impl_DescentsOf.f.v l0 = some r) : ∃ k, impl_DescentsOf.f k l0 = some r := lim_some h
theorem spec_DescentsOf.l0.v_eq (x0 : List Int) (x4 : List Int) (x5 : Int) : spec_DescentsOf.l0.v x0 x4 x5 = if (wrap64 (x5 + 1)) < (x0.length : Int) then (if 0 ≤ x5 then (if x5 < (x0.length : Int) then (if 0 ≤ (wrap64 (x5 + 1)) then (if (rd x0 x5) > (rd x0 (wrap64 (x5 + 1))) then (if x4.length < 17592186044416 then (spec_DescentsOf.l0.v x0 (x4 ++ [x5]) (wrap64 (x5 + 1))) else (none)) else (spec_DescentsOf.l0.v x0 x4 (wrap64 (x5 + 1)))) else (none)) else (none)) else (none)) else (some (x4, true)) :=
  Eq.trans (b := lim (fun k => if (wrap64 (x5 + 1)) < (x0.length : Int) then (if 0 ≤ x5 then (if x5 < (x0.length : Int) then (if 0 ≤ (wrap64 (x5 + 1)) then (if (rd x0 x5) > (rd x0 (wrap64 (x5 + 1))) then (if x4.length < 17592186044416 then (spec_DescentsOf.l0 k x0 (x4 ++ [x5]) (wrap64 (x5 + 1))) else (none)) else (spec_DescentsOf.l0 k x0 x4 (wrap64 (x5 + 1)))) else (none)) else (none)) else (none)) else (some (x4, true)))) (lim_eq (spec_DescentsOf.l0.m x0 x4 x5) (fun k => by with_reducible exact spec_DescentsOf.l0.eq_2 _ _ _ _ )) (lim_ite_to (lim_ite_to (lim_ite_to (lim_ite_to (lim_ite_to (lim_ite_to rfl (lim_const _)) rfl) (lim_const _)) (lim_const _)) (lim_const _)) (lim_const _))
theorem spec_DescentsOf.f.v_eq (l0 : List Int) : spec_DescentsOf.f.v l0 = (spec_laOrder.f.v l0).bind fun t257 => (if t257 = true then (spec_DescentsOf.l0.v l0 ([] : List Int) 0) else (some (([] : List Int), false))) :=
  Eq.trans (b := lim (fun k => (spec_laOrder.f k l0).bind fun t257 => (if t257 = true then (spec_DescentsOf.l0 k l0 ([] : List Int) 0) else (some (([] : List Int), false))))) (congrArg lim (funext fun k => by with_reducible exact spec_DescentsOf.f.eq_1 _ _ )) (lim_bind_to (spec_laOrder.f.m _ ) (fun t257 => (Mono.ite (spec_DescentsOf.l0.m _ _ _ ) (Mono.const _))) (fun t257 => (lim_ite_to rfl (lim_const _))))
theorem impl_descents.l0.v_eq (x0 : List Int) (x3 : List Int) (x4 : Int) : impl_descents.l0.v x0 x3 x4 = if (wrap64 (x4 + 1)) < (x0.length : Int) then (if 0 ≤ x4 then (if x4 < (x0.length : Int) then (if 0 ≤ (wrap64 (x4 + 1)) then (if (rd x0 x4) > (rd x0 (wrap64 (x4 + 1))) then (if x3.length < 17592186044416 then (impl_descents.l0.v x0 (x3 ++ [x4]) (wrap64 (x4 + 1))) else (none)) else (impl_descents.l0.v x0 x3 (wrap64 (x4 + 1)))) else (none)) else (none)) else (none)) else (some x3) :=
  Eq.trans (b := lim (fun k => if (wrap64 (x4 + 1)) < (x0.length : Int) then (if 0 ≤ x4 then (if x4 < (x0.length : Int) then (if 0 ≤ (wrap64 (x4 + 1)) then (if (rd x0 x4) > (rd x0 (wrap64 (x4 + 1))) then (if x3.length < 17592186044416 then (impl_descents.l0 k x0 (x3 ++ [x4]) (wrap64 (x4 + 1))) else (none)) else (impl_descents.l0 k x0 x3 (wrap64 (x4 + 1)))) else (none)) else (none)) else (none)) else (some x3))) (lim_eq (impl_descents.l0.m x0 x3 x4) (fun k => by with_reducible exact impl_descents.l0.eq_2 _ _ _ _ )) (lim_ite_to (lim_ite_to (lim_ite_to (lim_ite_to (lim_ite_to (lim_ite_to rfl (lim_const _)) rfl) (lim_const _)) (lim_const _)) (lim_const _)) (lim_const _))
theorem impl_descents.f.v_eq (l0 : List Int) : impl_descents.f.v l0 = impl_descents.l0.v l0 (([] : List Int)) 0 :=
  Eq.trans (b := lim (fun k => impl_descents.l0 k l0 (([] : List Int)) 0)) (congrArg lim (funext fun k => by with_reducible exact impl_descents.f.eq_1 _ _ )) rfl
theorem impl_DescentsOf.f.v_eq (l0 : List Int) : impl_DescentsOf.f.v l0 = (impl_isOrder.f.v l0).bind fun t271 => (if t271 = true then ((impl_descents.f.v l0).bind fun t272 => (some (t272, true))) else (some (([] : List Int), false))) :=
  Eq.trans (b := lim (fun k => (impl_isOrder.f k l0).bind fun t271 => (if t271 = true then ((impl_descents.f k l0).bind fun t272 => (some (t272, true))) else (some (([] : List Int), false))))) (congrArg lim (funext fun k => by with_reducible exact impl_DescentsOf.f.eq_1 _ _ )) (lim_bind_to (impl_isOrder.f.m _ ) (fun t271 => (Mono.ite (Mono.bind (impl_descents.f.m _ ) (fun t272 => (Mono.const _))) (Mono.const _))) (fun t271 => (lim_ite_to (lim_bind_to (impl_descents.f.m _ ) (fun t272 => (Mono.const _)) (fun t272 => (lim_const _))) (lim_const _))))
end Go.Proofs.Ytogkfcjebabloaa.PAll
