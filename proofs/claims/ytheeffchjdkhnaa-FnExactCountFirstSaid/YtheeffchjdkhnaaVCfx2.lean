/- The values of the printed functions, without rounds, and the equations that they meet. Written by a program of this session (vgen.py). -/
import Derived.Test.YtheeffchjdkhnaaPCfx2
import Derived.Test.YtheeffchjdkhnaaVCfx1
import Derived.Test.YtheeffchjdkhnaaLim
namespace Go.Proofs.Ytheeffchjdkhnaa.PCf
open Go.RowKit Go.Proofs.YtheeffchjdkhnaaW.PrintWords Go.Proofs.YtheeffchjdkhnaaW.PrintLast Go.Proofs.YtheeffchjdkhnaaW.PrintMore Go.Proofs.YtheeffchjdkhnaaL
set_option linter.unusedVariables false
set_option maxRecDepth 100000
theorem spec_laOrder.l0.m (x0 : List Int) (x9 : List Int) (x10 : Int) (x11 : Int) : Mono (fun k => spec_laOrder.l0 k x0 x9 x10 x11) := fun k => (spec_laOrder.mono_l k) x0 x9 x10 x11
noncomputable def spec_laOrder.l0.v (x0 : List Int) (x9 : List Int) (x10 : Int) (x11 : Int) : Option (Bool) := lim (fun k => spec_laOrder.l0 k x0 x9 x10 x11)
theorem spec_laOrder.f.m (l0 : List Int) : Mono (fun k => spec_laOrder.f k l0) := fun k => spec_laOrder.mono l0 k
noncomputable def spec_laOrder.f.v (l0 : List Int) : Option (Bool) := lim (fun k => spec_laOrder.f k l0)
theorem spec_laOrder.f.ends (l0 : List Int) {r : _} (h : spec_laOrder.f.v l0 = some r) : ∃ k, spec_laOrder.f k l0 = some r := lim_some h
theorem spec_alGood.f.m (l0 : List Int) : Mono (fun k => spec_alGood.f k l0) := fun k => spec_alGood.mono l0 k
noncomputable def spec_alGood.f.v (l0 : List Int) : Option (Bool) := lim (fun k => spec_alGood.f k l0)
theorem spec_alGood.f.ends (l0 : List Int) {r : _} (h : spec_alGood.f.v l0 = some r) : ∃ k, spec_alGood.f k l0 = some r := lim_some h
theorem spec_laOrder.l0.v_eq (x0 : List Int) (x9 : List Int) (x10 : Int) (x11 : Int) : spec_laOrder.l0.v x0 x9 x10 x11 = if x11 < x10 then (if 0 ≤ x11 then (if x11 < (x9.length : Int) then ((spec_l1In.f (rd x9 x11) 0 (wrap64 ((x0.length : Int) - 1))).bind fun t111 => (if t111 = true then (if x11 ≤ (x0.length : Int) then ((spec_l1Has.f.v (x0.take (x11 : Int).toNat) (rd x9 x11)).bind fun t116 => (if t116 = true then (some false) else (spec_laOrder.l0.v x0 x9 x10 (wrap64 (x11 + 1))))) else (none)) else (some false))) else (none)) else (none)) else (some true) :=
  Eq.trans (b := lim (fun k => if x11 < x10 then (if 0 ≤ x11 then (if x11 < (x9.length : Int) then ((spec_l1In.f (rd x9 x11) 0 (wrap64 ((x0.length : Int) - 1))).bind fun t111 => (if t111 = true then (if x11 ≤ (x0.length : Int) then ((spec_l1Has.f k (x0.take (x11 : Int).toNat) (rd x9 x11)).bind fun t116 => (if t116 = true then (some false) else (spec_laOrder.l0 k x0 x9 x10 (wrap64 (x11 + 1))))) else (none)) else (some false))) else (none)) else (none)) else (some true))) (lim_eq (spec_laOrder.l0.m x0 x9 x10 x11) (fun k => by with_reducible exact spec_laOrder.l0.eq_2 _ _ _ _ _ )) (lim_ite_to (lim_ite_to (lim_ite_to (lim_bindc_to (fun t111 => (lim_ite_to (lim_ite_to (lim_bind_to (spec_l1Has.f.m _ _ ) (fun t116 => (Mono.ite (Mono.const _) (spec_laOrder.l0.m _ _ _ _ ))) (fun t116 => (lim_ite_to (lim_const _) rfl))) (lim_const _)) (lim_const _)))) (lim_const _)) (lim_const _)) (lim_const _))
theorem spec_laOrder.f.v_eq (l0 : List Int) : spec_laOrder.f.v l0 = (spec_l1In.f (l0.length : Int) 1 8).bind fun t109 => (if t109 = true then (spec_laOrder.l0.v l0 l0 (l0.length : Int) 0) else (some false)) :=
  Eq.trans (b := lim (fun k => (spec_l1In.f (l0.length : Int) 1 8).bind fun t109 => (if t109 = true then (spec_laOrder.l0 k l0 l0 (l0.length : Int) 0) else (some false)))) (congrArg lim (funext fun k => by with_reducible exact spec_laOrder.f.eq_1 _ _ )) (lim_bindc_to (fun t109 => (lim_ite_to rfl (lim_const _))))
theorem spec_alGood.f.v_eq (l0 : List Int) : spec_alGood.f.v l0 = (spec_laOrder.f.v l0).bind fun t119 => (if t119 = true then ((spec_l1In.f (l0.length : Int) 2 6).bind fun t120 => (some t120)) else (some false)) :=
  Eq.trans (b := lim (fun k => (spec_laOrder.f k l0).bind fun t119 => (if t119 = true then ((spec_l1In.f (l0.length : Int) 2 6).bind fun t120 => (some t120)) else (some false)))) (congrArg lim (funext fun k => by with_reducible exact spec_alGood.f.eq_1 _ _ )) (lim_bind_to (spec_laOrder.f.m _ ) (fun t119 => (Mono.const _)) (fun t119 => (lim_const _)))
end Go.Proofs.Ytheeffchjdkhnaa.PCf
