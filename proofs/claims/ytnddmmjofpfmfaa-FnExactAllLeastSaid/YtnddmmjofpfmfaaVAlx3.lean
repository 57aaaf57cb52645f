/- The values of the printed functions, without rounds, and the equations that they meet. Written by a program of this session (vgen.py). -/
import Derived.Test.YtnddmmjofpfmfaaPAlx3
import Derived.Test.YtnddmmjofpfmfaaLim
namespace Go.Proofs.Ytnddmmjofpfmfaa.PAl
open Go.RowKit Go.Proofs.YtnddmmjofpfmfaaW.PrintWords Go.Proofs.YtnddmmjofpfmfaaW.PrintLast Go.Proofs.YtnddmmjofpfmfaaW.PrintMore Go.Proofs.YtnddmmjofpfmfaaL
set_option linter.unusedVariables false
set_option maxRecDepth 100000
theorem spec_l1Has.l0.m (x1 : Int) (x7 : List Int) (x8 : Int) (x9 : Int) : Mono (fun k => spec_l1Has.l0 k x1 x7 x8 x9) := fun k => (spec_l1Has.mono_l k) x1 x7 x8 x9
noncomputable def spec_l1Has.l0.v (x1 : Int) (x7 : List Int) (x8 : Int) (x9 : Int) : Option (Bool) := lim (fun k => spec_l1Has.l0 k x1 x7 x8 x9)
theorem spec_l1Has.f.m (l0 : List Int) (a1 : Int) : Mono (fun k => spec_l1Has.f k l0 a1) := fun k => spec_l1Has.mono l0 a1 k
noncomputable def spec_l1Has.f.v (l0 : List Int) (a1 : Int) : Option (Bool) := lim (fun k => spec_l1Has.f k l0 a1)
theorem spec_l1Has.f.ends (l0 : List Int) (a1 : Int) {r : _} (h : spec_l1Has.f.v l0 a1 = some r) : ∃ k, spec_l1Has.f k l0 a1 = some r := lim_some h
theorem spec_laOrder.l0.m (x0 : List Int) (x9 : List Int) (x10 : Int) (x11 : Int) : Mono (fun k => spec_laOrder.l0 k x0 x9 x10 x11) := fun k => (spec_laOrder.mono_l k) x0 x9 x10 x11
noncomputable def spec_laOrder.l0.v (x0 : List Int) (x9 : List Int) (x10 : Int) (x11 : Int) : Option (Bool) := lim (fun k => spec_laOrder.l0 k x0 x9 x10 x11)
theorem spec_laOrder.f.m (l0 : List Int) : Mono (fun k => spec_laOrder.f k l0) := fun k => spec_laOrder.mono l0 k
noncomputable def spec_laOrder.f.v (l0 : List Int) : Option (Bool) := lim (fun k => spec_laOrder.f k l0)
theorem spec_laOrder.f.ends (l0 : List Int) {r : _} (h : spec_laOrder.f.v l0 = some r) : ∃ k, spec_laOrder.f k l0 = some r := lim_some h
theorem spec_alGood.f.m (l0 : List Int) : Mono (fun k => spec_alGood.f k l0) := fun k => spec_alGood.mono l0 k
noncomputable def spec_alGood.f.v (l0 : List Int) : Option (Bool) := lim (fun k => spec_alGood.f k l0)
theorem spec_alGood.f.ends (l0 : List Int) {r : _} (h : spec_alGood.f.v l0 = some r) : ∃ k, spec_alGood.f k l0 = some r := lim_some h
theorem spec_l1Has.l0.v_eq (x1 : Int) (x7 : List Int) (x8 : Int) (x9 : Int) : spec_l1Has.l0.v x1 x7 x8 x9 = if x9 < x8 then (if 0 ≤ x9 then (if x9 < (x7.length : Int) then (if (rd x7 x9) = x1 then (some true) else (spec_l1Has.l0.v x1 x7 x8 (wrap64 (x9 + 1)))) else (none)) else (none)) else (some false) :=
  Eq.trans (b := lim (fun k => if x9 < x8 then (if 0 ≤ x9 then (if x9 < (x7.length : Int) then (if (rd x7 x9) = x1 then (some true) else (spec_l1Has.l0 k x1 x7 x8 (wrap64 (x9 + 1)))) else (none)) else (none)) else (some false))) (lim_eq (spec_l1Has.l0.m x1 x7 x8 x9) (fun k => by with_reducible exact spec_l1Has.l0.eq_2 _ _ _ _ _ )) (lim_ite_to (lim_ite_to (lim_ite_to (lim_ite_to (lim_const _) rfl) (lim_const _)) (lim_const _)) (lim_const _))
theorem spec_l1Has.f.v_eq (l0 : List Int) (a1 : Int) : spec_l1Has.f.v l0 a1 = spec_l1Has.l0.v a1 l0 (l0.length : Int) 0 :=
  Eq.trans (b := lim (fun k => spec_l1Has.l0 k a1 l0 (l0.length : Int) 0)) (congrArg lim (funext fun k => by with_reducible exact spec_l1Has.f.eq_1 _ _ _ )) rfl
theorem spec_laOrder.l0.v_eq (x0 : List Int) (x9 : List Int) (x10 : Int) (x11 : Int) : spec_laOrder.l0.v x0 x9 x10 x11 = if x11 < x10 then (if 0 ≤ x11 then (if x11 < (x9.length : Int) then ((spec_l1In.f (rd x9 x11) 0 (wrap64 ((x0.length : Int) - 1))).bind fun t131 => (if t131 = true then (if x11 ≤ (x0.length : Int) then ((spec_l1Has.f.v (x0.take (x11 : Int).toNat) (rd x9 x11)).bind fun t136 => (if t136 = true then (some false) else (spec_laOrder.l0.v x0 x9 x10 (wrap64 (x11 + 1))))) else (none)) else (some false))) else (none)) else (none)) else (some true) :=
  Eq.trans (b := lim (fun k => if x11 < x10 then (if 0 ≤ x11 then (if x11 < (x9.length : Int) then ((spec_l1In.f (rd x9 x11) 0 (wrap64 ((x0.length : Int) - 1))).bind fun t131 => (if t131 = true then (if x11 ≤ (x0.length : Int) then ((spec_l1Has.f k (x0.take (x11 : Int).toNat) (rd x9 x11)).bind fun t136 => (if t136 = true then (some false) else (spec_laOrder.l0 k x0 x9 x10 (wrap64 (x11 + 1))))) else (none)) else (some false))) else (none)) else (none)) else (some true))) (lim_eq (spec_laOrder.l0.m x0 x9 x10 x11) (fun k => by with_reducible exact spec_laOrder.l0.eq_2 _ _ _ _ _ )) (lim_ite_to (lim_ite_to (lim_ite_to (lim_bindc_to (fun t131 => (lim_ite_to (lim_ite_to (lim_bind_to (spec_l1Has.f.m _ _ ) (fun t136 => (Mono.ite (Mono.const _) (spec_laOrder.l0.m _ _ _ _ ))) (fun t136 => (lim_ite_to (lim_const _) rfl))) (lim_const _)) (lim_const _)))) (lim_const _)) (lim_const _)) (lim_const _))
theorem spec_laOrder.f.v_eq (l0 : List Int) : spec_laOrder.f.v l0 = (spec_l1In.f (l0.length : Int) 1 8).bind fun t129 => (if t129 = true then (spec_laOrder.l0.v l0 l0 (l0.length : Int) 0) else (some false)) :=
  Eq.trans (b := lim (fun k => (spec_l1In.f (l0.length : Int) 1 8).bind fun t129 => (if t129 = true then (spec_laOrder.l0 k l0 l0 (l0.length : Int) 0) else (some false)))) (congrArg lim (funext fun k => by with_reducible exact spec_laOrder.f.eq_1 _ _ )) (lim_bindc_to (fun t129 => (lim_ite_to rfl (lim_const _))))
theorem spec_alGood.f.v_eq (l0 : List Int) : spec_alGood.f.v l0 = (spec_laOrder.f.v l0).bind fun t139 => (if t139 = true then ((spec_l1In.f (l0.length : Int) 2 6).bind fun t140 => (some t140)) else (some false)) :=
  Eq.trans (b := lim (fun k => (spec_laOrder.f k l0).bind fun t139 => (if t139 = true then ((spec_l1In.f (l0.length : Int) 2 6).bind fun t140 => (some t140)) else (some false)))) (congrArg lim (funext fun k => by with_reducible exact spec_alGood.f.eq_1 _ _ )) (lim_bind_to (spec_laOrder.f.m _ ) (fun t139 => (Mono.const _)) (fun t139 => (lim_const _)))
end Go.Proofs.Ytnddmmjofpfmfaa.PAl
