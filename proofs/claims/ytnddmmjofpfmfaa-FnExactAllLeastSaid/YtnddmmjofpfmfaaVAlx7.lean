/- The values of the printed functions, without rounds, and the equations that they meet. Written by a program of this session (vgen.py). -/
import Derived.Test.YtnddmmjofpfmfaaPAlx7
import Derived.Test.YtnddmmjofpfmfaaVAlx1
import Derived.Test.YtnddmmjofpfmfaaVAlx6
import Derived.Test.YtnddmmjofpfmfaaLim
namespace Go.Proofs.Ytnddmmjofpfmfaa.PAl
open Go.RowKit Go.Proofs.YtnddmmjofpfmfaaW.PrintWords Go.Proofs.YtnddmmjofpfmfaaW.PrintLast Go.Proofs.YtnddmmjofpfmfaaW.PrintMore Go.Proofs.YtnddmmjofpfmfaaL
set_option linter.unusedVariables false
set_option maxRecDepth 100000
theorem impl_isOrder.l0.m (x0 : List Int) (x9 : List Int) (x10 : Int) (x11 : Int) : Mono (fun k => impl_isOrder.l0 k x0 x9 x10 x11) := fun k => (impl_isOrder.mono_l k) x0 x9 x10 x11
noncomputable def impl_isOrder.l0.v (x0 : List Int) (x9 : List Int) (x10 : Int) (x11 : Int) : Option (Bool) := lim (fun k => impl_isOrder.l0 k x0 x9 x10 x11)
theorem impl_isOrder.f.m (l0 : List Int) : Mono (fun k => impl_isOrder.f k l0) := fun k => impl_isOrder.mono l0 k
noncomputable def impl_isOrder.f.v (l0 : List Int) : Option (Bool) := lim (fun k => impl_isOrder.f k l0)
theorem impl_isOrder.f.ends (l0 : List Int) {r : _} (h : impl_isOrder.f.v l0 = some r) : ∃ k, impl_isOrder.f k l0 = some r := lim_some h
theorem impl_isCounted.f.m (l0 : List Int) : Mono (fun k => impl_isCounted.f k l0) := fun k => impl_isCounted.mono l0 k
noncomputable def impl_isCounted.f.v (l0 : List Int) : Option (Bool) := lim (fun k => impl_isCounted.f k l0)
theorem impl_isCounted.f.ends (l0 : List Int) {r : _} (h : impl_isCounted.f.v l0 = some r) : ∃ k, impl_isCounted.f k l0 = some r := lim_some h
theorem laws_eqLadder.f.m (a0_0 : Int) (l0_1 : List Int) (a1_0 : Int) (l1_1 : List Int) : Mono (fun k => laws_eqLadder.f k a0_0 l0_1 a1_0 l1_1) := fun k => laws_eqLadder.mono a0_0 l0_1 a1_0 l1_1 k
noncomputable def laws_eqLadder.f.v (a0_0 : Int) (l0_1 : List Int) (a1_0 : Int) (l1_1 : List Int) : Option (Bool) := lim (fun k => laws_eqLadder.f k a0_0 l0_1 a1_0 l1_1)
theorem laws_eqLadder.f.ends (a0_0 : Int) (l0_1 : List Int) (a1_0 : Int) (l1_1 : List Int) {r : _} (h : laws_eqLadder.f.v a0_0 l0_1 a1_0 l1_1 = some r) : ∃ k, laws_eqLadder.f k a0_0 l0_1 a1_0 l1_1 = some r := lim_some h
theorem impl_isOrder.l0.v_eq (x0 : List Int) (x9 : List Int) (x10 : Int) (x11 : Int) : impl_isOrder.l0.v x0 x9 x10 x11 = if x11 < x10 then (if 0 ≤ x11 then (if x11 < (x9.length : Int) then ((impl_between.f (rd x9 x11) 0 (wrap64 ((x0.length : Int) - 1))).bind fun t199 => (if t199 = true then (if x11 ≤ (x0.length : Int) then ((slices_Contains_int_int.f.v (x0.take (x11 : Int).toNat) (rd x9 x11)).bind fun t204 => (if t204 = true then (some false) else (impl_isOrder.l0.v x0 x9 x10 (wrap64 (x11 + 1))))) else (none)) else (some false))) else (none)) else (none)) else (some true) :=
  Eq.trans (b := lim (fun k => if x11 < x10 then (if 0 ≤ x11 then (if x11 < (x9.length : Int) then ((impl_between.f (rd x9 x11) 0 (wrap64 ((x0.length : Int) - 1))).bind fun t199 => (if t199 = true then (if x11 ≤ (x0.length : Int) then ((slices_Contains_int_int.f k (x0.take (x11 : Int).toNat) (rd x9 x11)).bind fun t204 => (if t204 = true then (some false) else (impl_isOrder.l0 k x0 x9 x10 (wrap64 (x11 + 1))))) else (none)) else (some false))) else (none)) else (none)) else (some true))) (lim_eq (impl_isOrder.l0.m x0 x9 x10 x11) (fun k => by with_reducible exact impl_isOrder.l0.eq_2 _ _ _ _ _ )) (lim_ite_to (lim_ite_to (lim_ite_to (lim_bindc_to (fun t199 => (lim_ite_to (lim_ite_to (lim_bind_to (slices_Contains_int_int.f.m _ _ ) (fun t204 => (Mono.ite (Mono.const _) (impl_isOrder.l0.m _ _ _ _ ))) (fun t204 => (lim_ite_to (lim_const _) rfl))) (lim_const _)) (lim_const _)))) (lim_const _)) (lim_const _)) (lim_const _))
theorem impl_isOrder.f.v_eq (l0 : List Int) : impl_isOrder.f.v l0 = (impl_between.f (l0.length : Int) 1 8).bind fun t197 => (if t197 = true then (impl_isOrder.l0.v l0 l0 (l0.length : Int) 0) else (some false)) :=
  Eq.trans (b := lim (fun k => (impl_between.f (l0.length : Int) 1 8).bind fun t197 => (if t197 = true then (impl_isOrder.l0 k l0 l0 (l0.length : Int) 0) else (some false)))) (congrArg lim (funext fun k => by with_reducible exact impl_isOrder.f.eq_1 _ _ )) (lim_bindc_to (fun t197 => (lim_ite_to rfl (lim_const _))))
theorem impl_isCounted.f.v_eq (l0 : List Int) : impl_isCounted.f.v l0 = (impl_isOrder.f.v l0).bind fun t207 => (if t207 = true then ((impl_between.f (l0.length : Int) 2 6).bind fun t208 => (some t208)) else (some false)) :=
  Eq.trans (b := lim (fun k => (impl_isOrder.f k l0).bind fun t207 => (if t207 = true then ((impl_between.f (l0.length : Int) 2 6).bind fun t208 => (some t208)) else (some false)))) (congrArg lim (funext fun k => by with_reducible exact impl_isCounted.f.eq_1 _ _ )) (lim_bind_to (impl_isOrder.f.m _ ) (fun t207 => (Mono.const _)) (fun t207 => (lim_const _)))
theorem laws_eqLadder.f.v_eq (a0_0 : Int) (l0_1 : List Int) (a1_0 : Int) (l1_1 : List Int) : laws_eqLadder.f.v a0_0 l0_1 a1_0 l1_1 = if a0_0 = a1_0 then ((laws_eqIntS.f.v l0_1 l1_1).bind fun t215 => (if t215 = true then (some true) else (some false))) else (some false) :=
  Eq.trans (b := lim (fun k => if a0_0 = a1_0 then ((laws_eqIntS.f k l0_1 l1_1).bind fun t215 => (if t215 = true then (some true) else (some false))) else (some false))) (congrArg lim (funext fun k => by with_reducible exact laws_eqLadder.f.eq_1 _ _ _ _ _ )) (lim_ite_to (lim_bind_to (laws_eqIntS.f.m _ _ ) (fun t215 => (Mono.const _)) (fun t215 => (lim_const _))) (lim_const _))
end Go.Proofs.Ytnddmmjofpfmfaa.PAl
