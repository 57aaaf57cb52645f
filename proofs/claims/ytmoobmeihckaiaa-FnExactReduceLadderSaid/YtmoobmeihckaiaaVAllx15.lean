/- The values of the printed functions, without rounds, and the equations that they meet. Written by a program of this session (vgen.py). -/
import Derived.Test.YtmoobmeihckaiaaPAllx15
import Derived.Test.YtmoobmeihckaiaaVAllx1
import Derived.Test.YtmoobmeihckaiaaVAllx7
import Derived.Test.YtmoobmeihckaiaaLim
namespace Go.Proofs.Ytmoobmeihckaiaa.PAll
open Go.RowKit Go.Proofs.YtmoobmeihckaiaaW.PrintWords Go.Proofs.YtmoobmeihckaiaaW.PrintLast Go.Proofs.YtmoobmeihckaiaaW.PrintMore Go.Proofs.YtmoobmeihckaiaaL
set_option linter.unusedVariables false
set_option maxRecDepth 100000
theorem spec_laDown.l0.m (x1 : Int) (x5 : List Int) (x10 : List Int) (x11 : Int) (x12 : Int) : Mono (fun k => spec_laDown.l0 k x1 x5 x10 x11 x12) := fun k => (spec_laDown.mono_l k) x1 x5 x10 x11 x12
noncomputable def spec_laDown.l0.v (x1 : Int) (x5 : List Int) (x10 : List Int) (x11 : Int) (x12 : Int) : Option (List Int) := lim (fun k => spec_laDown.l0 k x1 x5 x10 x11 x12)
theorem spec_laDown.f.m (l0 : List Int) (a1 : Int) : Mono (fun k => spec_laDown.f k l0 a1) := fun k => spec_laDown.mono l0 a1 k
noncomputable def spec_laDown.f.v (l0 : List Int) (a1 : Int) : Option (List Int) := lim (fun k => spec_laDown.f k l0 a1)
theorem spec_laDown.f.ends (l0 : List Int) (a1 : Int) {r : _} (h : spec_laDown.f.v l0 a1 = some r) : ∃ k, spec_laDown.f k l0 a1 = some r := lim_some h
theorem spec_laResult.l0.m (x0 : Int) (x1 : List Int) (x5 : List Int) (x6 : Int) : Mono (fun k => spec_laResult.l0 k x0 x1 x5 x6) := fun k => (spec_laResult.mono_l k) x0 x1 x5 x6
noncomputable def spec_laResult.l0.v (x0 : Int) (x1 : List Int) (x5 : List Int) (x6 : Int) : Option (List Int) := lim (fun k => spec_laResult.l0 k x0 x1 x5 x6)
theorem spec_laResult.f.m (a0 : Int) (l1 : List Int) : Mono (fun k => spec_laResult.f k a0 l1) := fun k => spec_laResult.mono a0 l1 k
noncomputable def spec_laResult.f.v (a0 : Int) (l1 : List Int) : Option (List Int) := lim (fun k => spec_laResult.f k a0 l1)
theorem spec_laResult.f.ends (a0 : Int) (l1 : List Int) {r : _} (h : spec_laResult.f.v a0 l1 = some r) : ∃ k, spec_laResult.f k a0 l1 = some r := lim_some h
theorem spec_ReduceLadder.f.m (a0_0 : Int) (l0_1 : List Int) : Mono (fun k => spec_ReduceLadder.f k a0_0 l0_1) := fun k => spec_ReduceLadder.mono a0_0 l0_1 k
noncomputable def spec_ReduceLadder.f.v (a0_0 : Int) (l0_1 : List Int) : Option (Int × List Int × Bool) := lim (fun k => spec_ReduceLadder.f k a0_0 l0_1)
theorem spec_ReduceLadder.f.ends (a0_0 : Int) (l0_1 : List Int) {r : _} (h : spec_ReduceLadder.f.v a0_0 l0_1 = some r) : ∃ k, spec_ReduceLadder.f k a0_0 l0_1 = some r := lim_some h
theorem spec_laDown.l0.v_eq (x1 : Int) (x5 : List Int) (x10 : List Int) (x11 : Int) (x12 : Int) : spec_laDown.l0.v x1 x5 x10 x11 x12 = if x12 < x11 then (if 0 ≤ x12 then (if x12 < (x10.length : Int) then ((spec_laOver.f x1 (rd x10 x12)).bind fun t385 => (if x5.length < 17592186044416 then (spec_laDown.l0.v t385 (x5 ++ [t385]) x10 x11 (wrap64 (x12 + 1))) else (none))) else (none)) else (none)) else (some x5) :=
  Eq.trans (b := lim (fun k => if x12 < x11 then (if 0 ≤ x12 then (if x12 < (x10.length : Int) then ((spec_laOver.f x1 (rd x10 x12)).bind fun t385 => (if x5.length < 17592186044416 then (spec_laDown.l0 k t385 (x5 ++ [t385]) x10 x11 (wrap64 (x12 + 1))) else (none))) else (none)) else (none)) else (some x5))) (lim_eq (spec_laDown.l0.m x1 x5 x10 x11 x12) (fun k => by with_reducible exact spec_laDown.l0.eq_2 _ _ _ _ _ _ )) (lim_ite_to (lim_ite_to (lim_ite_to (lim_bindc_to (fun t385 => (lim_ite_to rfl (lim_const _)))) (lim_const _)) (lim_const _)) (lim_const _))
theorem spec_laDown.f.v_eq (l0 : List Int) (a1 : Int) : spec_laDown.f.v l0 a1 = spec_laDown.l0.v a1 (([a1] : List Int)) l0 (l0.length : Int) 0 :=
  Eq.trans (b := lim (fun k => spec_laDown.l0 k a1 (([a1] : List Int)) l0 (l0.length : Int) 0)) (congrArg lim (funext fun k => by with_reducible exact spec_laDown.f.eq_1 _ _ _ )) rfl
theorem spec_laResult.l0.v_eq (x0 : Int) (x1 : List Int) (x5 : List Int) (x6 : Int) : spec_laResult.l0.v x0 x1 x5 x6 = if x6 < x0 then ((spec_laDown.f.v x1 x6).bind fun t389 => (if 0 ≤ (x1.length : Int) then (if (x1.length : Int) < (t389.length : Int) then (if x5.length < 17592186044416 then (spec_laResult.l0.v x0 x1 (x5 ++ [rd t389 (x1.length : Int)]) (wrap64 (x6 + 1))) else (none)) else (none)) else (none))) else (some x5) :=
  Eq.trans (b := lim (fun k => if x6 < x0 then ((spec_laDown.f k x1 x6).bind fun t389 => (if 0 ≤ (x1.length : Int) then (if (x1.length : Int) < (t389.length : Int) then (if x5.length < 17592186044416 then (spec_laResult.l0 k x0 x1 (x5 ++ [rd t389 (x1.length : Int)]) (wrap64 (x6 + 1))) else (none)) else (none)) else (none))) else (some x5))) (lim_eq (spec_laResult.l0.m x0 x1 x5 x6) (fun k => by with_reducible exact spec_laResult.l0.eq_2 _ _ _ _ _ )) (lim_ite_to (lim_bind_to (spec_laDown.f.m _ _ ) (fun t389 => (Mono.ite (Mono.ite (Mono.ite (spec_laResult.l0.m _ _ _ _ ) (Mono.const _)) (Mono.const _)) (Mono.const _))) (fun t389 => (lim_ite_to (lim_ite_to (lim_ite_to rfl (lim_const _)) (lim_const _)) (lim_const _)))) (lim_const _))
theorem spec_laResult.f.v_eq (a0 : Int) (l1 : List Int) : spec_laResult.f.v a0 l1 = spec_laResult.l0.v a0 l1 ([] : List Int) 0 :=
  Eq.trans (b := lim (fun k => spec_laResult.l0 k a0 l1 ([] : List Int) 0)) (congrArg lim (funext fun k => by with_reducible exact spec_laResult.f.eq_1 _ _ _ )) rfl
theorem spec_ReduceLadder.f.v_eq (a0_0 : Int) (l0_1 : List Int) : spec_ReduceLadder.f.v a0_0 l0_1 = (spec_laGood.f.v a0_0 l0_1).bind fun t398 => (if t398 = true then ((spec_laResult.f.v a0_0 l0_1).bind fun t399 => ((spec_lsFirst.f.v t399).bind fun t402 => (some (a0_0, t402, true)))) else (some (0, ([] : List Int), false))) :=
  Eq.trans (b := lim (fun k => (spec_laGood.f k a0_0 l0_1).bind fun t398 => (if t398 = true then ((spec_laResult.f k a0_0 l0_1).bind fun t399 => ((spec_lsFirst.f k t399).bind fun t402 => (some (a0_0, t402, true)))) else (some (0, ([] : List Int), false))))) (congrArg lim (funext fun k => by with_reducible exact spec_ReduceLadder.f.eq_1 _ _ _ )) (lim_bind_to (spec_laGood.f.m _ _ ) (fun t398 => (Mono.ite (Mono.bind (spec_laResult.f.m _ _ ) (fun t399 => (Mono.bind (spec_lsFirst.f.m _ ) (fun t402 => (Mono.const _))))) (Mono.const _))) (fun t398 => (lim_ite_to (lim_bind_to (spec_laResult.f.m _ _ ) (fun t399 => (Mono.bind (spec_lsFirst.f.m _ ) (fun t402 => (Mono.const _)))) (fun t399 => (lim_bind_to (spec_lsFirst.f.m _ ) (fun t402 => (Mono.const _)) (fun t402 => (lim_const _))))) (lim_const _))))
end Go.Proofs.Ytmoobmeihckaiaa.PAll
