/- The values of the printed functions, without rounds, and the equations that they meet. Written by a program of this session (vgen.py). -/
import Derived.Test.YtldcjlpbodpmbaaDoorPMvx2
import Derived.Test.YtldcjlpbodpmbaaDoorLim
namespace Go.Proofs.YtldcjlpbodpmbaaDoor.PMv
open Go.RowKit Go.Proofs.YtldcjlpbodpmbaaDoorW.PrintWords Go.Proofs.YtldcjlpbodpmbaaDoorW.PrintLast Go.Proofs.YtldcjlpbodpmbaaDoorW.PrintMore Go.Proofs.YtldcjlpbodpmbaaDoorL
set_option linter.unusedVariables false
set_option maxRecDepth 100000
theorem spec_l1All.l0.m (x1 : Int) (x2 : Int) (x9 : List Int) (x10 : Int) (x11 : Int) : Mono (fun k => spec_l1All.l0 k x1 x2 x9 x10 x11) := fun k => (spec_l1All.mono_l k) x1 x2 x9 x10 x11
noncomputable def spec_l1All.l0.v (x1 : Int) (x2 : Int) (x9 : List Int) (x10 : Int) (x11 : Int) : Option (Bool) := lim (fun k => spec_l1All.l0 k x1 x2 x9 x10 x11)
theorem spec_l1All.f.m (l0 : List Int) (a1 : Int) (a2 : Int) : Mono (fun k => spec_l1All.f k l0 a1 a2) := fun k => spec_l1All.mono l0 a1 a2 k
noncomputable def spec_l1All.f.v (l0 : List Int) (a1 : Int) (a2 : Int) : Option (Bool) := lim (fun k => spec_l1All.f k l0 a1 a2)
theorem spec_l1All.f.ends (l0 : List Int) (a1 : Int) (a2 : Int) {r : _} (h : spec_l1All.f.v l0 a1 a2 = some r) : ∃ k, spec_l1All.f k l0 a1 a2 = some r := lim_some h
theorem spec_laGood.f.m (a0_0 : Int) (l0_1 : List Int) : Mono (fun k => spec_laGood.f k a0_0 l0_1) := fun k => spec_laGood.mono a0_0 l0_1 k
noncomputable def spec_laGood.f.v (a0_0 : Int) (l0_1 : List Int) : Option (Bool) := lim (fun k => spec_laGood.f k a0_0 l0_1)
theorem spec_laGood.f.ends (a0_0 : Int) (l0_1 : List Int) {r : _} (h : spec_laGood.f.v a0_0 l0_1 = some r) : ∃ k, spec_laGood.f k a0_0 l0_1 = some r := lim_some h
theorem spec_l1Num.f.m (a0 : Int) : Mono (fun k => spec_l1Num.f k a0) := fun k => (spec_l1Num.mono_l k) a0
noncomputable def spec_l1Num.f.v (a0 : Int) : Option (ByteArray) := lim (fun k => spec_l1Num.f k a0)
theorem spec_l1Num.f.ends (a0 : Int) {r : _} (h : spec_l1Num.f.v a0 = some r) : ∃ k, spec_l1Num.f k a0 = some r := lim_some h
theorem spec_l1All.l0.v_eq (x1 : Int) (x2 : Int) (x9 : List Int) (x10 : Int) (x11 : Int) : spec_l1All.l0.v x1 x2 x9 x10 x11 = if x11 < x10 then (if 0 ≤ x11 then (if x11 < (x9.length : Int) then ((spec_l1In.f (rd x9 x11) x1 x2).bind fun t120 => (if t120 = true then (spec_l1All.l0.v x1 x2 x9 x10 (wrap64 (x11 + 1))) else (some false))) else (none)) else (none)) else (some true) :=
  Eq.trans (b := lim (fun k => if x11 < x10 then (if 0 ≤ x11 then (if x11 < (x9.length : Int) then ((spec_l1In.f (rd x9 x11) x1 x2).bind fun t120 => (if t120 = true then (spec_l1All.l0 k x1 x2 x9 x10 (wrap64 (x11 + 1))) else (some false))) else (none)) else (none)) else (some true))) (lim_eq (spec_l1All.l0.m x1 x2 x9 x10 x11) (fun k => by with_reducible exact spec_l1All.l0.eq_2 _ _ _ _ _ _ )) (lim_ite_to (lim_ite_to (lim_ite_to (lim_bindc_to (fun t120 => (lim_ite_to rfl (lim_const _)))) (lim_const _)) (lim_const _)) (lim_const _))
theorem spec_l1All.f.v_eq (l0 : List Int) (a1 : Int) (a2 : Int) : spec_l1All.f.v l0 a1 a2 = spec_l1All.l0.v a1 a2 l0 (l0.length : Int) 0 :=
  Eq.trans (b := lim (fun k => spec_l1All.l0 k a1 a2 l0 (l0.length : Int) 0)) (congrArg lim (funext fun k => by with_reducible exact spec_l1All.f.eq_1 _ _ _ _ )) rfl
theorem spec_laGood.f.v_eq (a0_0 : Int) (l0_1 : List Int) : spec_laGood.f.v a0_0 l0_1 = (spec_l1In.f a0_0 2 8).bind fun t122 => (if t122 = true then (if (l0_1.length : Int) ≤ 60 then ((spec_l1All.f.v l0_1 0 (wrap64 (a0_0 - 2))).bind fun t123 => (some t123)) else (some false)) else (some false)) :=
  Eq.trans (b := lim (fun k => (spec_l1In.f a0_0 2 8).bind fun t122 => (if t122 = true then (if (l0_1.length : Int) ≤ 60 then ((spec_l1All.f k l0_1 0 (wrap64 (a0_0 - 2))).bind fun t123 => (some t123)) else (some false)) else (some false)))) (congrArg lim (funext fun k => by with_reducible exact spec_laGood.f.eq_1 _ _ _ )) (lim_bindc_to (fun t122 => (lim_ite_to (lim_ite_to (lim_bind_to (spec_l1All.f.m _ _ _ ) (fun t123 => (Mono.const _)) (fun t123 => (lim_const _))) (lim_const _)) (lim_const _))))
theorem spec_l1Num.f.v_eq (a0 : Int) : spec_l1Num.f.v a0 = if a0 < 10 then (some (strOfNums (([(wrap64 (48 + a0)) % 256] : List Int)))) else ((spec_l1Num.f.v (wrap64 (Int.tdiv a0 10))).bind fun t127 => ((some (([(wrap64 (48 + (Int.tmod a0 10))) % 256] : List Int) : List Int)).bind fun y128 => (if t127.size + (strOfNums y128).size ≤ 9223372036854775807 then (some (t127 ++ (strOfNums y128))) else (none)))) :=
  Eq.trans (b := lim (fun k => if a0 < 10 then (some (strOfNums (([(wrap64 (48 + a0)) % 256] : List Int)))) else ((spec_l1Num.f k (wrap64 (Int.tdiv a0 10))).bind fun t127 => ((some (([(wrap64 (48 + (Int.tmod a0 10))) % 256] : List Int) : List Int)).bind fun y128 => (if t127.size + (strOfNums y128).size ≤ 9223372036854775807 then (some (t127 ++ (strOfNums y128))) else (none)))))) (lim_eq (spec_l1Num.f.m a0) (fun k => by with_reducible exact spec_l1Num.f.eq_2 _ _ )) (lim_ite_to (lim_const _) (lim_bind_to (spec_l1Num.f.m _ ) (fun t127 => (Mono.const _)) (fun t127 => (lim_const _))))
end Go.Proofs.YtldcjlpbodpmbaaDoor.PMv
