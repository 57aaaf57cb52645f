/- The values of the printed functions, without rounds, and the equations that they meet. Written by a program of this session (vgen.py). -/
import Derived.Test.YtldcjlpbodpmbaaDoorPMmx3
import Derived.Test.YtldcjlpbodpmbaaDoorLim
namespace Go.Proofs.YtldcjlpbodpmbaaDoor.PMm
open Go.RowKit Go.Proofs.YtldcjlpbodpmbaaDoorW.PrintWords Go.Proofs.YtldcjlpbodpmbaaDoorW.PrintLast Go.Proofs.YtldcjlpbodpmbaaDoorW.PrintMore Go.Proofs.YtldcjlpbodpmbaaDoorL
set_option linter.unusedVariables false
set_option maxRecDepth 100000
theorem spec_l1Num.f.m (a0 : Int) : Mono (fun k => spec_l1Num.f k a0) := fun k => (spec_l1Num.mono_l k) a0
noncomputable def spec_l1Num.f.v (a0 : Int) : Option (ByteArray) := lim (fun k => spec_l1Num.f k a0)
theorem spec_l1Num.f.ends (a0 : Int) {r : _} (h : spec_l1Num.f.v a0 = some r) : ∃ k, spec_l1Num.f k a0 = some r := lim_some h
theorem spec_l1Num.f.v_eq (a0 : Int) : spec_l1Num.f.v a0 = if a0 < 10 then (some (strOfNums (([(wrap64 (48 + a0)) % 256] : List Int)))) else ((spec_l1Num.f.v (wrap64 (Int.tdiv a0 10))).bind fun t134 => ((some (([(wrap64 (48 + (Int.tmod a0 10))) % 256] : List Int) : List Int)).bind fun y135 => (if t134.size + (strOfNums y135).size ≤ 9223372036854775807 then (some (t134 ++ (strOfNums y135))) else (none)))) :=
  Eq.trans (b := lim (fun k => if a0 < 10 then (some (strOfNums (([(wrap64 (48 + a0)) % 256] : List Int)))) else ((spec_l1Num.f k (wrap64 (Int.tdiv a0 10))).bind fun t134 => ((some (([(wrap64 (48 + (Int.tmod a0 10))) % 256] : List Int) : List Int)).bind fun y135 => (if t134.size + (strOfNums y135).size ≤ 9223372036854775807 then (some (t134 ++ (strOfNums y135))) else (none)))))) (lim_eq (spec_l1Num.f.m a0) (fun k => by with_reducible exact spec_l1Num.f.eq_2 _ _ )) (lim_ite_to (lim_const _) (lim_bind_to (spec_l1Num.f.m _ ) (fun t134 => (Mono.const _)) (fun t134 => (lim_const _))))
end Go.Proofs.YtldcjlpbodpmbaaDoor.PMm
