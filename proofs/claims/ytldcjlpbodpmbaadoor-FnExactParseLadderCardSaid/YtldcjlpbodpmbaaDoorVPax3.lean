/- The values of the printed functions, without rounds, and the equations that they meet. Written by a program of this session (vgen.py). -/
import Derived.Test.YtldcjlpbodpmbaaDoorPPax3
import Derived.Test.YtldcjlpbodpmbaaDoorVPax2
import Derived.Test.YtldcjlpbodpmbaaDoorLim
namespace Go.Proofs.YtldcjlpbodpmbaaDoor.PPa
open Go.RowKit Go.Proofs.YtldcjlpbodpmbaaDoorW.PrintWords Go.Proofs.YtldcjlpbodpmbaaDoorW.PrintLast Go.Proofs.YtldcjlpbodpmbaaDoorW.PrintMore Go.Proofs.YtldcjlpbodpmbaaDoorL
set_option linter.unusedVariables false
set_option maxRecDepth 100000
theorem spec_laText.f.m (a0_0 : Int) (l0_1 : List Int) : Mono (fun k => spec_laText.f k a0_0 l0_1) := fun k => spec_laText.mono a0_0 l0_1 k
noncomputable def spec_laText.f.v (a0_0 : Int) (l0_1 : List Int) : Option (ByteArray) := lim (fun k => spec_laText.f k a0_0 l0_1)
theorem spec_laText.f.ends (a0_0 : Int) (l0_1 : List Int) {r : _} (h : spec_laText.f.v a0_0 l0_1 = some r) : ∃ k, spec_laText.f k a0_0 l0_1 = some r := lim_some h
theorem spec_laText.f.v_eq (a0_0 : Int) (l0_1 : List Int) : spec_laText.f.v a0_0 l0_1 = (spec_l1Num.f.v a0_0).bind fun t126 => (if t126.size + 1 ≤ 9223372036854775807 then ((spec_laNumbers.f.v l0_1).bind fun t127 => (if (t126 ++ (⟨#[58]⟩ : ByteArray)).size + t127.size ≤ 9223372036854775807 then (some ((t126 ++ (⟨#[58]⟩ : ByteArray)) ++ t127)) else (none))) else (none)) :=
  Eq.trans (b := lim (fun k => (spec_l1Num.f k a0_0).bind fun t126 => (if t126.size + 1 ≤ 9223372036854775807 then ((spec_laNumbers.f k l0_1).bind fun t127 => (if (t126 ++ (⟨#[58]⟩ : ByteArray)).size + t127.size ≤ 9223372036854775807 then (some ((t126 ++ (⟨#[58]⟩ : ByteArray)) ++ t127)) else (none))) else (none)))) (congrArg lim (funext fun k => by with_reducible exact spec_laText.f.eq_1 _ _ _ )) (lim_bind_to (spec_l1Num.f.m _ ) (fun t126 => (Mono.ite (Mono.bind (spec_laNumbers.f.m _ ) (fun t127 => (Mono.const _))) (Mono.const _))) (fun t126 => (lim_ite_to (lim_bind_to (spec_laNumbers.f.m _ ) (fun t127 => (Mono.const _)) (fun t127 => (lim_const _))) (lim_const _))))
end Go.Proofs.YtldcjlpbodpmbaaDoor.PPa
