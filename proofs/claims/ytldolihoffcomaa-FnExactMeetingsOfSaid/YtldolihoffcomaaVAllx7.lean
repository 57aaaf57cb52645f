/- The values of the printed functions, without rounds, and the equations that they meet. Written by a program of this session (vgen.py). -/
import Derived.Test.YtldolihoffcomaaPAllx7
import Derived.Test.YtldolihoffcomaaVAllx5
import Derived.Test.YtldolihoffcomaaVAllx6
import Derived.Test.YtldolihoffcomaaLim
namespace Go.Proofs.Ytldolihoffcomaa.PAll
open Go.RowKit Go.Proofs.YtldolihoffcomaaW.PrintWords Go.Proofs.YtldolihoffcomaaW.PrintLast Go.Proofs.YtldolihoffcomaaW.PrintMore Go.Proofs.YtldolihoffcomaaL
set_option linter.unusedVariables false
set_option maxRecDepth 100000
theorem spec_MeetingsOf.f.m (a0_0 : Int) (l0_1 : List Int) (a1 : Int) (a2 : Int) : Mono (fun k => spec_MeetingsOf.f k a0_0 l0_1 a1 a2) := fun k => spec_MeetingsOf.mono a0_0 l0_1 a1 a2 k
noncomputable def spec_MeetingsOf.f.v (a0_0 : Int) (l0_1 : List Int) (a1 : Int) (a2 : Int) : Option (Int × Bool) := lim (fun k => spec_MeetingsOf.f k a0_0 l0_1 a1 a2)
theorem spec_MeetingsOf.f.ends (a0_0 : Int) (l0_1 : List Int) (a1 : Int) (a2 : Int) {r : _} (h : spec_MeetingsOf.f.v a0_0 l0_1 a1 a2 = some r) : ∃ k, spec_MeetingsOf.f k a0_0 l0_1 a1 a2 = some r := lim_some h
theorem spec_MeetingsOf.f.v_eq (a0_0 : Int) (l0_1 : List Int) (a1 : Int) (a2 : Int) : spec_MeetingsOf.f.v a0_0 l0_1 a1 a2 = (spec_laWire.f.v a0_0 l0_1 a1).bind fun t253 => (if t253 = true then ((spec_laWire.f.v a0_0 l0_1 a2).bind fun t254 => (if t254 = true then (if a1 = a2 then (some (0, false)) else ((spec_laMeet.f.v l0_1 a1 a2).bind fun t255 => (some (t255, true)))) else (some (0, false)))) else (some (0, false))) :=
  Eq.trans (b := lim (fun k => (spec_laWire.f k a0_0 l0_1 a1).bind fun t253 => (if t253 = true then ((spec_laWire.f k a0_0 l0_1 a2).bind fun t254 => (if t254 = true then (if a1 = a2 then (some (0, false)) else ((spec_laMeet.f k l0_1 a1 a2).bind fun t255 => (some (t255, true)))) else (some (0, false)))) else (some (0, false))))) (congrArg lim (funext fun k => by with_reducible exact spec_MeetingsOf.f.eq_1 _ _ _ _ _ )) (lim_bind_to (spec_laWire.f.m _ _ _ ) (fun t253 => (Mono.ite (Mono.bind (spec_laWire.f.m _ _ _ ) (fun t254 => (Mono.ite (Mono.ite (Mono.const _) (Mono.bind (spec_laMeet.f.m _ _ _ ) (fun t255 => (Mono.const _)))) (Mono.const _)))) (Mono.const _))) (fun t253 => (lim_ite_to (lim_bind_to (spec_laWire.f.m _ _ _ ) (fun t254 => (Mono.ite (Mono.ite (Mono.const _) (Mono.bind (spec_laMeet.f.m _ _ _ ) (fun t255 => (Mono.const _)))) (Mono.const _))) (fun t254 => (lim_ite_to (lim_ite_to (lim_const _) (lim_bind_to (spec_laMeet.f.m _ _ _ ) (fun t255 => (Mono.const _)) (fun t255 => (lim_const _)))) (lim_const _)))) (lim_const _))))
end Go.Proofs.Ytldolihoffcomaa.PAll
