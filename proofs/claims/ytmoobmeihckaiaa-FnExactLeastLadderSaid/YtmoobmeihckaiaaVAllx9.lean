/- The values of the printed functions, without rounds, and the equations that they meet. Written by a program of this session (vgen.py). -/
import Derived.Test.YtmoobmeihckaiaaPAllx9
import Derived.Test.YtmoobmeihckaiaaVAllx8
import Derived.Test.YtmoobmeihckaiaaLim
namespace Go.Proofs.Ytmoobmeihckaiaa.PAll
open Go.RowKit Go.Proofs.YtmoobmeihckaiaaW.PrintWords Go.Proofs.YtmoobmeihckaiaaW.PrintLast Go.Proofs.YtmoobmeihckaiaaW.PrintMore Go.Proofs.YtmoobmeihckaiaaL
set_option linter.unusedVariables false
set_option maxRecDepth 100000
theorem impl_least.l0.m (x0 : List Int) (x4 : List Int) (x259000 : Int) (x259001 : List Int) : Mono (fun k => impl_least.l0 k x0 x4 x259000 x259001) := fun k => (impl_least.mono_l k) x0 x4 x259000 x259001
noncomputable def impl_least.l0.v (x0 : List Int) (x4 : List Int) (x259000 : Int) (x259001 : List Int) : Option (Int × List Int) := lim (fun k => impl_least.l0 k x0 x4 x259000 x259001)
theorem impl_least.f.m (l0 : List Int) : Mono (fun k => impl_least.f k l0) := fun k => impl_least.mono l0 k
noncomputable def impl_least.f.v (l0 : List Int) : Option (Int × List Int) := lim (fun k => impl_least.f k l0)
theorem impl_least.f.ends (l0 : List Int) {r : _} (h : impl_least.f.v l0 = some r) : ∃ k, impl_least.f k l0 = some r := lim_some h
theorem impl_least.l0.v_eq (x0 : List Int) (x4 : List Int) (x259000 : Int) (x259001 : List Int) : impl_least.l0.v x0 x4 x259000 x259001 = if (x4.length : Int) > 0 then (if 0 < (x4.length : Int) then (if x259001.length < 17592186044416 then ((impl_exchanged.f x0 (rd x4 0)).bind fun t267 => ((impl_descents.f.v t267).bind fun t270 => (impl_least.l0.v t267 t270 x259000 (x259001 ++ [rd x4 0])))) else (none)) else (none)) else (some (x259000, x259001)) :=
  Eq.trans (b := lim (fun k => if (x4.length : Int) > 0 then (if 0 < (x4.length : Int) then (if x259001.length < 17592186044416 then ((impl_exchanged.f x0 (rd x4 0)).bind fun t267 => ((impl_descents.f k t267).bind fun t270 => (impl_least.l0 k t267 t270 x259000 (x259001 ++ [rd x4 0])))) else (none)) else (none)) else (some (x259000, x259001)))) (lim_eq (impl_least.l0.m x0 x4 x259000 x259001) (fun k => by with_reducible exact impl_least.l0.eq_2 _ _ _ _ _ )) (lim_ite_to (lim_ite_to (lim_ite_to (lim_bindc_to (fun t267 => (lim_bind_to (impl_descents.f.m _ ) (fun t270 => (impl_least.l0.m _ _ _ _ )) (fun t270 => rfl)))) (lim_const _)) (lim_const _)) (lim_const _))
theorem impl_least.f.v_eq (l0 : List Int) : impl_least.f.v l0 = (impl_descents.f.v l0).bind fun t259 => (impl_least.l0.v l0 t259 (l0.length : Int) ([] : List Int)) :=
  Eq.trans (b := lim (fun k => (impl_descents.f k l0).bind fun t259 => (impl_least.l0 k l0 t259 (l0.length : Int) ([] : List Int)))) (congrArg lim (funext fun k => by with_reducible exact impl_least.f.eq_1 _ _ )) (lim_bind_to (impl_descents.f.m _ ) (fun t259 => (impl_least.l0.m _ _ _ _ )) (fun t259 => rfl))
end Go.Proofs.Ytmoobmeihckaiaa.PAll
