/- The values of the printed functions, without rounds, and the equations that they meet. Written by a program of this session (vgen.py). -/
import Derived.Test.YtldcjlpbodpmbaaDoorPPax5
import Derived.Test.YtldcjlpbodpmbaaDoorVPax4
import Derived.Test.YtldcjlpbodpmbaaDoorLim
namespace Go.Proofs.YtldcjlpbodpmbaaDoor.PPa
open Go.RowKit Go.Proofs.YtldcjlpbodpmbaaDoorW.PrintWords Go.Proofs.YtldcjlpbodpmbaaDoorW.PrintLast Go.Proofs.YtldcjlpbodpmbaaDoorW.PrintMore Go.Proofs.YtldcjlpbodpmbaaDoorL
set_option linter.unusedVariables false
set_option maxRecDepth 100000
theorem spec_ParseLadder.f.m (a0 : ByteArray) : Mono (fun k => spec_ParseLadder.f k a0) := fun k => spec_ParseLadder.mono a0 k
noncomputable def spec_ParseLadder.f.v (a0 : ByteArray) : Option (Int × List Int × Bool) := lim (fun k => spec_ParseLadder.f k a0)
theorem spec_ParseLadder.f.ends (a0 : ByteArray) {r : _} (h : spec_ParseLadder.f.v a0 = some r) : ∃ k, spec_ParseLadder.f k a0 = some r := lim_some h
theorem impl_readList.l0.m (x4 : List Int) (x14 : List ByteArray) (x15 : Int) (x16 : Int) : Mono (fun k => impl_readList.l0 k x4 x14 x15 x16) := fun k => (impl_readList.mono_l k) x4 x14 x15 x16
noncomputable def impl_readList.l0.v (x4 : List Int) (x14 : List ByteArray) (x15 : Int) (x16 : Int) : Option (List Int × Bool) := lim (fun k => impl_readList.l0 k x4 x14 x15 x16)
theorem impl_readList.f.m (a0 : ByteArray) : Mono (fun k => impl_readList.f k a0) := fun k => impl_readList.mono a0 k
noncomputable def impl_readList.f.v (a0 : ByteArray) : Option (List Int × Bool) := lim (fun k => impl_readList.f k a0)
theorem impl_readList.f.ends (a0 : ByteArray) {r : _} (h : impl_readList.f.v a0 = some r) : ∃ k, impl_readList.f k a0 = some r := lim_some h
theorem spec_ParseLadder.f.v_eq (a0 : ByteArray) : spec_ParseLadder.f.v a0 = (spec_laParse.f.v a0).bind fun bt136 => (some (bt136.1, bt136.2.1, bt136.2.2)) :=
  Eq.trans (b := lim (fun k => (spec_laParse.f k a0).bind fun bt136 => (some (bt136.1, bt136.2.1, bt136.2.2)))) (congrArg lim (funext fun k => by with_reducible exact spec_ParseLadder.f.eq_1 _ _ )) (lim_bind_to (spec_laParse.f.m _ ) (fun bt136 => (Mono.const _)) (fun bt136 => (lim_const _)))
theorem impl_readList.l0.v_eq (x4 : List Int) (x14 : List ByteArray) (x15 : Int) (x16 : Int) : impl_readList.l0.v x4 x14 x15 x16 = if x16 < x15 then (if 0 ≤ x16 then (if x16 < (x14.length : Int) then ((impl_readNumber.f (rdOf ByteArray.empty x14 x16)).bind fun bt168 => (if bt168.2 = true then (if x4.length < 17592186044416 then (impl_readList.l0.v (x4 ++ [bt168.1]) x14 x15 (wrap64 (x16 + 1))) else (none)) else (some (([] : List Int), false)))) else (none)) else (none)) else (some (x4, true)) :=
  Eq.trans (b := lim (fun k => if x16 < x15 then (if 0 ≤ x16 then (if x16 < (x14.length : Int) then ((impl_readNumber.f (rdOf ByteArray.empty x14 x16)).bind fun bt168 => (if bt168.2 = true then (if x4.length < 17592186044416 then (impl_readList.l0 k (x4 ++ [bt168.1]) x14 x15 (wrap64 (x16 + 1))) else (none)) else (some (([] : List Int), false)))) else (none)) else (none)) else (some (x4, true)))) (lim_eq (impl_readList.l0.m x4 x14 x15 x16) (fun k => by with_reducible exact impl_readList.l0.eq_2 _ _ _ _ _ )) (lim_ite_to (lim_ite_to (lim_ite_to (lim_bindc_to (fun bt168 => (lim_ite_to (lim_ite_to rfl (lim_const _)) (lim_const _)))) (lim_const _)) (lim_const _)) (lim_const _))
theorem impl_readList.f.v_eq (a0 : ByteArray) : impl_readList.f.v a0 = (some (([] : List Int) : List Int)).bind fun y161 => (if a0.toList = ([45] : List UInt8) then (some (y161, true)) else ((strings_Split.f a0 (⟨#[44]⟩ : ByteArray)).bind fun t164 => (impl_readList.l0.v y161 t164 (t164.length : Int) 0))) :=
  Eq.trans (b := lim (fun k => (some (([] : List Int) : List Int)).bind fun y161 => (if a0.toList = ([45] : List UInt8) then (some (y161, true)) else ((strings_Split.f a0 (⟨#[44]⟩ : ByteArray)).bind fun t164 => (impl_readList.l0 k y161 t164 (t164.length : Int) 0))))) (congrArg lim (funext fun k => by with_reducible exact impl_readList.f.eq_1 _ _ )) (lim_bindc_to (fun y161 => (lim_ite_to (lim_const _) (lim_bindc_to (fun t164 => rfl)))))
end Go.Proofs.YtldcjlpbodpmbaaDoor.PPa
