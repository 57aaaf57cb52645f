/- The values of the printed functions, without rounds, and the equations that they meet. Written by a program of this session (vgen.py). -/
import Derived.Test.YtldcjlpbodpmbaaDoorPLtx4
import Derived.Test.YtldcjlpbodpmbaaDoorLim
namespace Go.Proofs.YtldcjlpbodpmbaaDoor.PLt
open Go.RowKit Go.Proofs.YtldcjlpbodpmbaaDoorW.PrintWords Go.Proofs.YtldcjlpbodpmbaaDoorW.PrintLast Go.Proofs.YtldcjlpbodpmbaaDoorW.PrintMore Go.Proofs.YtldcjlpbodpmbaaDoorL
set_option linter.unusedVariables false
set_option maxRecDepth 100000
theorem impl_listText.l0.m (x3 : List ByteArray) (x7 : List Int) (x8 : Int) (x9 : Int) : Mono (fun k => impl_listText.l0 k x3 x7 x8 x9) := fun k => (impl_listText.mono_l k) x3 x7 x8 x9
noncomputable def impl_listText.l0.v (x3 : List ByteArray) (x7 : List Int) (x8 : Int) (x9 : Int) : Option (ByteArray) := lim (fun k => impl_listText.l0 k x3 x7 x8 x9)
theorem impl_listText.f.m (l0 : List Int) : Mono (fun k => impl_listText.f k l0) := fun k => impl_listText.mono l0 k
noncomputable def impl_listText.f.v (l0 : List Int) : Option (ByteArray) := lim (fun k => impl_listText.f k l0)
theorem impl_listText.f.ends (l0 : List Int) {r : _} (h : impl_listText.f.v l0 = some r) : ∃ k, impl_listText.f k l0 = some r := lim_some h
theorem impl_ladderText.f.m (a0_0 : Int) (l0_1 : List Int) : Mono (fun k => impl_ladderText.f k a0_0 l0_1) := fun k => impl_ladderText.mono a0_0 l0_1 k
noncomputable def impl_ladderText.f.v (a0_0 : Int) (l0_1 : List Int) : Option (ByteArray) := lim (fun k => impl_ladderText.f k a0_0 l0_1)
theorem impl_ladderText.f.ends (a0_0 : Int) (l0_1 : List Int) {r : _} (h : impl_ladderText.f.v a0_0 l0_1 = some r) : ∃ k, impl_ladderText.f k a0_0 l0_1 = some r := lim_some h
theorem impl_listText.l0.v_eq (x3 : List ByteArray) (x7 : List Int) (x8 : Int) (x9 : Int) : impl_listText.l0.v x3 x7 x8 x9 = if x9 < x8 then (if 0 ≤ x9 then (if x9 < (x7.length : Int) then ((strconv_Itoa_32.f (rd x7 x9)).bind fun t155 => (if x3.length < 8796093022208 then (impl_listText.l0.v (x3 ++ [t155]) x7 x8 (wrap64 (x9 + 1))) else (none))) else (none)) else (none)) else (if (x3.length : Int) = 0 then (some (⟨#[45]⟩ : ByteArray)) else ((strings_Join.f x3 (⟨#[44]⟩ : ByteArray)).bind fun t159 => (some t159))) :=
  Eq.trans (b := lim (fun k => if x9 < x8 then (if 0 ≤ x9 then (if x9 < (x7.length : Int) then ((strconv_Itoa_32.f (rd x7 x9)).bind fun t155 => (if x3.length < 8796093022208 then (impl_listText.l0 k (x3 ++ [t155]) x7 x8 (wrap64 (x9 + 1))) else (none))) else (none)) else (none)) else (if (x3.length : Int) = 0 then (some (⟨#[45]⟩ : ByteArray)) else ((strings_Join.f x3 (⟨#[44]⟩ : ByteArray)).bind fun t159 => (some t159))))) (lim_eq (impl_listText.l0.m x3 x7 x8 x9) (fun k => by with_reducible exact impl_listText.l0.eq_2 _ _ _ _ _ )) (lim_ite_to (lim_ite_to (lim_ite_to (lim_bindc_to (fun t155 => (lim_ite_to rfl (lim_const _)))) (lim_const _)) (lim_const _)) (lim_const _))
theorem impl_listText.f.v_eq (l0 : List Int) : impl_listText.f.v l0 = impl_listText.l0.v (([] : List ByteArray)) l0 (l0.length : Int) 0 :=
  Eq.trans (b := lim (fun k => impl_listText.l0 k (([] : List ByteArray)) l0 (l0.length : Int) 0)) (congrArg lim (funext fun k => by with_reducible exact impl_listText.f.eq_1 _ _ )) rfl
theorem impl_ladderText.f.v_eq (a0_0 : Int) (l0_1 : List Int) : impl_ladderText.f.v a0_0 l0_1 = (strconv_Itoa_32.f a0_0).bind fun t161 => (if t161.size + 1 ≤ 9223372036854775807 then ((impl_listText.f.v l0_1).bind fun t162 => (if (t161 ++ (⟨#[58]⟩ : ByteArray)).size + t162.size ≤ 9223372036854775807 then (some ((t161 ++ (⟨#[58]⟩ : ByteArray)) ++ t162)) else (none))) else (none)) :=
  Eq.trans (b := lim (fun k => (strconv_Itoa_32.f a0_0).bind fun t161 => (if t161.size + 1 ≤ 9223372036854775807 then ((impl_listText.f k l0_1).bind fun t162 => (if (t161 ++ (⟨#[58]⟩ : ByteArray)).size + t162.size ≤ 9223372036854775807 then (some ((t161 ++ (⟨#[58]⟩ : ByteArray)) ++ t162)) else (none))) else (none)))) (congrArg lim (funext fun k => by with_reducible exact impl_ladderText.f.eq_1 _ _ _ )) (lim_bindc_to (fun t161 => (lim_ite_to (lim_bind_to (impl_listText.f.m _ ) (fun t162 => (Mono.const _)) (fun t162 => (lim_const _))) (lim_const _))))
end Go.Proofs.YtldcjlpbodpmbaaDoor.PLt
