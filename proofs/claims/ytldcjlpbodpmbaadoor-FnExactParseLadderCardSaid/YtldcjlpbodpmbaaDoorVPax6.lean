/- The values of the printed functions, without rounds, and the equations that they meet. Written by a program of this session (vgen.py). -/
import Derived.Test.YtldcjlpbodpmbaaDoorPPax6
import Derived.Test.YtldcjlpbodpmbaaDoorVPax5
import Derived.Test.YtldcjlpbodpmbaaDoorLim
namespace Go.Proofs.YtldcjlpbodpmbaaDoor.PPa
open Go.RowKit Go.Proofs.YtldcjlpbodpmbaaDoorW.PrintWords Go.Proofs.YtldcjlpbodpmbaaDoorW.PrintLast Go.Proofs.YtldcjlpbodpmbaaDoorW.PrintMore Go.Proofs.YtldcjlpbodpmbaaDoorL
set_option linter.unusedVariables false
set_option maxRecDepth 100000
theorem impl_ParseLadder.f.m (a0 : ByteArray) : Mono (fun k => impl_ParseLadder.f k a0) := fun k => impl_ParseLadder.mono a0 k
noncomputable def impl_ParseLadder.f.v (a0 : ByteArray) : Option (Int × List Int × Bool) := lim (fun k => impl_ParseLadder.f k a0)
theorem impl_ParseLadder.f.ends (a0 : ByteArray) {r : _} (h : impl_ParseLadder.f.v a0 = some r) : ∃ k, impl_ParseLadder.f k a0 = some r := lim_some h
theorem laws_heldIntS.l0.m (x0 : List Int) (x1 : Int) (x5 : Int) : Mono (fun k => laws_heldIntS.l0 k x0 x1 x5) := fun k => (laws_heldIntS.mono_l k) x0 x1 x5
noncomputable def laws_heldIntS.l0.v (x0 : List Int) (x1 : Int) (x5 : Int) : Option (Int) := lim (fun k => laws_heldIntS.l0 k x0 x1 x5)
theorem laws_heldIntS.f.m (l0 : List Int) (a1 : Int) : Mono (fun k => laws_heldIntS.f k l0 a1) := fun k => laws_heldIntS.mono l0 a1 k
noncomputable def laws_heldIntS.f.v (l0 : List Int) (a1 : Int) : Option (Int) := lim (fun k => laws_heldIntS.f k l0 a1)
theorem laws_heldIntS.f.ends (l0 : List Int) (a1 : Int) {r : _} (h : laws_heldIntS.f.v l0 a1 = some r) : ∃ k, laws_heldIntS.f k l0 a1 = some r := lim_some h
theorem laws_heldLadder.f.m (a0_0 : Int) (l0_1 : List Int) (a1 : Int) : Mono (fun k => laws_heldLadder.f k a0_0 l0_1 a1) := fun k => laws_heldLadder.mono a0_0 l0_1 a1 k
noncomputable def laws_heldLadder.f.v (a0_0 : Int) (l0_1 : List Int) (a1 : Int) : Option (Int) := lim (fun k => laws_heldLadder.f k a0_0 l0_1 a1)
theorem laws_heldLadder.f.ends (a0_0 : Int) (l0_1 : List Int) (a1 : Int) {r : _} (h : laws_heldLadder.f.v a0_0 l0_1 a1 = some r) : ∃ k, laws_heldLadder.f k a0_0 l0_1 a1 = some r := lim_some h
theorem impl_ParseLadder.f.v_eq (a0 : ByteArray) : impl_ParseLadder.f.v a0 = (strings_Cut.f a0 (⟨#[58]⟩ : ByteArray)).bind fun bt177 => ((impl_readNumber.f bt177.1).bind fun bt180 => ((impl_readList.f.v bt177.2.1).bind fun bt182 => (if bt177.2.2 = true then (if bt180.2 = true then (if bt182.2 = true then ((impl_checked.f bt180.1 bt182.1).bind fun bt186 => (some (bt186.1, bt186.2.1, bt186.2.2))) else (some (0, ([] : List Int), false))) else (some (0, ([] : List Int), false))) else (some (0, ([] : List Int), false))))) :=
  Eq.trans (b := lim (fun k => (strings_Cut.f a0 (⟨#[58]⟩ : ByteArray)).bind fun bt177 => ((impl_readNumber.f bt177.1).bind fun bt180 => ((impl_readList.f k bt177.2.1).bind fun bt182 => (if bt177.2.2 = true then (if bt180.2 = true then (if bt182.2 = true then ((impl_checked.f bt180.1 bt182.1).bind fun bt186 => (some (bt186.1, bt186.2.1, bt186.2.2))) else (some (0, ([] : List Int), false))) else (some (0, ([] : List Int), false))) else (some (0, ([] : List Int), false))))))) (congrArg lim (funext fun k => by with_reducible exact impl_ParseLadder.f.eq_1 _ _ )) (lim_bindc_to (fun bt177 => (lim_bindc_to (fun bt180 => (lim_bind_to (impl_readList.f.m _ ) (fun bt182 => (Mono.const _)) (fun bt182 => (lim_const _)))))))
theorem laws_heldIntS.l0.v_eq (x0 : List Int) (x1 : Int) (x5 : Int) : laws_heldIntS.l0.v x0 x1 x5 = if x5 < (x0.length : Int) then (if 0 ≤ x5 then (if (rd x0 x5) = x1 then (laws_heldIntS.l0.v x0 (wrap64 (x1 + 1)) (wrap64 (x5 + 1))) else (some (-1))) else (none)) else (some x1) :=
  Eq.trans (b := lim (fun k => if x5 < (x0.length : Int) then (if 0 ≤ x5 then (if (rd x0 x5) = x1 then (laws_heldIntS.l0 k x0 (wrap64 (x1 + 1)) (wrap64 (x5 + 1))) else (some (-1))) else (none)) else (some x1))) (lim_eq (laws_heldIntS.l0.m x0 x1 x5) (fun k => by with_reducible exact laws_heldIntS.l0.eq_2 _ _ _ _ )) (lim_ite_to (lim_ite_to (lim_ite_to rfl (lim_const _)) (lim_const _)) (lim_const _))
theorem laws_heldIntS.f.v_eq (l0 : List Int) (a1 : Int) : laws_heldIntS.f.v l0 a1 = laws_heldIntS.l0.v l0 a1 0 :=
  Eq.trans (b := lim (fun k => laws_heldIntS.l0 k l0 a1 0)) (congrArg lim (funext fun k => by with_reducible exact laws_heldIntS.f.eq_1 _ _ _ )) rfl
theorem laws_heldLadder.f.v_eq (a0_0 : Int) (l0_1 : List Int) (a1 : Int) : laws_heldLadder.f.v a0_0 l0_1 a1 = (laws_heldIntS.f.v l0_1 a1).bind fun t193 => (if t193 < 0 then (some (-1)) else (some t193)) :=
  Eq.trans (b := lim (fun k => (laws_heldIntS.f k l0_1 a1).bind fun t193 => (if t193 < 0 then (some (-1)) else (some t193)))) (congrArg lim (funext fun k => by with_reducible exact laws_heldLadder.f.eq_1 _ _ _ _ )) (lim_bind_to (laws_heldIntS.f.m _ _ ) (fun t193 => (Mono.const _)) (fun t193 => (lim_const _)))
end Go.Proofs.YtldcjlpbodpmbaaDoor.PPa
