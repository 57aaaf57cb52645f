/- The values of the printed functions, without rounds, and the equations that they meet. Written by a program of this session (vgen.py). -/
import Derived.Test.YtldcjlpbodpmbaaDoorPMvx10
import Derived.Test.YtldcjlpbodpmbaaDoorLim
namespace Go.Proofs.YtldcjlpbodpmbaaDoor.PMv
open Go.RowKit Go.Proofs.YtldcjlpbodpmbaaDoorW.PrintWords Go.Proofs.YtldcjlpbodpmbaaDoorW.PrintLast Go.Proofs.YtldcjlpbodpmbaaDoorW.PrintMore Go.Proofs.YtldcjlpbodpmbaaDoorL
set_option linter.unusedVariables false
set_option maxRecDepth 100000
theorem laws_eqStringS.l0.m (x0 : List ByteArray) (x1 : List ByteArray) (x5 : Int) : Mono (fun k => laws_eqStringS.l0 k x0 x1 x5) := fun k => (laws_eqStringS.mono_l k) x0 x1 x5
noncomputable def laws_eqStringS.l0.v (x0 : List ByteArray) (x1 : List ByteArray) (x5 : Int) : Option (Bool) := lim (fun k => laws_eqStringS.l0 k x0 x1 x5)
theorem laws_eqStringS.f.m (l0 : List ByteArray) (l1 : List ByteArray) : Mono (fun k => laws_eqStringS.f k l0 l1) := fun k => laws_eqStringS.mono l0 l1 k
noncomputable def laws_eqStringS.f.v (l0 : List ByteArray) (l1 : List ByteArray) : Option (Bool) := lim (fun k => laws_eqStringS.f k l0 l1)
theorem laws_eqStringS.f.ends (l0 : List ByteArray) (l1 : List ByteArray) {r : _} (h : laws_eqStringS.f.v l0 l1 = some r) : ∃ k, laws_eqStringS.f k l0 l1 = some r := lim_some h
theorem laws_markIntS.l0.m (x0 : List Int) (x1 : Int) (x5 : Int) : Mono (fun k => laws_markIntS.l0 k x0 x1 x5) := fun k => (laws_markIntS.mono_l k) x0 x1 x5
noncomputable def laws_markIntS.l0.v (x0 : List Int) (x1 : Int) (x5 : Int) : Option (Int × List Int) := lim (fun k => laws_markIntS.l0 k x0 x1 x5)
theorem laws_markIntS.f.m (l0 : List Int) (a1 : Int) : Mono (fun k => laws_markIntS.f k l0 a1) := fun k => laws_markIntS.mono l0 a1 k
noncomputable def laws_markIntS.f.v (l0 : List Int) (a1 : Int) : Option (Int × List Int) := lim (fun k => laws_markIntS.f k l0 a1)
theorem laws_markIntS.f.ends (l0 : List Int) (a1 : Int) {r : _} (h : laws_markIntS.f.v l0 a1 = some r) : ∃ k, laws_markIntS.f k l0 a1 = some r := lim_some h
theorem laws_markLadder.f.m (a0_0 : Int) (l0_1 : List Int) (a1 : Int) : Mono (fun k => laws_markLadder.f k a0_0 l0_1 a1) := fun k => laws_markLadder.mono a0_0 l0_1 a1 k
noncomputable def laws_markLadder.f.v (a0_0 : Int) (l0_1 : List Int) (a1 : Int) : Option (Int × List Int) := lim (fun k => laws_markLadder.f k a0_0 l0_1 a1)
theorem laws_markLadder.f.ends (a0_0 : Int) (l0_1 : List Int) (a1 : Int) {r : _} (h : laws_markLadder.f.v a0_0 l0_1 a1 = some r) : ∃ k, laws_markLadder.f k a0_0 l0_1 a1 = some r := lim_some h
theorem laws_markText.l0.m (x0 : Int) (x3 : ByteArray) : Mono (fun k => laws_markText.l0 k x0 x3) := fun k => (laws_markText.mono_l k) x0 x3
noncomputable def laws_markText.l0.v (x0 : Int) (x3 : ByteArray) : Option (ByteArray) := lim (fun k => laws_markText.l0 k x0 x3)
theorem laws_markText.f.m (a0 : Int) : Mono (fun k => laws_markText.f k a0) := fun k => laws_markText.mono a0 k
noncomputable def laws_markText.f.v (a0 : Int) : Option (ByteArray) := lim (fun k => laws_markText.f k a0)
theorem laws_markText.f.ends (a0 : Int) {r : _} (h : laws_markText.f.v a0 = some r) : ∃ k, laws_markText.f k a0 = some r := lim_some h
theorem laws_markStringS.l0.m (x0 : List ByteArray) (x1 : Int) (x5 : Int) : Mono (fun k => laws_markStringS.l0 k x0 x1 x5) := fun k => (laws_markStringS.mono_l k) x0 x1 x5
noncomputable def laws_markStringS.l0.v (x0 : List ByteArray) (x1 : Int) (x5 : Int) : Option (Int × List ByteArray) := lim (fun k => laws_markStringS.l0 k x0 x1 x5)
theorem laws_markStringS.f.m (l0 : List ByteArray) (a1 : Int) : Mono (fun k => laws_markStringS.f k l0 a1) := fun k => laws_markStringS.mono l0 a1 k
noncomputable def laws_markStringS.f.v (l0 : List ByteArray) (a1 : Int) : Option (Int × List ByteArray) := lim (fun k => laws_markStringS.f k l0 a1)
theorem laws_markStringS.f.ends (l0 : List ByteArray) (a1 : Int) {r : _} (h : laws_markStringS.f.v l0 a1 = some r) : ∃ k, laws_markStringS.f k l0 a1 = some r := lim_some h
theorem laws_eqStringS.l0.v_eq (x0 : List ByteArray) (x1 : List ByteArray) (x5 : Int) : laws_eqStringS.l0.v x0 x1 x5 = if x5 < (x0.length : Int) then (if 0 ≤ x5 then (if x5 < (x1.length : Int) then (if (rdOf ByteArray.empty x0 x5).toList = (rdOf ByteArray.empty x1 x5).toList then (laws_eqStringS.l0.v x0 x1 (wrap64 (x5 + 1))) else (some false)) else (none)) else (none)) else (some true) :=
  Eq.trans (b := lim (fun k => if x5 < (x0.length : Int) then (if 0 ≤ x5 then (if x5 < (x1.length : Int) then (if (rdOf ByteArray.empty x0 x5).toList = (rdOf ByteArray.empty x1 x5).toList then (laws_eqStringS.l0 k x0 x1 (wrap64 (x5 + 1))) else (some false)) else (none)) else (none)) else (some true))) (lim_eq (laws_eqStringS.l0.m x0 x1 x5) (fun k => by with_reducible exact laws_eqStringS.l0.eq_2 _ _ _ _ )) (lim_ite_to (lim_ite_to (lim_ite_to (lim_ite_to rfl (lim_const _)) (lim_const _)) (lim_const _)) (lim_const _))
theorem laws_eqStringS.f.v_eq (l0 : List ByteArray) (l1 : List ByteArray) : laws_eqStringS.f.v l0 l1 = if (l0.length : Int) = (l1.length : Int) then (laws_eqStringS.l0.v l0 l1 0) else (some false) :=
  Eq.trans (b := lim (fun k => if (l0.length : Int) = (l1.length : Int) then (laws_eqStringS.l0 k l0 l1 0) else (some false))) (congrArg lim (funext fun k => by with_reducible exact laws_eqStringS.f.eq_1 _ _ _ )) (lim_ite_to rfl (lim_const _))
theorem laws_markIntS.l0.v_eq (x0 : List Int) (x1 : Int) (x5 : Int) : laws_markIntS.l0.v x0 x1 x5 = if x5 < (x0.length : Int) then (if 0 ≤ x5 then (laws_markIntS.l0.v (x0.set (x5 : Int).toNat x1) (wrap64 (x1 + 1)) (wrap64 (x5 + 1))) else (none)) else (some (x1, x0)) :=
  Eq.trans (b := lim (fun k => if x5 < (x0.length : Int) then (if 0 ≤ x5 then (laws_markIntS.l0 k (x0.set (x5 : Int).toNat x1) (wrap64 (x1 + 1)) (wrap64 (x5 + 1))) else (none)) else (some (x1, x0)))) (lim_eq (laws_markIntS.l0.m x0 x1 x5) (fun k => by with_reducible exact laws_markIntS.l0.eq_2 _ _ _ _ )) (lim_ite_to (lim_ite_to rfl (lim_const _)) (lim_const _))
theorem laws_markIntS.f.v_eq (l0 : List Int) (a1 : Int) : laws_markIntS.f.v l0 a1 = laws_markIntS.l0.v l0 a1 0 :=
  Eq.trans (b := lim (fun k => laws_markIntS.l0 k l0 a1 0)) (congrArg lim (funext fun k => by with_reducible exact laws_markIntS.f.eq_1 _ _ _ )) rfl
theorem laws_markLadder.f.v_eq (a0_0 : Int) (l0_1 : List Int) (a1 : Int) : laws_markLadder.f.v a0_0 l0_1 a1 = (laws_markIntS.f.v l0_1 a1).bind fun bt238 => (some (bt238.1, bt238.2)) :=
  Eq.trans (b := lim (fun k => (laws_markIntS.f k l0_1 a1).bind fun bt238 => (some (bt238.1, bt238.2)))) (congrArg lim (funext fun k => by with_reducible exact laws_markLadder.f.eq_1 _ _ _ _ )) (lim_bind_to (laws_markIntS.f.m _ _ ) (fun bt238 => (Mono.const _)) (fun bt238 => (lim_const _)))
theorem laws_markText.l0.v_eq (x0 : Int) (x3 : ByteArray) : laws_markText.l0.v x0 x3 = if x0 > 0 then ((some (([(wrap64 (48 + (Int.tmod x0 10))) % 256] : List Int) : List Int)).bind fun y240 => (if (strOfNums y240).size + x3.size ≤ 9223372036854775807 then (laws_markText.l0.v (wrap64 (Int.tdiv x0 10)) ((strOfNums y240) ++ x3)) else (none))) else (if 1 + x3.size ≤ 9223372036854775807 then (some ((⟨#[109]⟩ : ByteArray) ++ x3)) else (none)) :=
  Eq.trans (b := lim (fun k => if x0 > 0 then ((some (([(wrap64 (48 + (Int.tmod x0 10))) % 256] : List Int) : List Int)).bind fun y240 => (if (strOfNums y240).size + x3.size ≤ 9223372036854775807 then (laws_markText.l0 k (wrap64 (Int.tdiv x0 10)) ((strOfNums y240) ++ x3)) else (none))) else (if 1 + x3.size ≤ 9223372036854775807 then (some ((⟨#[109]⟩ : ByteArray) ++ x3)) else (none)))) (lim_eq (laws_markText.l0.m x0 x3) (fun k => by with_reducible exact laws_markText.l0.eq_2 _ _ _ )) (lim_ite_to (lim_bindc_to (fun y240 => (lim_ite_to rfl (lim_const _)))) (lim_const _))
theorem laws_markText.f.v_eq (a0 : Int) : laws_markText.f.v a0 = if a0 ≤ 0 then (some (⟨#[109, 48]⟩ : ByteArray)) else (laws_markText.l0.v a0 (⟨#[]⟩ : ByteArray)) :=
  Eq.trans (b := lim (fun k => if a0 ≤ 0 then (some (⟨#[109, 48]⟩ : ByteArray)) else (laws_markText.l0 k a0 (⟨#[]⟩ : ByteArray)))) (congrArg lim (funext fun k => by with_reducible exact laws_markText.f.eq_1 _ _ )) (lim_ite_to (lim_const _) rfl)
theorem laws_markStringS.l0.v_eq (x0 : List ByteArray) (x1 : Int) (x5 : Int) : laws_markStringS.l0.v x0 x1 x5 = if x5 < (x0.length : Int) then ((laws_markText.f.v x1).bind fun t243 => (if 0 ≤ x5 then (laws_markStringS.l0.v (x0.set (x5 : Int).toNat t243) (wrap64 (x1 + 1)) (wrap64 (x5 + 1))) else (none))) else (some (x1, x0)) :=
  Eq.trans (b := lim (fun k => if x5 < (x0.length : Int) then ((laws_markText.f k x1).bind fun t243 => (if 0 ≤ x5 then (laws_markStringS.l0 k (x0.set (x5 : Int).toNat t243) (wrap64 (x1 + 1)) (wrap64 (x5 + 1))) else (none))) else (some (x1, x0)))) (lim_eq (laws_markStringS.l0.m x0 x1 x5) (fun k => by with_reducible exact laws_markStringS.l0.eq_2 _ _ _ _ )) (lim_ite_to (lim_bind_to (laws_markText.f.m _ ) (fun t243 => (Mono.ite (laws_markStringS.l0.m _ _ _ ) (Mono.const _))) (fun t243 => (lim_ite_to rfl (lim_const _)))) (lim_const _))
theorem laws_markStringS.f.v_eq (l0 : List ByteArray) (a1 : Int) : laws_markStringS.f.v l0 a1 = laws_markStringS.l0.v l0 a1 0 :=
  Eq.trans (b := lim (fun k => laws_markStringS.l0 k l0 a1 0)) (congrArg lim (funext fun k => by with_reducible exact laws_markStringS.f.eq_1 _ _ _ )) rfl
end Go.Proofs.YtldcjlpbodpmbaaDoor.PMv
