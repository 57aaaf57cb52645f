/- Proved: for every input the law FnExactMakeMove returns true (its plain statement, over numbers and lists). No condition. -/
import Derived.Test.YtldcjlpbodpmbaaDoorPMmx10
import Derived.Test.YtldcjlpbodpmbaaDoorPMmx11
import Derived.Test.YtldcjlpbodpmbaaDoorPMmx12
import Derived.Test.YtldcjlpbodpmbaaDoorPMmx13
import Derived.Test.YtldcjlpbodpmbaaDoorPMmx14
import Derived.Test.YtldcjlpbodpmbaaDoorPMmx4
import Derived.Test.YtldcjlpbodpmbaaDoorPMmx5
import Derived.Test.YtldcjlpbodpmbaaDoorPMmx8
import Derived.Test.YtldcjlpbodpmbaaDoorPMmx9
import Derived.Test.YtldcjlpbodpmbaaDoorVMmx1
import Derived.Test.YtldcjlpbodpmbaaDoorVMmx14
import Derived.Test.YtldcjlpbodpmbaaDoorVMmx2
import Derived.Test.YtldcjlpbodpmbaaDoorVMmx3
import Derived.Test.YtldcjlpbodpmbaaDoorVMmx6
import Derived.Test.YtldcjlpbodpmbaaDoorVMmx7
import Derived.Test.YtldcjlpbodpmbaaDoorLadders
import Derived.Test.YtldcjlpbodpmbaaDoorMoves
import Derived.Test.YtldcjlpbodpmbaaDoorNums
import Derived.Test.YtldcjlpbodpmbaaDoorPerms
import Derived.Test.YtldcjlpbodpmbaaDoorPlain
import Derived.Test.YtldcjlpbodpmbaaDoorTexts
namespace Go.Proofs.YtldcjlpbodpmbaaDoor.Pure
open Go.RowKit Go.Proofs.YtldcjlpbodpmbaaDoor.PMm Go.Proofs.YtldcjlpbodpmbaaDoorW.PrintWords Go.Proofs.YtldcjlpbodpmbaaDoorW.PrintLast Go.Proofs.YtldcjlpbodpmbaaDoorW.PrintMore Go.Proofs.YtldcjlpbodpmbaaDoorL
set_option linter.unusedVariables false
set_option linter.unusedSimpArgs false

theorem impl_canDrop.ok (n : Int) (l : List Int) (a : Int) (hl : l.length ≤ 1000) : impl_canDrop.f n l a = some (dropC l a) := by
 unfold impl_canDrop.f impl_between.f
 rw [wrap_id (x := (l.length : Int) - 2) (by omega) (by omega)]
 by_cases h0 : 0 ≤ a
 ·rw [if_pos h0, Option.bind_some]
  by_cases h1 : a + 1 < l.length
  ·rw [decide_eq_true (show a ≤ (l.length : Int) - 2 by omega), if_pos rfl, if_pos h0, if_pos (by omega), wrap_id (x := a + 1) (by omega) (by omega), if_pos (by omega), if_pos h1]
   unfold dropC
   congr 1
   rw [Bool.eq_iff_iff, beq_iff_eq, decide_eq_true_iff]
   omega
  ·rw [decide_eq_false (by omega), if_neg (by simp)]
   unfold dropC
   rw [decide_eq_false (fun x => h1 x.2.1)]
 ·rw [if_neg h0, Option.bind_some, if_neg (by simp)]
  unfold dropC
  rw [decide_eq_false (fun x => h0 x.1)]

theorem slices_Clone_int_int.ok (l : List Int) (h : l.length ≤ 1048576) : slices_Clone_int_int.f l = some l := by
 unfold slices_Clone_int_int.f
 rw [if_pos (by omega)]

theorem slices_Delete_int_int.ok (l : List Int) (a b : Int) (h0 : 0 ≤ a) (h1 : a ≤ b) (h2 : b ≤ l.length) : slices_Delete_int_int.f l a b = some (l.take a.toNat ++ l.drop b.toNat) := by
 unfold slices_Delete_int_int.f
 rw [if_pos h0, if_pos h1, if_pos h2]

theorem impl_isLadder.ok (n : Int) (l : List Int) : impl_isLadder.f n l = some (good n l) := by
 unfold impl_isLadder.f good
 have h : (!(l.any (impl_isLadder.bad n))) = l.all (inB n) := by
  rw [List.not_any_eq_all_not]
  congr 1; funext x
  unfold impl_isLadder.bad inB
  exact Bool.not_not _
 rw [h]

theorem impl_DropPair.ok (n : Int) (l : List Int) (a : Int) : impl_DropPair.f n l a = some (if good n l = true ∧ dropC l a = true then (n, dropL l a, true) else (0, [], false)) := by
 unfold impl_DropPair.f
 rw [impl_isLadder.ok, Option.bind_some]
 by_cases h : good n l = true
 ·have g := good_iff.1 h
  rw [if_pos h, impl_canDrop.ok n l a (by omega), Option.bind_some]
  by_cases c : dropC l a = true
  ·have c' := of_decide_eq_true c
   unfold impl_dropped.f
   rw [if_pos c, if_pos ⟨h, c⟩, slices_Clone_int_int.ok l (by omega), Option.bind_some, wrap_id (x := a + 2) (by omega) (by omega), slices_Delete_int_int.ok l a (a + 2) c'.1 (by omega) (by omega), Option.bind_some, Option.bind_some, dropL, show (a + 2).toNat = a.toNat + 2 by omega]
  ·rw [if_neg c, if_neg (fun x => c x.2)]
 ·rw [if_neg h, if_neg (fun x => h x.1)]

theorem impl_canFlip.ok (n : Int) (l : List Int) (a : Int) (hs : ∀ x ∈ l, 0 ≤ x ∧ x ≤ 1000) (hl : l.length ≤ 1000) : impl_canFlip.f n l a = some (flipC l a) := by
 unfold impl_canFlip.f impl_between.f
 rw [wrap_id (x := (l.length : Int) - 3) (by omega) (by omega)]
 by_cases h0 : 0 ≤ a
 ·rw [if_pos h0, Option.bind_some]
  by_cases h1 : a + 2 < l.length
  ·have b1 := small_rd hs a h0 (by omega)
   have b2 := small_rd hs (a + 1) (by omega) (by omega)
   rw [decide_eq_true (show a ≤ (l.length : Int) - 3 by omega), if_pos rfl, if_pos h0, if_pos (by omega), wrap_id (x := a + 2) (by omega) (by omega), if_pos (by omega), if_pos h1]
   unfold flipC
   by_cases c0 : rd l a = rd l (a + 2)
   ·rw [if_pos c0, wrap_id (x := a + 1) (by omega) (by omega), if_pos (by omega), if_pos (by omega), wrap_id (x := rd l a + 1) (by omega) (by omega), wrap_id (x := rd l a - 1) (by omega) (by omega)]
    by_cases c : rd l (a + 1) = rd l a + 1
    ·rw [if_pos c, decide_eq_true (p := 0 ≤ a ∧ _) ⟨h0, h1, c0, .inr (by omega)⟩]
    ·rw [if_neg c]
     congr 1
     rw [Bool.eq_iff_iff, beq_iff_eq, decide_eq_true_iff]
     constructor
     ·intro x; exact ⟨h0, h1, c0, by omega⟩
     ·intro x; have := x.2.2.2; omega
   ·rw [if_neg c0, decide_eq_false (fun x => c0 x.2.2.1)]
  ·rw [decide_eq_false (by omega), if_neg (by simp)]
   unfold flipC
   rw [decide_eq_false (fun x => h1 x.2.1)]
 ·rw [if_neg h0, Option.bind_some, if_neg (by simp)]
  unfold flipC
  rw [decide_eq_false (fun x => h0 x.1)]

theorem slices_Replace_int_int.ok (l : List Int) (i : Nat) (x y z : Int) (h : i + 2 < l.length) (hl : l.length ≤ 1000) : slices_Replace_int_int.f l (i : Int) ((i : Int) + 3) [x, y, z] = some (l.take i ++ [x, y, z] ++ l.drop (i + 3)) := by
 unfold slices_Replace_int_int.f
 rw [if_pos (Int.natCast_nonneg i), if_pos (by simp), if_pos (by omega), if_pos (by simp), if_pos (by omega), toNat_cast, show ((i : Int) + 3).toNat = i + 3 by omega]

theorem impl_flipped.ok (n : Int) (l : List Int) (i : Nat) (h : i + 2 < l.length) (hl : l.length ≤ 1000) : impl_flipped.f n l (i : Int) = some (n, flipL l (i : Int)) := by
 unfold impl_flipped.f
 rw [if_pos (Int.natCast_nonneg i), if_pos (cast_lt (by omega)), wrap_id (x := (i : Int) + 1) (by omega) (by omega), if_pos (by omega), if_pos (by omega), slices_Clone_int_int.ok l (by omega), Option.bind_some, wrap_id (x := (i : Int) + 3) (by omega) (by omega), slices_Replace_int_int.ok l i _ _ _ h hl, Option.bind_some, flipL_eq l i h]
theorem impl_FlipRungs.ok (n : Int) (l : List Int) (a : Int) : impl_FlipRungs.f n l a = some (if good n l = true ∧ flipC l a = true then (n, flipL l a, true) else (0, [], false)) := by
 unfold impl_FlipRungs.f
 rw [impl_isLadder.ok, Option.bind_some]
 by_cases h : good n l = true
 ·have g := good_iff.1 h
  rw [if_pos h, impl_canFlip.ok n l a (good_small h) (by omega), Option.bind_some]
  by_cases c : flipC l a = true
  ·have c' := of_decide_eq_true c
   have e := impl_flipped.ok n l a.toNat (by omega) (by omega)
   rw [Int.toNat_of_nonneg c'.1] at e
   rw [if_pos c, if_pos ⟨h, c⟩, e]; rfl
  ·rw [if_neg c, if_neg (fun x => c x.2)]
 ·rw [if_neg h, if_neg (fun x => h x.1)]

theorem impl_canSlide.ok (n : Int) (l : List Int) (a : Int) (hs : ∀ x ∈ l, 0 ≤ x ∧ x ≤ 1000) (hl : l.length ≤ 1000) : impl_canSlide.f n l a = some (slideC l a) := by
 unfold impl_canSlide.f impl_between.f
 rw [wrap_id (x := (l.length : Int) - 2) (by omega) (by omega)]
 by_cases h0 : 0 ≤ a
 ·rw [if_pos h0, Option.bind_some]
  by_cases h1 : a + 1 < l.length
  ·have b1 := small_rd hs a h0 (by omega)
   have b2 := small_rd hs (a + 1) (by omega) h1
   rw [decide_eq_true (show a ≤ (l.length : Int) - 2 by omega), if_pos rfl, if_pos h0, if_pos (by omega), wrap_id (x := a + 1) (by omega) (by omega), if_pos (by omega), if_pos h1]
   unfold impl_apart.f
   rw [wrap_id (x := rd l a - rd l (a + 1)) (by omega) (by omega), wrap_id (x := rd l (a + 1) - rd l a) (by omega) (by omega)]
   unfold slideC
   by_cases c : rd l a - rd l (a + 1) ≥ 2
   ·rw [if_pos c, Option.bind_some, decide_eq_true (p := 0 ≤ a ∧ _) ⟨h0, h1, .inl c⟩]
   ·rw [if_neg c, Option.bind_some]
    congr 1
    rw [decide_eq_decide]
    omega
  ·rw [decide_eq_false (by omega), if_neg (by simp)]
   unfold slideC
   rw [decide_eq_false (fun x => h1 x.2.1)]
 ·rw [if_neg h0, Option.bind_some, if_neg (by simp)]
  unfold slideC
  rw [decide_eq_false (fun x => h0 x.1)]

theorem impl_exchanged.ok (p : List Int) (j : Nat) (hj : j + 1 < p.length) (hp : p.length ≤ 1048576) : impl_exchanged.f p (j : Int) = some (swp p j (j + 1)) := by
 have e : wrap64 ((j : Int) + 1) = ((j + 1 : Nat) : Int) := succ_wrap (show j < p.length by omega) (by omega)
 unfold impl_exchanged.f
 rw [slices_Clone_int_int.ok p hp, Option.bind_some, e, if_pos (Int.natCast_nonneg _), if_pos (cast_lt hj), if_pos (Int.natCast_nonneg _), if_pos (cast_lt (by omega)), toNat_cast, toNat_cast]
 rfl

theorem impl_SlideRung.ok (n : Int) (l : List Int) (a : Int) : impl_SlideRung.f n l a = some (if good n l = true ∧ slideC l a = true then (n, slideL l a, true) else (0, [], false)) := by
 unfold impl_SlideRung.f
 rw [impl_isLadder.ok, Option.bind_some]
 by_cases h : good n l = true
 ·have g := good_iff.1 h
  rw [if_pos h, impl_canSlide.ok n l a (good_small h) (by omega), Option.bind_some]
  by_cases c : slideC l a = true
  ·have c' := of_decide_eq_true c
   have e := impl_exchanged.ok l a.toNat (by omega) (by omega)
   rw [Int.toNat_of_nonneg c'.1] at e
   unfold impl_slid.f
   rw [if_pos c, if_pos ⟨h, c⟩, e]; rfl
  ·rw [if_neg c, if_neg (fun x => c x.2)]
 ·rw [if_neg h, if_neg (fun x => h x.1)]

theorem impl_readNumber.ok (s : ByteArray) (h : s.size ≤ 1048576) : impl_readNumber.f s = some (rnP s.data.toList) := by
 unfold impl_readNumber.f rnP
 rw [if_pos h, ByteArray.toList_eq]
 cases Lib.atoiAll s.data.toList <;> rfl

theorem impl_MakeMove.ok (n : Int) (l : List Int) (s : ByteArray) (hs : s.size ≤ 1048576) : impl_MakeMove.f n l s = some (moveM n l s.data.toList) := by
 have hz : s.size = s.data.toList.length := rfl
 unfold impl_MakeMove.f
 rw [ByteArray.toList_eq]
 cases hL : s.data.toList with
 | nil => rw [if_pos rfl]; rfl
 | cons k r =>
  have h1 : 1 ≤ s.size := by rw [hz, hL]; simp
  have hx := drop_bytes s h1
  rw [hL, List.drop_succ_cons, List.drop_zero] at hx
  have hy : (s.extract 1 s.size).size ≤ 1048576 := by
   show (s.extract 1 s.size).data.toList.length ≤ _
   rw [hx]; rw [hz, hL, List.length_cons] at hs; omega
  have hk : bt s 0 = (k.toNat : Int) := bt_first hL
  rw [if_neg (by simp), if_pos (by omega), impl_readNumber.ok _ hy, Option.bind_some, hx, hk]
  show _ = some (match num r with | none => (0, [], false) | some x => makeM n l (k.toNat : Int) (x : Int))
  by_cases hb : (rnP r).2 = true
  ·rw [if_pos hb, if_pos (by omega)]
   have hm : ∀ v, (if ((k.toNat : Int)) = 115 then ((impl_SlideRung.f n l v).bind fun bt317 => (some (bt317.1, bt317.2.1, bt317.2.2))) else (if ((k.toNat : Int)) = 102 then ((impl_FlipRungs.f n l v).bind fun bt322 => (some (bt322.1, bt322.2.1, bt322.2.2))) else (if ((k.toNat : Int)) = 100 then ((impl_DropPair.f n l v).bind fun bt327 => (some (bt327.1, bt327.2.1, bt327.2.2))) else (some (0, ([] : List Int), false))))) = some (makeM n l (k.toNat : Int) v) := by
    intro v
    rw [impl_SlideRung.ok, impl_FlipRungs.ok, impl_DropPair.ok]
    unfold makeM
    by_cases c1 : (k.toNat : Int) = 115
    ·rw [if_pos c1, if_pos c1]; rfl
    ·rw [if_neg c1, if_neg c1]
     by_cases c2 : (k.toNat : Int) = 102
     ·rw [if_pos c2, if_pos c2]; rfl
     ·rw [if_neg c2, if_neg c2]
      by_cases c3 : (k.toNat : Int) = 100
      ·rw [if_pos c3, if_pos c3]; rfl
      ·rw [if_neg c3, if_neg c3]
   rw [hm]
   cases hn : num r with
   | some x => rw [rnP_num hn]
   | none => rw [makeM_far (rnP_none hn hb)]
  ·rw [if_neg hb]
   cases hn : num r with
   | some x => rw [rnP_num hn] at hb; exact absurd rfl hb
   | none => rfl

theorem laws_eqIntS.ok_l (xs : List Int) (hn : xs.length ≤ 140737488355328) : ∀ (d i : Nat), xs.length - i = d → laws_eqIntS.l0.v xs xs i = some true := by
 intro d
 induction d with
 | zero =>
  intro i hd
  rw [laws_eqIntS.l0.v_eq, if_neg (cast_nlt (by omega))]
 | succ d ih =>
  intro i hd
  have h : i < xs.length := by omega
  rw [laws_eqIntS.l0.v_eq, if_pos (cast_lt h), if_pos (Int.natCast_nonneg i), if_pos (cast_lt h), if_pos rfl, succ_wrap h hn]
  exact ih (i + 1) (by omega)
theorem laws_eqIntS.ok (xs : List Int) (hn : xs.length ≤ 140737488355328) : laws_eqIntS.f.v xs xs = some true := by
 rw [laws_eqIntS.f.v_eq, if_pos rfl]
 exact laws_eqIntS.ok_l xs hn xs.length 0 (by omega)

theorem laws_eqLadder.ok (n : Int) (l : List Int) (h : l.length ≤ 140737488355328) : laws_eqLadder.f.v n l n l = some true := by
 rw [laws_eqLadder.f.v_eq, if_pos rfl, laws_eqIntS.ok l h]; rfl

theorem rd_fromOn (k : Int) : ∀ (n i : Nat), i < n → rd (fromOn k n) (i : Int) = k + i := by
 intro n i h
 induction n generalizing k i with
 | zero => omega
 | succ n ih =>
  cases i with
  | zero => show k = k + ((0 : Nat) : Int); simp
  | succ i =>
   have := ih (k + 1) i (by omega)
   rw [rd_cast] at this ⊢
   rw [fromOn, List.getD_cons_succ, this]; omega
theorem laws_heldIntS.ok_l (n : Nat) (k : Int) (hn : n ≤ 1099511627776) (h0 : 0 ≤ k) (h1 : k ≤ 4398046511104) : ∀ (d i : Nat), i + d = n → laws_heldIntS.l0.v (fromOn k n) (k + i) i = some (k + n) := by
 intro d
 induction d with
 | zero =>
  intro i hd
  rw [laws_heldIntS.l0.v_eq, fromOn_length, if_neg (cast_nlt (by omega)), show i = n by omega]
 | succ d ih =>
  intro i hd
  have h : i < n := by omega
  rw [laws_heldIntS.l0.v_eq, fromOn_length, if_pos (cast_lt h), if_pos (Int.natCast_nonneg i), if_pos (rd_fromOn k n i h), succ_wrap h (by omega), wrap_id (x := k + (i : Int) + 1) (by omega) (by omega), show k + (i : Int) + 1 = k + ((i + 1 : Nat) : Int) by omega]
  exact ih (i + 1) (by omega)
theorem laws_heldIntS.ok (n : Nat) (k : Int) (hn : n ≤ 1099511627776) (h0 : 0 ≤ k) (h1 : k ≤ 4398046511104) : laws_heldIntS.f.v (fromOn k n) k = some (k + n) := by
 rw [laws_heldIntS.f.v_eq]
 have := laws_heldIntS.ok_l n k hn h0 h1 n 0 (by omega)
 simpa using this

theorem laws_markIntS.ok_l : ∀ (d i : Nat) (xs : List Int) (k : Int), i + d = xs.length → xs.length ≤ 1099511627776 → 0 ≤ k → k ≤ 4398046511104 → laws_markIntS.l0.v xs (k + i) i = some (k + (xs.length : Int), xs.take i ++ fromOn (k + i) d) := by
 intro d
 induction d with
 | zero =>
  intro i xs k hd hn h0 h1
  rw [laws_markIntS.l0.v_eq, if_neg (cast_nlt (by omega)), List.take_of_length_le (by omega), show i = xs.length by omega]
  simp [fromOn]
 | succ d ih =>
  intro i xs k hd hn h0 h1
  have h : i < xs.length := by omega
  rw [laws_markIntS.l0.v_eq, if_pos (cast_lt h), if_pos (Int.natCast_nonneg i), succ_wrap h (by omega), toNat_cast, wrap_id (x := k + (i : Int) + 1) (by omega) (by omega), show k + (i : Int) + 1 = k + ((i + 1 : Nat) : Int) by omega, ih (i + 1) _ k (by rw [List.length_set]; omega) (by rw [List.length_set]; omega) h0 h1, List.length_set, fromOn, List.take_succ_eq_append_getElem (by rw [List.length_set]; omega), List.getElem_set_self, List.take_set_of_le (Nat.le_refl i), List.append_assoc, show k + (i : Int) + 1 = k + ((i + 1 : Nat) : Int) by omega]
  rfl
theorem laws_markIntS.ok (xs : List Int) (k : Int) (hn : xs.length ≤ 1099511627776) (h0 : 0 ≤ k) (h1 : k ≤ 4398046511104) : laws_markIntS.f.v xs k = some (k + (xs.length : Int), fromOn k xs.length) := by
 rw [laws_markIntS.f.v_eq]
 have := laws_markIntS.ok_l xs.length 0 xs k (by omega) hn h0 h1
 simpa using this

theorem laws_szLadder.ok (n : Int) (l : List Int) (h : l.length ≤ 1048576) : laws_szLadder.f n l 1048576 = some (1048576 - (l.length : Int)) := by
 unfold laws_szLadder.f laws_szIntS.f
 rw [wrap_id (by omega) (by omega), if_neg (by omega), Option.bind_some, if_neg (by omega)]
theorem laws_szLadder.no (n : Int) (l : List Int) (h : ¬ l.length ≤ 1048576) (h2 : l.length * 8 ≤ 140737488351232) : laws_szLadder.f n l 1048576 = some (-1) := by
 unfold laws_szLadder.f laws_szIntS.f
 rw [wrap_id (by omega) (by omega), if_pos (by omega), Option.bind_some, if_pos (by omega)]
theorem laws_szLadder.ok' (n : Int) (l : List Int) (t : Int) (ht : 0 ≤ t ∧ t ≤ 1048576) (h : (l.length : Int) ≤ t) : laws_szLadder.f n l t = some (t - (l.length : Int)) := by
 unfold laws_szLadder.f laws_szIntS.f
 rw [wrap_id (by omega) (by omega), if_neg (by omega), Option.bind_some, if_neg (by omega)]
theorem laws_szLadder.no' (n : Int) (l : List Int) (t : Int) (ht : 0 ≤ t ∧ t ≤ 1048576) (h : ¬ (l.length : Int) ≤ t) (h2 : l.length * 8 ≤ 140737488351232) : laws_szLadder.f n l t = some (-1) := by
 unfold laws_szLadder.f laws_szIntS.f
 rw [wrap_id (by omega) (by omega), if_pos (by omega), Option.bind_some, if_pos (by omega)]

theorem laws_toIntS.ok_l (xs : List Int) (hn : xs.length ≤ 140737488355328) : ∀ (d i : Nat) (ys : List Int), xs.length - i = d → ys.length = xs.length → ys.take i = xs.take i → laws_toIntS.l0.v xs ys i = some xs := by
 intro d
 induction d with
 | zero =>
  intro i ys hd hl ht
  rw [laws_toIntS.l0.v_eq, if_neg (cast_nlt (by omega))]
  rw [List.take_of_length_le (by omega), List.take_of_length_le (by omega)] at ht
  rw [ht]
 | succ d ih =>
  intro i ys hd hl ht
  have h : i < xs.length := by omega
  rw [laws_toIntS.l0.v_eq, if_pos (cast_lt h), if_pos (Int.natCast_nonneg i), if_pos (cast_lt (by omega)), succ_wrap h hn, toNat_cast]
  refine ih (i + 1) _ (by omega) (by rw [List.length_set]; exact hl) ?_
  rw [take_rd xs i h, ← ht, rd_lt xs i h, List.take_succ_eq_append_getElem (by rw [List.length_set]; omega), List.getElem_set_self, List.take_set_of_le (Nat.le_refl i)]
theorem laws_toIntS.ok (xs : List Int) (hn : xs.length ≤ 1048576) : laws_toIntS.f.v xs = some xs := by
 rw [laws_toIntS.f.v_eq, if_pos (Int.natCast_nonneg _), toNat_cast, if_pos (by omega)]
 exact laws_toIntS.ok_l xs (by omega) xs.length 0 _ (by omega) (by simp) (by simp)

theorem laws_toLadder.ok (n : Int) (l : List Int) (h : l.length ≤ 1048576) : laws_toLadder.f.v n l = some (n, l) := by
 rw [laws_toLadder.f.v_eq, laws_toIntS.ok l h]; rfl

theorem spec_l1Num.one (x : Int) (h0 : 0 ≤ x) (h1 : x < 10) : spec_l1Num.f.v x = some ⟨(digB x).toArray⟩ := by
 rw [spec_l1Num.f.v_eq, if_pos h1, digB_num x h0 h1]
theorem spec_l1Num.two (i : Nat) (h : i < 100) : spec_l1Num.f.v (i : Int) = some (digT i) := by
 unfold digT
 by_cases h1 : i < 10
 ·rw [spec_l1Num.one _ (by omega) (by omega), Lib.decDigits_one h1]; rfl
 ·have e1 : Int.tdiv (i : Int) 10 = ((i / 10 : Nat) : Int) := by rw [Int.tdiv_eq_ediv_of_nonneg (by omega)]; rfl
  have e2 : Int.tmod (i : Int) 10 = ((i % 10 : Nat) : Int) := by rw [Int.tmod_eq_emod_of_nonneg (by omega)]; rfl
  rw [spec_l1Num.f.v_eq, if_neg (by omega), e1, e2, wrap_id (x := ((i / 10 : Nat) : Int)) (by omega) (by omega), spec_l1Num.one _ (by omega) (by omega), Option.bind_some, Option.bind_some, digB_num _ (by omega) (by omega)]
  rw [if_pos (by show 1 + 1 ≤ _; omega), Lib.decDigits_two h1 h]
  congr 1

theorem spec_l1All.ok_l (a b : Int) (xs : List Int) (hn : xs.length ≤ 140737488355328) : ∀ (d i : Nat), i + d = xs.length → spec_l1All.l0.v a b xs xs.length i = some ((xs.drop i).all fun x => decide (a ≤ x) && decide (x ≤ b)) := by
 intro d
 induction d with
 | zero =>
  intro i hd
  rw [spec_l1All.l0.v_eq, if_neg (cast_nlt (by omega)), List.drop_eq_nil_of_le (by omega)]
  rfl
 | succ d ih =>
  intro i hd
  have h : i < xs.length := by omega
  rw [spec_l1All.l0.v_eq, if_pos (cast_lt h), if_pos (Int.natCast_nonneg i), if_pos (cast_lt h), succ_wrap h hn, ih (i + 1) (by omega), drop_rd xs i h, List.all_cons]
  unfold spec_l1In.f
  by_cases e : a ≤ rd xs (i : Int)
  ·rw [if_pos (show rd xs (i : Int) ≥ a from e), Option.bind_some, decide_eq_true e, Bool.true_and]
   by_cases e2 : rd xs (i : Int) ≤ b
   ·rw [decide_eq_true e2, if_pos rfl, Bool.true_and]
   ·rw [decide_eq_false e2, if_neg (by simp), Bool.false_and]
  ·rw [if_neg (show ¬ rd xs (i : Int) ≥ a from e), Option.bind_some, decide_eq_false e, if_neg (by simp), Bool.false_and, Bool.false_and]
theorem spec_l1All.ok (xs : List Int) (a b : Int) (hn : xs.length ≤ 140737488355328) : spec_l1All.f.v xs a b = some (xs.all fun x => decide (a ≤ x) && decide (x ≤ b)) := by
 rw [spec_l1All.f.v_eq]
 have := spec_l1All.ok_l a b xs hn xs.length 0 (by omega)
 simpa using this

theorem spec_laGood.ok (n : Int) (l : List Int) : spec_laGood.f.v n l = some (good n l) := by
 rw [spec_laGood.f.v_eq]
 unfold spec_l1In.f good
 by_cases h1 : 2 ≤ n
 ·rw [if_pos (show n ≥ 2 from h1), Option.bind_some, decide_eq_true h1, Bool.true_and]
  by_cases h2 : n ≤ 8
  ·rw [decide_eq_true h2, if_pos rfl, Bool.true_and]
   by_cases h3 : l.length ≤ 60
   ·rw [if_pos (by omega), decide_eq_true h3, Bool.true_and, spec_l1All.ok l 0 _ (by omega), wrap_id (x := n - 2) (by omega) (by omega)]; rfl
   ·rw [if_neg (by omega), decide_eq_false h3, Bool.false_and]
  ·rw [decide_eq_false h2, if_neg (by simp), Bool.false_and, Bool.false_and]
 ·rw [if_neg (show ¬ n ≥ 2 from h1), Option.bind_some, decide_eq_false h1, if_neg (by simp), Bool.false_and, Bool.false_and, Bool.false_and]

theorem spec_l1Own.ok (l : List Int) (h : l.length ≤ 1048576) : spec_l1Own.f l = some l := by
 unfold spec_l1Own.f
 rw [Option.bind_some, if_pos (by simp; omega)]; rfl

theorem spec_lsDrop.ok (l : List Int) (a : Int) (hl : l.length ≤ 1000) : spec_lsDrop.f l a = some (dropM l a) := by
 unfold spec_lsDrop.f spec_l1In.f dropM
 rw [wrap_id (x := (l.length : Int) - 2) (by omega) (by omega)]
 by_cases h0 : 0 ≤ a
 ·rw [if_pos h0, Option.bind_some]
  by_cases h1 : a + 1 < l.length
  ·rw [decide_eq_true (show a ≤ (l.length : Int) - 2 by omega), if_pos rfl, if_pos h0, if_pos (by omega), wrap_id (x := a + 1) (by omega) (by omega), if_pos (by omega), if_pos h1]
   by_cases c : rd l a = rd l (a + 1)
   ·rw [if_pos c, if_pos (by omega), spec_l1Own.ok _ (by rw [List.length_take]; omega), Option.bind_some, wrap_id (x := a + 2) (by omega) (by omega), if_pos (by omega), if_pos (by omega), Option.bind_some, if_pos (by rw [List.length_take, List.length_drop]; omega), if_pos (show dropC l a = true from decide_eq_true ⟨h0, h1, c⟩), dropL, show (a + 2).toNat = a.toNat + 2 by omega]
   ·rw [if_neg c, if_neg (show ¬ dropC l a = true from fun x => c (of_decide_eq_true x).2.2)]
  ·rw [decide_eq_false (by omega), if_neg (by simp), if_neg (show ¬ dropC l a = true from fun x => h1 (of_decide_eq_true x).2.1)]
 ·rw [if_neg h0, Option.bind_some, if_neg (by simp), if_neg (show ¬ dropC l a = true from fun x => h0 (of_decide_eq_true x).1)]

theorem spec_l1Abs.ok (x : Int) (h0 : -1000000 ≤ x) (h1 : x ≤ 1000000) : spec_l1Abs.f x = some (if 0 ≤ x then x else -x) := by
 unfold spec_l1Abs.f spec_l1Most.f
 rw [wrap_id (x := -x) (by omega) (by omega)]
 by_cases h : x > -x
 ·rw [if_pos h, Option.bind_some, if_pos (by omega)]
 ·rw [if_neg h, Option.bind_some]
  by_cases h2 : 0 ≤ x
  ·rw [if_pos h2]; congr 1; omega
  ·rw [if_neg h2]

theorem spec_lsFlip.ok (l : List Int) (a : Int) (hs : ∀ x ∈ l, 0 ≤ x ∧ x ≤ 1000) (hl : l.length ≤ 1000) : spec_lsFlip.f l a = some (flipM l a) := by
 unfold spec_lsFlip.f spec_l1In.f flipM
 rw [wrap_id (x := (l.length : Int) - 3) (by omega) (by omega)]
 by_cases h0 : 0 ≤ a
 ·rw [if_pos h0, Option.bind_some]
  by_cases h1 : a + 2 < l.length
  ·have b1 := small_rd hs a h0 (by omega)
   have b2 := small_rd hs (a + 1) (by omega) (by omega)
   rw [decide_eq_true (show a ≤ (l.length : Int) - 3 by omega), if_pos rfl, if_pos h0, if_pos (by omega), wrap_id (x := a + 2) (by omega) (by omega), if_pos (by omega), if_pos h1, wrap_id (x := a + 1) (by omega) (by omega)]
   by_cases c0 : rd l a = rd l (a + 2)
   ·rw [if_pos c0, if_pos (by omega), if_pos (by omega), wrap_id (x := rd l a - rd l (a + 1)) (by omega) (by omega), spec_l1Abs.ok _ (by omega) (by omega), Option.bind_some]
    by_cases c : rd l a - rd l (a + 1) = 1 ∨ rd l (a + 1) - rd l a = 1
    ·rw [if_pos (by split <;> omega), spec_l1Own.ok l (by omega), Option.bind_some, if_pos (by omega), if_pos (by omega), if_pos h1, if_pos (show flipC l a = true from decide_eq_true ⟨h0, h1, c0, c⟩)]
     unfold flipL
     rw [show (a + 1).toNat = a.toNat + 1 by omega, show (a + 2).toNat = a.toNat + 2 by omega]
    ·rw [if_neg (by split <;> omega), if_neg (show ¬ flipC l a = true from fun x => c (of_decide_eq_true x).2.2.2)]
   ·rw [if_neg c0, if_neg (show ¬ flipC l a = true from fun x => c0 (of_decide_eq_true x).2.2.1)]
  ·rw [decide_eq_false (by omega), if_neg (by simp), if_neg (show ¬ flipC l a = true from fun x => h1 (of_decide_eq_true x).2.1)]
 ·rw [if_neg h0, Option.bind_some, if_neg (by simp), if_neg (show ¬ flipC l a = true from fun x => h0 (of_decide_eq_true x).1)]

theorem spec_lsSlide.ok (l : List Int) (a : Int) (hs : ∀ x ∈ l, 0 ≤ x ∧ x ≤ 1000) (hl : l.length ≤ 1000) : spec_lsSlide.f l a = some (slideM l a) := by
 unfold spec_lsSlide.f spec_l1In.f slideM
 rw [wrap_id (x := (l.length : Int) - 2) (by omega) (by omega)]
 by_cases h0 : 0 ≤ a
 ·rw [if_pos h0, Option.bind_some]
  by_cases h1 : a + 1 < l.length
  ·have b1 := small_rd hs a h0 (by omega)
   have b2 := small_rd hs (a + 1) (by omega) h1
   rw [decide_eq_true (show a ≤ (l.length : Int) - 2 by omega), if_pos rfl, if_pos h0, if_pos (by omega), wrap_id (x := a + 1) (by omega) (by omega), if_pos (by omega), if_pos h1, wrap_id (x := rd l a - rd l (a + 1)) (by omega) (by omega), spec_l1Abs.ok _ (by omega) (by omega), Option.bind_some]
   by_cases c : rd l a - rd l (a + 1) ≥ 2 ∨ rd l (a + 1) - rd l a ≥ 2
   ·rw [if_neg (by split <;> omega), spec_l1Own.ok l (by omega), Option.bind_some, if_pos (by omega), if_pos h1, if_pos (show slideC l a = true from decide_eq_true ⟨h0, h1, c⟩)]
    unfold slideL swp
    rw [show (a + 1).toNat = a.toNat + 1 by omega, Int.toNat_of_nonneg h0, show ((a.toNat + 1 : Nat) : Int) = a + 1 by omega]
   ·rw [if_pos (by split <;> omega), if_neg (show ¬ slideC l a = true from fun x => c (of_decide_eq_true x).2.2)]
  ·rw [decide_eq_false (by omega), if_neg (by simp), if_neg (show ¬ slideC l a = true from fun x => h1 (of_decide_eq_true x).2.1)]
 ·rw [if_neg h0, Option.bind_some, if_neg (by simp), if_neg (show ¬ slideC l a = true from fun x => h0 (of_decide_eq_true x).1)]

theorem spec_lsMake.ok (n : Int) (l : List Int) (c a : Int) : spec_lsMake.f.v n l c a = some (makeM n l c a) := by
 rw [spec_lsMake.f.v_eq, spec_laGood.ok, Option.bind_some]
 by_cases h : good n l = true
 ·have g := good_iff.1 h
  unfold makeM
  rw [if_pos h]
  by_cases c1 : c = 115
  ·rw [if_pos c1, if_pos c1, spec_lsSlide.ok l a (good_small h) (by omega), Option.bind_some]
   unfold slideM
   by_cases e : slideC l a = true
   ·rw [if_pos e, if_pos rfl, if_pos ⟨h, e⟩]
   ·rw [if_neg e, if_neg Bool.false_ne_true, if_neg (fun x => e x.2)]
  ·rw [if_neg c1, if_neg c1]
   by_cases c2 : c = 102
   ·rw [if_pos c2, if_pos c2, spec_lsFlip.ok l a (good_small h) (by omega), Option.bind_some]
    unfold flipM
    by_cases e : flipC l a = true
    ·rw [if_pos e, if_pos rfl, if_pos ⟨h, e⟩]
    ·rw [if_neg e, if_neg Bool.false_ne_true, if_neg (fun x => e x.2)]
   ·rw [if_neg c2, if_neg c2]
    by_cases c3 : c = 100
    ·rw [if_pos c3, if_pos c3, spec_lsDrop.ok l a (by omega), Option.bind_some]
     unfold dropM
     by_cases e : dropC l a = true
     ·rw [if_pos e, if_pos rfl, if_pos ⟨h, e⟩]
     ·rw [if_neg e, if_neg Bool.false_ne_true, if_neg (fun x => e x.2)]
    ·rw [if_neg c3, if_neg c3]
 ·rw [if_neg h, makeM_bad h]

theorem spec_MakeMove.ends (n : Int) (l : List Int) (k : UInt8) (r : List UInt8) (s : ByteArray) (hL : s.data.toList = k :: r) (i : Int) (hi : i = (s.size : Int)) (x : Nat) (hx : x < 100) : spec_MakeMove.l0.v s (x : Int) i n l = some (if dL x = r then makeM n l (k.toNat : Int) (x : Int) else (0, [], false)) := by
 have hz : s.size = s.data.toList.length := rfl
 have h1 : 1 ≤ s.size := by rw [hz, hL]; simp
 have hd := drop_bytes s h1
 rw [hL, List.drop_succ_cons, List.drop_zero] at hd
 have hk : bt s 0 = (k.toNat : Int) := bt_first hL
 have ht : (digT x).data.toList = dL x := by rw [← dL_eq hx]; rfl
 rw [spec_MakeMove.l0.v_eq, if_neg (by omega), spec_l1Num.two x hx, Option.bind_some, if_pos (by omega), ByteArray.toList_eq, ByteArray.toList_eq, ht, hd]
 by_cases c : dL x = r
 ·rw [if_pos c, if_pos c, if_pos (by omega), hk, spec_lsMake.ok]; rfl
 ·rw [if_neg c, if_neg c]
theorem spec_MakeMove.ok (n : Int) (l : List Int) (s : ByteArray) : spec_MakeMove.f.v n l s = some (moveM n l s.data.toList) := by
 have hz : s.size = s.data.toList.length := rfl
 rw [spec_MakeMove.f.v_eq, spec_laGood.ok, Option.bind_some]
 have hF : ∀ s, spec_MakeMove.j0.v s true n l = some (0, [], false) := fun s => by rw [spec_MakeMove.j0.v_eq, if_pos rfl]
 by_cases h : good n l = true
 ·rw [if_pos h]
  cases hL : s.data.toList with
  | nil => rw [hL] at hz; have hz2 : s.size = 0 := hz; rw [if_pos (by omega), hF]; rfl
  | cons k r =>
   rw [hL, List.length_cons] at hz
   show _ = some (match num r with | none => (0, [], false) | some x => makeM n l (k.toNat : Int) (x : Int))
   match r, hL, hz with
   | [], hL, hz =>
    have hz2 : s.size = 1 := hz
    rw [if_pos (by omega), hF]
    cases hn : num [] with
    | none => rfl
    | some x => have := num_len hn; simp at this
   | [b], hL, hz =>
    have hz2 : s.size = 2 := hz
    have hb : bt s 1 = (b.toNat : Int) := bt_at1 hL
    rw [if_neg (by omega), decide_eq_false (by omega), spec_MakeMove.j0.v_eq, if_neg Bool.false_ne_true, spec_MakeMove.l0.v_eq, if_pos (by omega), if_pos (by omega), hb, num_one]
    by_cases d0 : b.toNat < 48
    ·rw [if_pos (by omega), if_neg (by omega)]
    ·by_cases d1 : b.toNat > 57
     ·rw [if_neg (by omega), if_pos (by omega), if_neg (by omega)]
     ·have e1 : wrap64 (wrap64 (10 * 0) + ((b.toNat : Int) - 48) % 256) = ((b.toNat - 48 : Nat) : Int) := by
       rw [wrap_id (x := 10 * 0) (by omega) (by omega), wrap_id (by omega) (by omega)]; omega
      have hn : num [b] = some (b.toNat - 48) := by rw [num_one, if_pos (by omega)]
      rw [if_neg (by omega), if_neg (by omega), e1, wrap_id (x := 1 + 1) (by omega) (by omega), spec_MakeMove.ends n l k [b] s hL _ (by omega) _ (by omega), if_pos (num_some hn).2, if_pos (by omega)]
   | [b, c], hL, hz =>
    have hz2 : s.size = 3 := hz
    have hb : bt s 1 = (b.toNat : Int) := bt_at1 hL
    have hc : bt s 2 = (c.toNat : Int) := bt_at2 hL
    rw [if_neg (by omega), decide_eq_false (by omega), spec_MakeMove.j0.v_eq, if_neg Bool.false_ne_true, spec_MakeMove.l0.v_eq, if_pos (by omega), if_pos (by omega), hb]
    by_cases d0 : 48 ≤ b.toNat ∧ b.toNat ≤ 57
    ·have e1 : wrap64 (wrap64 (10 * 0) + ((b.toNat : Int) - 48) % 256) = ((b.toNat - 48 : Nat) : Int) := by
      rw [wrap_id (x := 10 * 0) (by omega) (by omega), wrap_id (by omega) (by omega)]; omega
     rw [if_neg (by omega), if_neg (by omega), e1, wrap_id (x := 1 + 1) (by omega) (by omega), spec_MakeMove.l0.v_eq, if_pos (by omega), if_pos (by omega), show (1 + 1 : Int) = 2 from rfl, hc]
     by_cases d1 : 48 ≤ c.toNat ∧ c.toNat ≤ 57
     ·have e2 : wrap64 (wrap64 (10 * ((b.toNat - 48 : Nat) : Int)) + ((c.toNat : Int) - 48) % 256) = ((10 * (b.toNat - 48) + (c.toNat - 48) : Nat) : Int) := by
       rw [wrap_id (x := 10 * ((b.toNat - 48 : Nat) : Int)) (by omega) (by omega), wrap_id (by omega) (by omega)]; omega
      rw [if_neg (by omega), if_neg (by omega), e2, wrap_id (x := 2 + 1) (by omega) (by omega), spec_MakeMove.ends n l k [b, c] s hL _ (by omega) _ (by omega)]
      by_cases d2 : dL (10 * (b.toNat - 48) + (c.toNat - 48)) = [b, c]
      ·rw [if_pos d2, num_of (by omega) d2]
      ·rw [if_neg d2]
       cases hn : num [b, c] with
       | none => rfl
       | some x =>
        exfalso
        have h3 := num_some hn
        rw [num_two] at hn
        split at hn
        ·rw [← Option.some.inj hn] at h3; exact d2 h3.2
        ·cases hn
     ·have hn : num [b, c] = none := by rw [num_two, if_neg (fun x => d1 x.2.1)]
      rw [hn]
      by_cases d2 : c.toNat < 48
      ·rw [if_pos (by omega)]
      ·rw [if_neg (by omega), if_pos (by omega)]
    ·have hn : num [b, c] = none := by rw [num_two, if_neg (fun x => d0 x.1)]
     rw [hn]
     by_cases d2 : b.toNat < 48
     ·rw [if_pos (by omega)]
     ·rw [if_neg (by omega), if_pos (by omega)]
   | b :: c :: d :: e, hL, hz =>
    simp only [List.length_cons] at hz
    rw [if_neg (by omega), decide_eq_true (by omega), hF]
    cases hn : num (b :: c :: d :: e) with
    | none => rfl
    | some x => have := num_len hn; simp at this
 ·rw [if_neg h, hF]
  congr 1
  unfold moveM
  split
  ·rfl
  ·split
   ·rfl
   ·rw [makeM_bad h]

theorem FnExactMakeMove : laws_FnExactMakeMove.Pure := by
 intro n l s _ _ hb _ _
 refine laws_FnExactMakeMove.f.ends n l s ?_
 rw [laws_FnExactMakeMove.f.v_eq]
 by_cases h0 : (s.size : Int) > 1048576
 ·rw [if_pos h0]
 rw [if_neg h0]
 by_cases h : l.length ≤ 1048576
 ·have hs := spec_MakeMove.ok n l s
  have hi := impl_MakeMove.ok n l s (by omega)
  have hr := moveM_length n l s.data.toList
  generalize moveM n l s.data.toList = z at hs hi hr
  obtain ⟨m, r, t⟩ := z
  replace hr : r.length ≤ 60 := hr
  have e0 := laws_toLadder.ok n l h
  have e1 := laws_eqLadder.ok n l (by omega)
  have n0 : ¬ ((1048576 : Int) - (l.length : Int) < 0) := by omega
  have n1 : ¬ ((1 : Int) + (l.length : Int) < 0) := by omega
  have n2 : ¬ ((1 : Int) + (r.length : Int) < 0) := by omega
  have e3 := laws_markIntS.ok l 1 (by omega) (by omega) (by omega)
  have e4 := laws_markIntS.ok r 1 (by omega) (by omega) (by omega)
  have e5 := laws_heldIntS.ok r.length 1 (by omega) (by omega) (by omega)
  have e2 := laws_eqLadder.ok m r (by omega)
  simp only [laws_szLadder.ok n l h, e0, e1, hs, hi, if_neg n0, laws_markLadder.f.v_eq, e3, e4, e5, if_neg n1, if_neg n2, e2, laws_heldLadder.f.v_eq, laws_FnExactMakeMove.j0.v_eq, laws_FnExactMakeMove.j1.v_eq, laws_FnExactMakeMove.j2.v_eq, Option.bind_some, bne_self_eq_false, Bool.false_eq_true, if_false, if_true]
 ·rw [laws_szLadder.no n l h hb, Option.bind_some, if_pos (by omega)]

end Go.Proofs.YtldcjlpbodpmbaaDoor.Pure
