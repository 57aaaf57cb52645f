/- Proved: for every input the law FnExactFlipRungs returns true (its plain statement, over numbers and lists). No condition. -/
import Derived.Test.YtmoobmeihckaiaaPFlx3
import Derived.Test.YtmoobmeihckaiaaPFlx6
import Derived.Test.YtmoobmeihckaiaaPFlx7
import Derived.Test.YtmoobmeihckaiaaPFlx8
import Derived.Test.YtmoobmeihckaiaaVFlx1
import Derived.Test.YtmoobmeihckaiaaVFlx2
import Derived.Test.YtmoobmeihckaiaaVFlx4
import Derived.Test.YtmoobmeihckaiaaVFlx8
import Derived.Test.YtmoobmeihckaiaaLadders
import Derived.Test.YtmoobmeihckaiaaMoves
import Derived.Test.YtmoobmeihckaiaaPlain
namespace Go.Proofs.Ytmoobmeihckaiaa.Pure
open Go.RowKit Go.Proofs.Ytmoobmeihckaiaa.PFl Go.Proofs.YtmoobmeihckaiaaW.PrintWords Go.Proofs.YtmoobmeihckaiaaW.PrintLast Go.Proofs.YtmoobmeihckaiaaW.PrintMore Go.Proofs.YtmoobmeihckaiaaL
set_option linter.unusedVariables false
set_option linter.unusedSimpArgs false

theorem impl_canFlip.ok (n : Int) (l : List Int) (a : Int) (hs : ∀ x ∈ l, 0 ≤ x ∧ x ≤ 1000) (hl : l.length ≤ 1000) : impl_canFlip.f n l a = some (flipC l a) := by
  unfold impl_canFlip.f impl_between.f
  rw [wrap_id (x := (l.length : Int) - 3) (by omega) (by omega)]
  by_cases h0 : 0 ≤ a
  · rw [if_pos h0, Option.bind_some]
    by_cases h1 : a + 2 < l.length
    · have b1 := small_rd hs a h0 (by omega)
      have b2 := small_rd hs (a + 1) (by omega) (by omega)
      rw [decide_eq_true (show a ≤ (l.length : Int) - 3 by omega), if_pos rfl, if_pos h0, if_pos (by omega), wrap_id (x := a + 2) (by omega) (by omega), if_pos (by omega), if_pos h1]
      unfold flipC
      by_cases c0 : rd l a = rd l (a + 2)
      · rw [if_pos c0, wrap_id (x := a + 1) (by omega) (by omega), if_pos (by omega), if_pos (by omega), wrap_id (x := rd l a + 1) (by omega) (by omega), wrap_id (x := rd l a - 1) (by omega) (by omega)]
        by_cases c : rd l (a + 1) = rd l a + 1
        · rw [if_pos c, decide_eq_true (p := 0 ≤ a ∧ _) ⟨h0, h1, c0, .inr (by omega)⟩]
        · rw [if_neg c]
          congr 1
          rw [Bool.eq_iff_iff, beq_iff_eq, decide_eq_true_iff]
          constructor
          · intro x; exact ⟨h0, h1, c0, by omega⟩
          · intro x; have := x.2.2.2; omega
      · rw [if_neg c0, decide_eq_false (fun x => c0 x.2.2.1)]
    · rw [decide_eq_false (by omega), if_neg (by simp)]
      unfold flipC
      rw [decide_eq_false (fun x => h1 x.2.1)]
  · rw [if_neg h0, Option.bind_some, if_neg (by simp)]
    unfold flipC
    rw [decide_eq_false (fun x => h0 x.1)]

theorem slices_Clone_int_int.ok (l : List Int) (h : l.length ≤ 1048576) : slices_Clone_int_int.f l = some l := by
  unfold slices_Clone_int_int.f
  rw [if_pos (by omega)]

theorem slices_Replace_int_int.ok (l : List Int) (i : Nat) (x y z : Int) (h : i + 2 < l.length) (hl : l.length ≤ 1000) : slices_Replace_int_int.f l (i : Int) ((i : Int) + 3) [x, y, z] = some (l.take i ++ [x, y, z] ++ l.drop (i + 3)) := by
  unfold slices_Replace_int_int.f
  rw [if_pos (Int.natCast_nonneg i), if_pos (by simp), if_pos (by omega), if_pos (by simp), if_pos (by omega), toNat_cast, show ((i : Int) + 3).toNat = i + 3 by omega]

theorem impl_isLadder.ok (n : Int) (l : List Int) : impl_isLadder.f n l = some (good n l) := by
  unfold impl_isLadder.f good
  have h : (!(l.any (impl_isLadder.bad n))) = l.all (inB n) := by
    rw [List.not_any_eq_all_not]
    congr 1; funext x
    unfold impl_isLadder.bad inB
    exact Bool.not_not _
  rw [h]

theorem impl_flipped.ok (n : Int) (l : List Int) (i : Nat) (h : i + 2 < l.length) (hl : l.length ≤ 1000) : impl_flipped.f n l (i : Int) = some (n, flipL l (i : Int)) := by
  unfold impl_flipped.f
  rw [if_pos (Int.natCast_nonneg i), if_pos (cast_lt (by omega)), wrap_id (x := (i : Int) + 1) (by omega) (by omega), if_pos (by omega), if_pos (by omega), slices_Clone_int_int.ok l (by omega), Option.bind_some, wrap_id (x := (i : Int) + 3) (by omega) (by omega), slices_Replace_int_int.ok l i _ _ _ h hl, Option.bind_some, flipL_eq l i h]
theorem impl_FlipRungs.ok (n : Int) (l : List Int) (a : Int) : impl_FlipRungs.f n l a = some (if good n l = true ∧ flipC l a = true then (n, flipL l a, true) else (0, [], false)) := by
  unfold impl_FlipRungs.f
  rw [impl_isLadder.ok, Option.bind_some]
  by_cases h : good n l = true
  · have g := good_iff.1 h
    rw [if_pos h, impl_canFlip.ok n l a (good_small h) (by omega), Option.bind_some]
    by_cases c : flipC l a = true
    · have c' := of_decide_eq_true c
      have e := impl_flipped.ok n l a.toNat (by omega) (by omega)
      rw [Int.toNat_of_nonneg c'.1] at e
      rw [if_pos c, if_pos ⟨h, c⟩, e]; rfl
    · rw [if_neg c, if_neg (fun x => c x.2)]
  · rw [if_neg h, if_neg (fun x => h x.1)]

theorem laws_eqIntS.ok_l (xs : List Int) (hn : xs.length ≤ 140737488355328) : ∀ (d i : Nat), xs.length - i = d → laws_eqIntS.l0.v xs xs i = some true := by
  intro d
  induction d with
  | zero =>
    intro i hd
    rw [laws_eqIntS.l0.v_eq, if_neg (cast_nlt (by omega))]
  | succ d ih =>
    intro i hd
    have h : i < xs.length := by omega
    rw [laws_eqIntS.l0.v_eq, if_pos (cast_lt h), if_pos (Int.natCast_nonneg i), if_pos (cast_lt h), if_pos rfl, succ_wrap h hn]
    exact ih (i + 1) (by omega)
theorem laws_eqIntS.ok (xs : List Int) (hn : xs.length ≤ 140737488355328) : laws_eqIntS.f.v xs xs = some true := by
  rw [laws_eqIntS.f.v_eq, if_pos rfl]
  exact laws_eqIntS.ok_l xs hn xs.length 0 (by omega)

theorem laws_eqLadder.ok (n : Int) (l : List Int) (h : l.length ≤ 140737488355328) : laws_eqLadder.f.v n l n l = some true := by
  rw [laws_eqLadder.f.v_eq, if_pos rfl, laws_eqIntS.ok l h]; rfl

theorem rd_fromOn (k : Int) : ∀ (n i : Nat), i < n → rd (fromOn k n) (i : Int) = k + i := by
  intro n i h
  induction n generalizing k i with
  | zero => omega
  | succ n ih =>
    cases i with
    | zero => show k = k + ((0 : Nat) : Int); simp
    | succ i =>
      have := ih (k + 1) i (by omega)
      rw [rd_cast] at this ⊢
      rw [fromOn, List.getD_cons_succ, this]; omega
theorem laws_heldIntS.ok_l (n : Nat) (k : Int) (hn : n ≤ 1099511627776) (h0 : 0 ≤ k) (h1 : k ≤ 4398046511104) : ∀ (d i : Nat), i + d = n → laws_heldIntS.l0.v (fromOn k n) (k + i) i = some (k + n) := by
  intro d
  induction d with
  | zero =>
    intro i hd
    rw [laws_heldIntS.l0.v_eq, fromOn_length, if_neg (cast_nlt (by omega)), show i = n by omega]
  | succ d ih =>
    intro i hd
    have h : i < n := by omega
    rw [laws_heldIntS.l0.v_eq, fromOn_length, if_pos (cast_lt h), if_pos (Int.natCast_nonneg i), if_pos (rd_fromOn k n i h), succ_wrap h (by omega), wrap_id (x := k + (i : Int) + 1) (by omega) (by omega), show k + (i : Int) + 1 = k + ((i + 1 : Nat) : Int) by omega]
    exact ih (i + 1) (by omega)
theorem laws_heldIntS.ok (n : Nat) (k : Int) (hn : n ≤ 1099511627776) (h0 : 0 ≤ k) (h1 : k ≤ 4398046511104) : laws_heldIntS.f.v (fromOn k n) k = some (k + n) := by
  rw [laws_heldIntS.f.v_eq]
  have := laws_heldIntS.ok_l n k hn h0 h1 n 0 (by omega)
  simpa using this

theorem laws_markIntS.ok_l : ∀ (d i : Nat) (xs : List Int) (k : Int), i + d = xs.length → xs.length ≤ 1099511627776 → 0 ≤ k → k ≤ 4398046511104 → laws_markIntS.l0.v xs (k + i) i = some (k + (xs.length : Int), xs.take i ++ fromOn (k + i) d) := by
  intro d
  induction d with
  | zero =>
    intro i xs k hd hn h0 h1
    rw [laws_markIntS.l0.v_eq, if_neg (cast_nlt (by omega)), List.take_of_length_le (by omega), show i = xs.length by omega]
    simp [fromOn]
  | succ d ih =>
    intro i xs k hd hn h0 h1
    have h : i < xs.length := by omega
    rw [laws_markIntS.l0.v_eq, if_pos (cast_lt h), if_pos (Int.natCast_nonneg i), succ_wrap h (by omega), toNat_cast, wrap_id (x := k + (i : Int) + 1) (by omega) (by omega), show k + (i : Int) + 1 = k + ((i + 1 : Nat) : Int) by omega, ih (i + 1) _ k (by rw [List.length_set]; omega) (by rw [List.length_set]; omega) h0 h1, List.length_set, fromOn, List.take_succ_eq_append_getElem (by rw [List.length_set]; omega), List.getElem_set_self, List.take_set_of_le (Nat.le_refl i), List.append_assoc, show k + (i : Int) + 1 = k + ((i + 1 : Nat) : Int) by omega]
    rfl
theorem laws_markIntS.ok (xs : List Int) (k : Int) (hn : xs.length ≤ 1099511627776) (h0 : 0 ≤ k) (h1 : k ≤ 4398046511104) : laws_markIntS.f.v xs k = some (k + (xs.length : Int), fromOn k xs.length) := by
  rw [laws_markIntS.f.v_eq]
  have := laws_markIntS.ok_l xs.length 0 xs k (by omega) hn h0 h1
  simpa using this

theorem laws_szLadder.ok (n : Int) (l : List Int) (h : l.length ≤ 1048576) : laws_szLadder.f n l 1048576 = some (1048576 - (l.length : Int)) := by
  unfold laws_szLadder.f laws_szIntS.f
  rw [wrap_id (by omega) (by omega), if_neg (by omega), Option.bind_some, if_neg (by omega)]
theorem laws_szLadder.no (n : Int) (l : List Int) (h : ¬ l.length ≤ 1048576) (h2 : l.length * 8 ≤ 140737488351232) : laws_szLadder.f n l 1048576 = some (-1) := by
  unfold laws_szLadder.f laws_szIntS.f
  rw [wrap_id (by omega) (by omega), if_pos (by omega), Option.bind_some, if_pos (by omega)]

theorem laws_toIntS.ok_l (xs : List Int) (hn : xs.length ≤ 140737488355328) : ∀ (d i : Nat) (ys : List Int), xs.length - i = d → ys.length = xs.length → ys.take i = xs.take i → laws_toIntS.l0.v xs ys i = some xs := by
  intro d
  induction d with
  | zero =>
    intro i ys hd hl ht
    rw [laws_toIntS.l0.v_eq, if_neg (cast_nlt (by omega))]
    rw [List.take_of_length_le (by omega), List.take_of_length_le (by omega)] at ht
    rw [ht]
  | succ d ih =>
    intro i ys hd hl ht
    have h : i < xs.length := by omega
    rw [laws_toIntS.l0.v_eq, if_pos (cast_lt h), if_pos (Int.natCast_nonneg i), if_pos (cast_lt (by omega)), succ_wrap h hn, toNat_cast]
    refine ih (i + 1) _ (by omega) (by rw [List.length_set]; exact hl) ?_
    rw [take_rd xs i h, ← ht, rd_lt xs i h, List.take_succ_eq_append_getElem (by rw [List.length_set]; omega), List.getElem_set_self, List.take_set_of_le (Nat.le_refl i)]
theorem laws_toIntS.ok (xs : List Int) (hn : xs.length ≤ 1048576) : laws_toIntS.f.v xs = some xs := by
  rw [laws_toIntS.f.v_eq, if_pos (Int.natCast_nonneg _), toNat_cast, if_pos (by omega)]
  exact laws_toIntS.ok_l xs (by omega) xs.length 0 _ (by omega) (by simp) (by simp)

theorem laws_toLadder.ok (n : Int) (l : List Int) (h : l.length ≤ 1048576) : laws_toLadder.f.v n l = some (n, l) := by
  rw [laws_toLadder.f.v_eq, laws_toIntS.ok l h]; rfl

theorem spec_l1All.ok_l (a b : Int) (xs : List Int) (hn : xs.length ≤ 140737488355328) : ∀ (d i : Nat), i + d = xs.length → spec_l1All.l0.v a b xs xs.length i = some ((xs.drop i).all fun x => decide (a ≤ x) && decide (x ≤ b)) := by
  intro d
  induction d with
  | zero =>
    intro i hd
    rw [spec_l1All.l0.v_eq, if_neg (cast_nlt (by omega)), List.drop_eq_nil_of_le (by omega)]
    rfl
  | succ d ih =>
    intro i hd
    have h : i < xs.length := by omega
    rw [spec_l1All.l0.v_eq, if_pos (cast_lt h), if_pos (Int.natCast_nonneg i), if_pos (cast_lt h), succ_wrap h hn, ih (i + 1) (by omega), drop_rd xs i h, List.all_cons]
    unfold spec_l1In.f
    by_cases e : a ≤ rd xs (i : Int)
    · rw [if_pos (show rd xs (i : Int) ≥ a from e), Option.bind_some, decide_eq_true e, Bool.true_and]
      by_cases e2 : rd xs (i : Int) ≤ b
      · rw [decide_eq_true e2, if_pos rfl, Bool.true_and]
      · rw [decide_eq_false e2, if_neg (by simp), Bool.false_and]
    · rw [if_neg (show ¬ rd xs (i : Int) ≥ a from e), Option.bind_some, decide_eq_false e, if_neg (by simp), Bool.false_and, Bool.false_and]
theorem spec_l1All.ok (xs : List Int) (a b : Int) (hn : xs.length ≤ 140737488355328) : spec_l1All.f.v xs a b = some (xs.all fun x => decide (a ≤ x) && decide (x ≤ b)) := by
  rw [spec_l1All.f.v_eq]
  have := spec_l1All.ok_l a b xs hn xs.length 0 (by omega)
  simpa using this

theorem spec_laGood.ok (n : Int) (l : List Int) : spec_laGood.f.v n l = some (good n l) := by
  rw [spec_laGood.f.v_eq]
  unfold spec_l1In.f good
  by_cases h1 : 2 ≤ n
  · rw [if_pos (show n ≥ 2 from h1), Option.bind_some, decide_eq_true h1, Bool.true_and]
    by_cases h2 : n ≤ 8
    · rw [decide_eq_true h2, if_pos rfl, Bool.true_and]
      by_cases h3 : l.length ≤ 60
      · rw [if_pos (by omega), decide_eq_true h3, Bool.true_and, spec_l1All.ok l 0 _ (by omega), wrap_id (x := n - 2) (by omega) (by omega)]; rfl
      · rw [if_neg (by omega), decide_eq_false h3, Bool.false_and]
    · rw [decide_eq_false h2, if_neg (by simp), Bool.false_and, Bool.false_and]
  · rw [if_neg (show ¬ n ≥ 2 from h1), Option.bind_some, decide_eq_false h1, if_neg (by simp), Bool.false_and, Bool.false_and, Bool.false_and]

theorem spec_l1Abs.ok (x : Int) (h0 : -1000000 ≤ x) (h1 : x ≤ 1000000) : spec_l1Abs.f x = some (if 0 ≤ x then x else -x) := by
  unfold spec_l1Abs.f spec_l1Most.f
  rw [wrap_id (x := -x) (by omega) (by omega)]
  by_cases h : x > -x
  · rw [if_pos h, Option.bind_some, if_pos (by omega)]
  · rw [if_neg h, Option.bind_some]
    by_cases h2 : 0 ≤ x
    · rw [if_pos h2]; congr 1; omega
    · rw [if_neg h2]

theorem spec_l1Own.ok (l : List Int) (h : l.length ≤ 1048576) : spec_l1Own.f l = some l := by
  unfold spec_l1Own.f
  rw [Option.bind_some, if_pos (by simp; omega)]; rfl

theorem spec_lsFlip.ok (l : List Int) (a : Int) (hs : ∀ x ∈ l, 0 ≤ x ∧ x ≤ 1000) (hl : l.length ≤ 1000) : spec_lsFlip.f l a = some (flipM l a) := by
  unfold spec_lsFlip.f spec_l1In.f flipM
  rw [wrap_id (x := (l.length : Int) - 3) (by omega) (by omega)]
  by_cases h0 : 0 ≤ a
  · rw [if_pos h0, Option.bind_some]
    by_cases h1 : a + 2 < l.length
    · have b1 := small_rd hs a h0 (by omega)
      have b2 := small_rd hs (a + 1) (by omega) (by omega)
      rw [decide_eq_true (show a ≤ (l.length : Int) - 3 by omega), if_pos rfl, if_pos h0, if_pos (by omega), wrap_id (x := a + 2) (by omega) (by omega), if_pos (by omega), if_pos h1, wrap_id (x := a + 1) (by omega) (by omega)]
      by_cases c0 : rd l a = rd l (a + 2)
      · rw [if_pos c0, if_pos (by omega), if_pos (by omega), wrap_id (x := rd l a - rd l (a + 1)) (by omega) (by omega), spec_l1Abs.ok _ (by omega) (by omega), Option.bind_some]
        by_cases c : rd l a - rd l (a + 1) = 1 ∨ rd l (a + 1) - rd l a = 1
        · rw [if_pos (by split <;> omega), spec_l1Own.ok l (by omega), Option.bind_some, if_pos (by omega), if_pos (by omega), if_pos h1, if_pos (show flipC l a = true from decide_eq_true ⟨h0, h1, c0, c⟩)]
          unfold flipL
          rw [show (a + 1).toNat = a.toNat + 1 by omega, show (a + 2).toNat = a.toNat + 2 by omega]
        · rw [if_neg (by split <;> omega), if_neg (show ¬ flipC l a = true from fun x => c (of_decide_eq_true x).2.2.2)]
      · rw [if_neg c0, if_neg (show ¬ flipC l a = true from fun x => c0 (of_decide_eq_true x).2.2.1)]
    · rw [decide_eq_false (by omega), if_neg (by simp), if_neg (show ¬ flipC l a = true from fun x => h1 (of_decide_eq_true x).2.1)]
  · rw [if_neg h0, Option.bind_some, if_neg (by simp), if_neg (show ¬ flipC l a = true from fun x => h0 (of_decide_eq_true x).1)]

theorem spec_FlipRungs.ok (n : Int) (l : List Int) (a : Int) : spec_FlipRungs.f.v n l a = some (if good n l = true ∧ flipC l a = true then (n, flipL l a, true) else (0, [], false)) := by
  rw [spec_FlipRungs.f.v_eq, spec_lsMake.f.v_eq, spec_laGood.ok, Option.bind_some]
  by_cases h : good n l = true
  · have g := good_iff.1 h
    rw [if_pos h, if_neg (by omega), if_pos rfl, spec_lsFlip.ok l a (good_small h) (by omega), Option.bind_some]
    unfold flipM
    by_cases c : flipC l a = true
    · rw [if_pos c, if_pos rfl, if_pos ⟨h, c⟩]; rfl
    · rw [if_neg c, if_neg Bool.false_ne_true, if_neg (fun x => c x.2)]; rfl
  · rw [if_neg h, if_neg (fun x => h x.1)]; rfl

theorem FnExactFlipRungs : laws_FnExactFlipRungs.Pure := by
  intro n l a _ _ hb _ _
  refine laws_FnExactFlipRungs.f.ends n l a ?_
  rw [laws_FnExactFlipRungs.f.v_eq]
  by_cases h : l.length ≤ 1048576
  · obtain ⟨m, r, t, hs, hi, hr⟩ : ∃ m r t, spec_FlipRungs.f.v n l a = some (m, r, t) ∧ impl_FlipRungs.f n l a = some (m, r, t) ∧ r.length ≤ 1048576 := by
      rw [spec_FlipRungs.ok, impl_FlipRungs.ok]
      split
      · rename_i hh
        exact ⟨_, _, _, rfl, rfl, by have := flipL_length l a; have := (good_iff.1 hh.1).2.2.1; omega⟩
      · exact ⟨_, _, _, rfl, rfl, by simp⟩
    have e0 := laws_toLadder.ok n l h
    have e1 := laws_eqLadder.ok n l (by omega)
    have n0 : ¬ ((1048576 : Int) - (l.length : Int) < 0) := by omega
    have n1 : ¬ ((1 : Int) + (l.length : Int) < 0) := by omega
    have n2 : ¬ ((1 : Int) + (r.length : Int) < 0) := by omega
    have e3 := laws_markIntS.ok l 1 (by omega) (by omega) (by omega)
    have e4 := laws_markIntS.ok r 1 (by omega) (by omega) (by omega)
    have e5 := laws_heldIntS.ok r.length 1 (by omega) (by omega) (by omega)
    have e2 := laws_eqLadder.ok m r (by omega)
    simp only [laws_szLadder.ok n l h, e0, e1, hs, hi, if_neg n0, laws_markLadder.f.v_eq, e3, e4, e5, if_neg n1, if_neg n2, e2, laws_heldLadder.f.v_eq, laws_FnExactFlipRungs.j0.v_eq, laws_FnExactFlipRungs.j1.v_eq, laws_FnExactFlipRungs.j2.v_eq, Option.bind_some, bne_self_eq_false, Bool.false_eq_true, if_false, if_true]
  · rw [laws_szLadder.no n l h hb, Option.bind_some, if_pos (by omega)]

end Go.Proofs.Ytmoobmeihckaiaa.Pure
