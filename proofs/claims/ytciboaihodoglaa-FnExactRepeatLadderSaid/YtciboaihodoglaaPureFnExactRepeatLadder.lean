/- Proved: for every input the law FnExactRepeatLadder returns true (its plain statement, over numbers and lists). No condition. -/
import Derived.Test.YtciboaihodoglaaPRpx4
import Derived.Test.YtciboaihodoglaaPRpx6
import Derived.Test.YtciboaihodoglaaVRpx1
import Derived.Test.YtciboaihodoglaaVRpx2
import Derived.Test.YtciboaihodoglaaVRpx3
import Derived.Test.YtciboaihodoglaaVRpx5
import Derived.Test.YtciboaihodoglaaVRpx6
import Derived.Test.YtciboaihodoglaaLadders
import Derived.Test.YtciboaihodoglaaPlain
import Derived.Test.YtciboaihodoglaaRepeats
namespace Go.Proofs.Ytciboaihodoglaa.Pure
open Go.RowKit Go.Proofs.Ytciboaihodoglaa.PRp Go.Proofs.YtciboaihodoglaaW.PrintWords Go.Proofs.YtciboaihodoglaaW.PrintLast Go.Proofs.YtciboaihodoglaaW.PrintMore Go.Proofs.YtciboaihodoglaaL
set_option linter.unusedVariables false
set_option linter.unusedSimpArgs false

theorem impl_isLadder.ok (n : Int) (l : List Int) : impl_isLadder.f n l = some (good n l) := by
  unfold impl_isLadder.f good
  have h : (!(l.any (impl_isLadder.bad n))) = l.all (inB n) := by
    rw [List.not_any_eq_all_not]
    congr 1; funext x
    unfold impl_isLadder.bad inB
    exact Bool.not_not _
  rw [h]

theorem slices_Repeat_int_int.ok (l : List Int) (k : Int) (h0 : 0 ≤ k) (h1 : k ≤ 1000) (hl : l.length ≤ 1000) (hz : k = 0 ∨ 0 < l.length) : slices_Repeat_int_int.f l k = some (repL l k.toNat) := by
  unfold slices_Repeat_int_int.f
  rw [if_pos ⟨h0, h1, hl, hz⟩]
  rfl

theorem impl_RepeatLadder.ok (n : Int) (l : List Int) (k : Int) : impl_RepeatLadder.f.v n l k = some (if good n l = true ∧ canRep l k = true then (n, (if l.length = 0 then [] else repL l k.toNat), true) else (0, [], false)) := by
  rw [impl_RepeatLadder.f.v_eq, impl_isLadder.ok, Option.bind_some]
  by_cases h : good n l = true
  · have g := good_iff.1 h
    rw [if_pos h]
    by_cases h0 : k < 0
    · rw [if_pos h0, impl_RepeatLadder.j0.v_eq, if_pos rfl, if_neg]
      rintro ⟨_, h2⟩
      unfold canRep at h2
      simp only [Bool.and_eq_true, decide_eq_true_eq] at h2
      omega
    · rw [if_neg h0]
      by_cases hl : l.length = 0
      · rw [if_neg (by omega), impl_RepeatLadder.j0.v_eq, if_neg Bool.false_ne_true, if_pos (by omega), slices_Repeat_int_int.ok l 0 (by omega) (by omega) (by omega) (Or.inl rfl), Option.bind_some, if_pos ⟨h, by unfold canRep; simp [hl]; omega⟩, if_pos hl]
        rfl
      · have s := sixty l.length (by omega)
        rw [if_pos (by omega), if_neg (by omega), wrap_id (by omega) (by omega), impl_RepeatLadder.j0.v_eq]
        by_cases h2 : k > (60 : Int) / (l.length : Int)
        · rw [decide_eq_true h2, if_pos rfl, if_neg]
          rintro ⟨_, h3⟩
          unfold canRep at h3
          simp only [Bool.and_eq_true, Bool.or_eq_true, decide_eq_true_eq] at h3
          omega
        · rw [decide_eq_false h2, if_neg Bool.false_ne_true, if_neg (by omega), slices_Repeat_int_int.ok l k (by omega) (by omega) (by omega) (Or.inr (by omega)), Option.bind_some, if_pos ⟨h, by unfold canRep; simp only [Bool.and_eq_true, Bool.or_eq_true, decide_eq_true_eq]; omega⟩, if_neg hl]
  · rw [if_neg h, impl_RepeatLadder.j0.v_eq, if_pos rfl, if_neg (fun x => h x.1)]

theorem laws_eqIntS.ok_l (xs : List Int) (hn : xs.length ≤ 140737488355328) : ∀ (d i : Nat), xs.length - i = d → laws_eqIntS.l0.v xs xs i = some true := by
  intro d
  induction d with
  | zero =>
    intro i hd
    rw [laws_eqIntS.l0.v_eq, if_neg (cast_nlt (by omega))]
  | succ d ih =>
    intro i hd
    have h : i < xs.length := by omega
    rw [laws_eqIntS.l0.v_eq, if_pos (cast_lt h), if_pos (Int.natCast_nonneg i), if_pos (cast_lt h), if_pos rfl, succ_wrap h hn]
    exact ih (i + 1) (by omega)
theorem laws_eqIntS.ok (xs : List Int) (hn : xs.length ≤ 140737488355328) : laws_eqIntS.f.v xs xs = some true := by
  rw [laws_eqIntS.f.v_eq, if_pos rfl]
  exact laws_eqIntS.ok_l xs hn xs.length 0 (by omega)

theorem laws_eqLadder.ok (n : Int) (l : List Int) (h : l.length ≤ 140737488355328) : laws_eqLadder.f.v n l n l = some true := by
  rw [laws_eqLadder.f.v_eq, if_pos rfl, laws_eqIntS.ok l h]; rfl

theorem rd_fromOn (k : Int) : ∀ (n i : Nat), i < n → rd (fromOn k n) (i : Int) = k + i := by
  intro n i h
  induction n generalizing k i with
  | zero => omega
  | succ n ih =>
    cases i with
    | zero => show k = k + ((0 : Nat) : Int); simp
    | succ i =>
      have := ih (k + 1) i (by omega)
      rw [rd_cast] at this ⊢
      rw [fromOn, List.getD_cons_succ, this]; omega
theorem laws_heldIntS.ok_l (n : Nat) (k : Int) (hn : n ≤ 1099511627776) (h0 : 0 ≤ k) (h1 : k ≤ 4398046511104) : ∀ (d i : Nat), i + d = n → laws_heldIntS.l0.v (fromOn k n) (k + i) i = some (k + n) := by
  intro d
  induction d with
  | zero =>
    intro i hd
    rw [laws_heldIntS.l0.v_eq, fromOn_length, if_neg (cast_nlt (by omega)), show i = n by omega]
  | succ d ih =>
    intro i hd
    have h : i < n := by omega
    rw [laws_heldIntS.l0.v_eq, fromOn_length, if_pos (cast_lt h), if_pos (Int.natCast_nonneg i), if_pos (rd_fromOn k n i h), succ_wrap h (by omega), wrap_id (x := k + (i : Int) + 1) (by omega) (by omega), show k + (i : Int) + 1 = k + ((i + 1 : Nat) : Int) by omega]
    exact ih (i + 1) (by omega)
theorem laws_heldIntS.ok (n : Nat) (k : Int) (hn : n ≤ 1099511627776) (h0 : 0 ≤ k) (h1 : k ≤ 4398046511104) : laws_heldIntS.f.v (fromOn k n) k = some (k + n) := by
  rw [laws_heldIntS.f.v_eq]
  have := laws_heldIntS.ok_l n k hn h0 h1 n 0 (by omega)
  simpa using this

theorem laws_markIntS.ok_l : ∀ (d i : Nat) (xs : List Int) (k : Int), i + d = xs.length → xs.length ≤ 1099511627776 → 0 ≤ k → k ≤ 4398046511104 → laws_markIntS.l0.v xs (k + i) i = some (k + (xs.length : Int), xs.take i ++ fromOn (k + i) d) := by
  intro d
  induction d with
  | zero =>
    intro i xs k hd hn h0 h1
    rw [laws_markIntS.l0.v_eq, if_neg (cast_nlt (by omega)), List.take_of_length_le (by omega), show i = xs.length by omega]
    simp [fromOn]
  | succ d ih =>
    intro i xs k hd hn h0 h1
    have h : i < xs.length := by omega
    rw [laws_markIntS.l0.v_eq, if_pos (cast_lt h), if_pos (Int.natCast_nonneg i), succ_wrap h (by omega), toNat_cast, wrap_id (x := k + (i : Int) + 1) (by omega) (by omega), show k + (i : Int) + 1 = k + ((i + 1 : Nat) : Int) by omega, ih (i + 1) _ k (by rw [List.length_set]; omega) (by rw [List.length_set]; omega) h0 h1, List.length_set, fromOn, List.take_succ_eq_append_getElem (by rw [List.length_set]; omega), List.getElem_set_self, List.take_set_of_le (Nat.le_refl i), List.append_assoc, show k + (i : Int) + 1 = k + ((i + 1 : Nat) : Int) by omega]
    rfl
theorem laws_markIntS.ok (xs : List Int) (k : Int) (hn : xs.length ≤ 1099511627776) (h0 : 0 ≤ k) (h1 : k ≤ 4398046511104) : laws_markIntS.f.v xs k = some (k + (xs.length : Int), fromOn k xs.length) := by
  rw [laws_markIntS.f.v_eq]
  have := laws_markIntS.ok_l xs.length 0 xs k (by omega) hn h0 h1
  simpa using this

theorem laws_szLadder.ok (n : Int) (l : List Int) (h : l.length ≤ 1048576) : laws_szLadder.f n l 1048576 = some (1048576 - (l.length : Int)) := by
  unfold laws_szLadder.f laws_szIntS.f
  rw [wrap_id (by omega) (by omega), if_neg (by omega), Option.bind_some, if_neg (by omega)]
theorem laws_szLadder.no (n : Int) (l : List Int) (h : ¬ l.length ≤ 1048576) (h2 : l.length * 8 ≤ 140737488351232) : laws_szLadder.f n l 1048576 = some (-1) := by
  unfold laws_szLadder.f laws_szIntS.f
  rw [wrap_id (by omega) (by omega), if_pos (by omega), Option.bind_some, if_pos (by omega)]

theorem laws_toIntS.ok_l (xs : List Int) (hn : xs.length ≤ 140737488355328) : ∀ (d i : Nat) (ys : List Int), xs.length - i = d → ys.length = xs.length → ys.take i = xs.take i → laws_toIntS.l0.v xs ys i = some xs := by
  intro d
  induction d with
  | zero =>
    intro i ys hd hl ht
    rw [laws_toIntS.l0.v_eq, if_neg (cast_nlt (by omega))]
    rw [List.take_of_length_le (by omega), List.take_of_length_le (by omega)] at ht
    rw [ht]
  | succ d ih =>
    intro i ys hd hl ht
    have h : i < xs.length := by omega
    rw [laws_toIntS.l0.v_eq, if_pos (cast_lt h), if_pos (Int.natCast_nonneg i), if_pos (cast_lt (by omega)), succ_wrap h hn, toNat_cast]
    refine ih (i + 1) _ (by omega) (by rw [List.length_set]; exact hl) ?_
    rw [take_rd xs i h, ← ht, rd_lt xs i h, List.take_succ_eq_append_getElem (by rw [List.length_set]; omega), List.getElem_set_self, List.take_set_of_le (Nat.le_refl i)]
theorem laws_toIntS.ok (xs : List Int) (hn : xs.length ≤ 1048576) : laws_toIntS.f.v xs = some xs := by
  rw [laws_toIntS.f.v_eq, if_pos (Int.natCast_nonneg _), toNat_cast, if_pos (by omega)]
  exact laws_toIntS.ok_l xs (by omega) xs.length 0 _ (by omega) (by simp) (by simp)

theorem laws_toLadder.ok (n : Int) (l : List Int) (h : l.length ≤ 1048576) : laws_toLadder.f.v n l = some (n, l) := by
  rw [laws_toLadder.f.v_eq, laws_toIntS.ok l h]; rfl

theorem spec_l1All.ok_l (a b : Int) (xs : List Int) (hn : xs.length ≤ 140737488355328) : ∀ (d i : Nat), i + d = xs.length → spec_l1All.l0.v a b xs xs.length i = some ((xs.drop i).all fun x => decide (a ≤ x) && decide (x ≤ b)) := by
  intro d
  induction d with
  | zero =>
    intro i hd
    rw [spec_l1All.l0.v_eq, if_neg (cast_nlt (by omega)), List.drop_eq_nil_of_le (by omega)]
    rfl
  | succ d ih =>
    intro i hd
    have h : i < xs.length := by omega
    rw [spec_l1All.l0.v_eq, if_pos (cast_lt h), if_pos (Int.natCast_nonneg i), if_pos (cast_lt h), succ_wrap h hn, ih (i + 1) (by omega), drop_rd xs i h, List.all_cons]
    unfold spec_l1In.f
    by_cases e : a ≤ rd xs (i : Int)
    · rw [if_pos (show rd xs (i : Int) ≥ a from e), Option.bind_some, decide_eq_true e, Bool.true_and]
      by_cases e2 : rd xs (i : Int) ≤ b
      · rw [decide_eq_true e2, if_pos rfl, Bool.true_and]
      · rw [decide_eq_false e2, if_neg (by simp), Bool.false_and]
    · rw [if_neg (show ¬ rd xs (i : Int) ≥ a from e), Option.bind_some, decide_eq_false e, if_neg (by simp), Bool.false_and, Bool.false_and]
theorem spec_l1All.ok (xs : List Int) (a b : Int) (hn : xs.length ≤ 140737488355328) : spec_l1All.f.v xs a b = some (xs.all fun x => decide (a ≤ x) && decide (x ≤ b)) := by
  rw [spec_l1All.f.v_eq]
  have := spec_l1All.ok_l a b xs hn xs.length 0 (by omega)
  simpa using this

theorem spec_laGood.ok (n : Int) (l : List Int) : spec_laGood.f.v n l = some (good n l) := by
  rw [spec_laGood.f.v_eq]
  unfold spec_l1In.f good
  by_cases h1 : 2 ≤ n
  · rw [if_pos (show n ≥ 2 from h1), Option.bind_some, decide_eq_true h1, Bool.true_and]
    by_cases h2 : n ≤ 8
    · rw [decide_eq_true h2, if_pos rfl, Bool.true_and]
      by_cases h3 : l.length ≤ 60
      · rw [if_pos (by omega), decide_eq_true h3, Bool.true_and, spec_l1All.ok l 0 _ (by omega), wrap_id (x := n - 2) (by omega) (by omega)]; rfl
      · rw [if_neg (by omega), decide_eq_false h3, Bool.false_and]
    · rw [decide_eq_false h2, if_neg (by simp), Bool.false_and, Bool.false_and]
  · rw [if_neg (show ¬ n ≥ 2 from h1), Option.bind_some, decide_eq_false h1, if_neg (by simp), Bool.false_and, Bool.false_and, Bool.false_and]

theorem spec_RepeatLadder.ok_l (n : Int) (l : List Int) (hl : 0 < l.length) (hl2 : l.length ≤ 60) (m : Int) : ∀ (d : Nat) (acc : List Int), d ≤ 60 → acc.length + d * l.length ≤ 100000 → spec_RepeatLadder.l0.v (d : Int) n l m acc = some (m, acc ++ repL l d, true) := by
  intro d
  induction d with
  | zero =>
    intro acc _ _
    rw [spec_RepeatLadder.l0.v_eq, if_neg (by omega)]
    simp [repL]
  | succ d ih =>
    intro acc h1 h2
    rw [Nat.succ_mul] at h2
    rw [spec_RepeatLadder.l0.v_eq, if_pos (by omega), if_pos (by omega), if_pos (by omega), wrap_id (x := ((d + 1 : Nat) : Int) - 1) (by omega) (by omega), show ((d + 1 : Nat) : Int) - 1 = (d : Int) by omega, ih _ (by omega) (by rw [List.length_append]; omega), repL_succ, List.append_assoc]
theorem spec_RepeatLadder.ok (n : Int) (l : List Int) (k : Int) : spec_RepeatLadder.f.v n l k = some (if good n l = true ∧ canRep l k = true then (n, (if l.length = 0 then [] else repL l k.toNat), true) else (0, [], false)) := by
  rw [spec_RepeatLadder.f.v_eq, spec_laGood.ok, Option.bind_some]
  by_cases h : good n l = true
  · have g := good_iff.1 h
    rw [if_pos h]
    by_cases h0 : k < 0
    · rw [if_pos h0, spec_RepeatLadder.j0.v_eq, if_pos rfl, if_neg]
      rintro ⟨_, h2⟩
      unfold canRep at h2
      simp only [Bool.and_eq_true, decide_eq_true_eq] at h2
      omega
    · rw [if_neg h0]
      by_cases hl : l.length = 0
      · rw [if_neg (by omega), spec_RepeatLadder.j0.v_eq, if_neg Bool.false_ne_true, spec_RepeatLadder.l0.v_eq, if_neg (show ¬ (l.length : Int) > 0 by omega), ite_self, if_pos ⟨h, by unfold canRep; simp [hl]; omega⟩, if_pos hl]
      · have s := sixty l.length (by omega)
        rw [if_pos (by omega), if_neg (by omega), wrap_id (by omega) (by omega), spec_RepeatLadder.j0.v_eq]
        by_cases h2 : k > (60 : Int) / (l.length : Int)
        · rw [decide_eq_true h2, if_pos rfl, if_neg]
          rintro ⟨_, h3⟩
          unfold canRep at h3
          simp only [Bool.and_eq_true, Bool.or_eq_true, decide_eq_true_eq] at h3
          omega
        · have h5 := Int.toNat_of_nonneg (show 0 ≤ k by omega)
          have e := spec_RepeatLadder.ok_l n l (by omega) g.2.2.1 n k.toNat [] (by omega) (by
            have h6 : k.toNat * l.length ≤ 60 * 60 := Nat.mul_le_mul (by omega) g.2.2.1
            rw [List.length_nil]; omega)
          rw [h5, List.nil_append] at e
          rw [decide_eq_false h2, if_neg Bool.false_ne_true, e, if_pos ⟨h, by unfold canRep; simp only [Bool.and_eq_true, Bool.or_eq_true, decide_eq_true_eq]; omega⟩, if_neg hl]
  · rw [if_neg h, spec_RepeatLadder.j0.v_eq, if_pos rfl, if_neg (fun x => h x.1)]

theorem FnExactRepeatLadder : laws_FnExactRepeatLadder.Pure := by
  intro n l k _ _ hb _ _
  refine laws_FnExactRepeatLadder.f.ends n l k ?_
  rw [laws_FnExactRepeatLadder.f.v_eq]
  by_cases h : l.length ≤ 1048576
  · obtain ⟨m, r, t, hs, hi, hr⟩ : ∃ m r t, spec_RepeatLadder.f.v n l k = some (m, r, t) ∧ impl_RepeatLadder.f.v n l k = some (m, r, t) ∧ r.length ≤ 1048576 := by
      rw [spec_RepeatLadder.ok, impl_RepeatLadder.ok]
      split
      · rename_i hh
        exact ⟨_, _, _, rfl, rfl, by have := repL_small l k hh.2; omega⟩
      · exact ⟨_, _, _, rfl, rfl, by simp⟩
    have e0 := laws_toLadder.ok n l h
    have e1 := laws_eqLadder.ok n l (by omega)
    have n0 : ¬ ((1048576 : Int) - (l.length : Int) < 0) := by omega
    have n1 : ¬ ((1 : Int) + (l.length : Int) < 0) := by omega
    have n2 : ¬ ((1 : Int) + (r.length : Int) < 0) := by omega
    have e3 := laws_markIntS.ok l 1 (by omega) (by omega) (by omega)
    have e4 := laws_markIntS.ok r 1 (by omega) (by omega) (by omega)
    have e5 := laws_heldIntS.ok r.length 1 (by omega) (by omega) (by omega)
    have e2 := laws_eqLadder.ok m r (by omega)
    simp only [laws_szLadder.ok n l h, e0, e1, hs, hi, if_neg n0, laws_markLadder.f.v_eq, e3, e4, e5, if_neg n1, if_neg n2, e2, laws_heldLadder.f.v_eq, laws_FnExactRepeatLadder.j0.v_eq, laws_FnExactRepeatLadder.j1.v_eq, laws_FnExactRepeatLadder.j2.v_eq, Option.bind_some, bne_self_eq_false, Bool.false_eq_true, if_false, if_true]
  · rw [laws_szLadder.no n l h hb, Option.bind_some, if_pos (by omega)]

end Go.Proofs.Ytciboaihodoglaa.Pure
