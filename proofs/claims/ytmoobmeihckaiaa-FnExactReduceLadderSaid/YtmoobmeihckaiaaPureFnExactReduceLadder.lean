/- Proved: for every input the law FnExactReduceLadder returns true (its plain statement, over numbers and lists). No condition. -/
import Derived.Test.YtmoobmeihckaiaaPAllx17
import Derived.Test.YtmoobmeihckaiaaPAllx3
import Derived.Test.YtmoobmeihckaiaaVAllx1
import Derived.Test.YtmoobmeihckaiaaVAllx15
import Derived.Test.YtmoobmeihckaiaaVAllx16
import Derived.Test.YtmoobmeihckaiaaVAllx17
import Derived.Test.YtmoobmeihckaiaaVAllx2
import Derived.Test.YtmoobmeihckaiaaVAllx4
import Derived.Test.YtmoobmeihckaiaaVAllx5
import Derived.Test.YtmoobmeihckaiaaVAllx7
import Derived.Test.YtmoobmeihckaiaaVAllx8
import Derived.Test.YtmoobmeihckaiaaVAllx9
import Derived.Test.YtmoobmeihckaiaaLadders
import Derived.Test.YtmoobmeihckaiaaLeasts
import Derived.Test.YtmoobmeihckaiaaOrders
import Derived.Test.YtmoobmeihckaiaaPerms
import Derived.Test.YtmoobmeihckaiaaPlain
namespace Go.Proofs.Ytmoobmeihckaiaa.Pure
open Go.RowKit Go.Proofs.Ytmoobmeihckaiaa.PAll Go.Proofs.YtmoobmeihckaiaaW.PrintWords Go.Proofs.YtmoobmeihckaiaaW.PrintLast Go.Proofs.YtmoobmeihckaiaaW.PrintMore Go.Proofs.YtmoobmeihckaiaaL
set_option linter.unusedVariables false
set_option linter.unusedSimpArgs false

theorem impl_isLadder.ok (n : Int) (l : List Int) : impl_isLadder.f n l = some (good n l) := by
  unfold impl_isLadder.f good
  have h : (!(l.any (impl_isLadder.bad n))) = l.all (inB n) := by
    rw [List.not_any_eq_all_not]
    congr 1; funext x
    unfold impl_isLadder.bad inB
    exact Bool.not_not _
  rw [h]

theorem impl_descents.ok_l (p : List Int) (h1 : 1 ≤ p.length) (hp : p.length ≤ 1000) : ∀ (d i : Nat) (acc : List Int), i + 1 + d = p.length → acc.length ≤ i → impl_descents.l0.v p acc i = some (acc ++ descGo p d i) := by
  intro d
  induction d with
  | zero =>
    intro i acc hd ha
    rw [impl_descents.l0.v_eq, succ_wrap (show i < p.length by omega) (by omega), if_neg (cast_nlt (by omega)), descGo, List.append_nil]
  | succ d ih =>
    intro i acc hd ha
    rw [impl_descents.l0.v_eq, succ_wrap (show i < p.length by omega) (by omega), if_pos (cast_lt (by omega)), if_pos (Int.natCast_nonneg i), if_pos (cast_lt (by omega)), if_pos (Int.natCast_nonneg _), descGo]
    by_cases e : rd p (i : Int) > rd p ((i : Int) + 1)
    · have e' : rd p (i : Int) > rd p ((i + 1 : Nat) : Int) := e
      rw [if_pos e', if_pos e, if_pos (by omega), ih (i + 1) _ (by omega) (by simp; omega), List.append_assoc]; rfl
    · have e' : ¬ rd p (i : Int) > rd p ((i + 1 : Nat) : Int) := e
      rw [if_neg e', if_neg e, ih (i + 1) _ (by omega) (by omega)]
theorem impl_descents.ok (p : List Int) (h1 : 1 ≤ p.length) (hp : p.length ≤ 1000) : impl_descents.f.v p = some (desc p) := by
  rw [impl_descents.f.v_eq]
  have := impl_descents.ok_l p h1 hp (p.length - 1) 0 [] (by omega) (by simp)
  simpa [desc] using this

theorem slices_Clone_int_int.ok (l : List Int) (h : l.length ≤ 1048576) : slices_Clone_int_int.f l = some l := by
  unfold slices_Clone_int_int.f
  rw [if_pos (by omega)]

theorem impl_exchanged.ok (p : List Int) (j : Nat) (hj : j + 1 < p.length) (hp : p.length ≤ 1048576) : impl_exchanged.f p (j : Int) = some (swp p j (j + 1)) := by
  have e : wrap64 ((j : Int) + 1) = ((j + 1 : Nat) : Int) := succ_wrap (show j < p.length by omega) (by omega)
  unfold impl_exchanged.f
  rw [slices_Clone_int_int.ok p hp, Option.bind_some, e, if_pos (Int.natCast_nonneg _), if_pos (cast_lt hj), if_pos (Int.natCast_nonneg _), if_pos (cast_lt (by omega)), toNat_cast, toNat_cast]
  rfl

theorem impl_least.ok_l (n : Int) : ∀ (k : Nat) (p acc : List Int), invC p = k → 1 ≤ p.length → p.length ≤ 8 → acc.length + k ≤ 1000 → impl_least.l0.v p (desc p) n acc = some (n, acc ++ leastL p) := by
  intro k
  induction k with
  | zero =>
    intro p acc hk h1 h8 ha
    cases e : desc p with
    | nil => rw [impl_least.l0.v_eq, if_neg (by simp), leastL_nil e, List.append_nil]
    | cons a r => obtain ⟨j, _, _, _, hc⟩ := desc_head e; omega
  | succ k ih =>
    intro p acc hk h1 h8 ha
    cases e : desc p with
    | nil => rw [impl_least.l0.v_eq, if_neg (by simp), leastL_nil e, List.append_nil]
    | cons a r =>
      rw [leastL_cons e]
      obtain ⟨j, rfl, hj, hr, hc⟩ := desc_head e
      have e0 : rd ((j : Int) :: r) 0 = (j : Int) := rfl
      rw [impl_least.l0.v_eq, if_pos (by simp), if_pos (by simp), if_pos (by omega), e0, impl_exchanged.ok p j hj (by omega), Option.bind_some, impl_descents.ok _ (by rw [swp_length]; omega) (by rw [swp_length]; omega), Option.bind_some, ih _ _ (by omega) (by rw [swp_length]; omega) (by rw [swp_length]; omega) (by simp; omega), List.append_assoc, toNat_cast]
      rfl
theorem impl_least.ok (p : List Int) (h1 : 1 ≤ p.length) (h8 : p.length ≤ 8) : impl_least.f.v p = some ((p.length : Int), leastL p) := by
  have := invC_le p h8
  rw [impl_least.f.v_eq, impl_descents.ok p h1 (by omega), Option.bind_some, impl_least.ok_l _ _ p [] rfl h1 h8 (by simp; omega), List.nil_append]

theorem impl_over.ok (w r : Int) (h0 : -1000 ≤ r) (h1 : r ≤ 1000) : impl_over.f w r = some (over w r) := by
  unfold impl_over.f over
  rw [wrap_id (x := r + 1) (by omega) (by omega)]
  by_cases a : w = r
  · rw [if_pos a, if_pos a]
  · rw [if_neg a, if_neg a]
    by_cases b : w = r + 1
    · rw [if_pos b, if_pos b]
    · rw [if_neg b, if_neg b]

theorem impl_way.ok_l (xs : List Int) (hn : xs.length ≤ 1000) (hb : ∀ x ∈ xs, -1000 ≤ x ∧ x ≤ 1000) : ∀ (d i : Nat) (w : Int) (acc : List Int), i + d = xs.length → acc.length ≤ i + 1 → impl_way.l0.v w acc xs xs.length i = some (acc ++ wayT w (xs.drop i)) := by
  intro d
  induction d with
  | zero =>
    intro i w acc hd ha
    rw [impl_way.l0.v_eq, if_neg (cast_nlt (by omega)), List.drop_eq_nil_of_le (by omega), wayT, List.append_nil]
  | succ d ih =>
    intro i w acc hd ha
    have h : i < xs.length := by omega
    obtain ⟨h0, h1⟩ := hb _ (rd_mem xs i h)
    rw [impl_way.l0.v_eq, if_pos (cast_lt h), if_pos (Int.natCast_nonneg i), if_pos (cast_lt h), impl_over.ok w _ h0 h1, Option.bind_some, if_pos (by omega), succ_wrap h (by omega), ih (i + 1) _ _ (by omega) (by simp; omega), drop_rd xs i h, wayT, List.append_assoc]
    rfl
theorem impl_way.ok (n : Int) (xs : List Int) (w : Int) (hn : xs.length ≤ 1000) (hb : ∀ x ∈ xs, -1000 ≤ x ∧ x ≤ 1000) : impl_way.f.v n xs w = some (wayL w xs) := by
  rw [impl_way.f.v_eq]
  have := impl_way.ok_l xs hn hb xs.length 0 w [w] (by omega) (by simp)
  simpa [wayL] using this
theorem good_wide' {n : Int} {l : List Int} (h : good n l = true) : l.length ≤ 1000 ∧ ∀ x ∈ l, -1000 ≤ x ∧ x ≤ 1000 := by
  obtain ⟨_, h2, h3, h4⟩ := good_iff.1 h
  exact ⟨by omega, fun x hx => by have := h4 x hx; omega⟩

theorem impl_result.ok_l (n : Int) (l : List Int) (hg : good n l = true) : ∀ (d i : Nat) (acc : List Int), i + d = n.toNat → acc.length ≤ i → impl_result.l0.v n l acc n i = some (acc ++ resGo l d i) := by
  obtain ⟨g1, g2, _, _⟩ := good_iff.1 hg
  obtain ⟨h1, h2⟩ := good_wide' hg
  intro d
  induction d with
  | zero =>
    intro i acc hd ha
    rw [impl_result.l0.v_eq, if_neg (by omega), resGo, List.append_nil]
  | succ d ih =>
    intro i acc hd ha
    rw [impl_result.l0.v_eq, if_pos (by omega), impl_way.ok n l _ h1 h2, Option.bind_some, wayL_length, wrap_id (x := ((l.length + 1 : Nat) : Int) - 1) (by omega) (by omega), show ((l.length + 1 : Nat) : Int) - 1 = (l.length : Int) by omega, if_pos (Int.natCast_nonneg _), if_pos (by omega), if_pos (by omega), wayL_last, succ_wrap (show i < n.toNat by omega) (by omega), ih (i + 1) _ (by omega) (by simp; omega), resGo, List.append_assoc]; rfl
theorem impl_result.ok (n : Int) (l : List Int) (hg : good n l = true) : impl_result.f.v n l = some (resL n l) := by
  rw [impl_result.f.v_eq]
  have := impl_result.ok_l n l hg n.toNat 0 [] (by omega) (by simp)
  simpa [resL] using this

theorem impl_ReduceLadder.ok (n : Int) (l : List Int) : impl_ReduceLadder.f.v n l = some (if good n l = true then (n, leastL (resL n l), true) else (0, [], false)) := by
  rw [impl_ReduceLadder.f.v_eq, impl_isLadder.ok, Option.bind_some]
  by_cases h : good n l = true
  · have g := good_iff.1 h
    rw [if_pos h, if_pos h, impl_result.ok n l h, Option.bind_some, impl_least.ok _ (by rw [resL_length]; omega) (by rw [resL_length]; omega), resL_length, Int.toNat_of_nonneg (by omega)]; rfl
  · rw [if_neg h, if_neg h]

theorem laws_eqIntS.ok_l (xs : List Int) (hn : xs.length ≤ 140737488355328) : ∀ (d i : Nat), xs.length - i = d → laws_eqIntS.l0.v xs xs i = some true := by
  intro d
  induction d with
  | zero =>
    intro i hd
    rw [laws_eqIntS.l0.v_eq, if_neg (cast_nlt (by omega))]
  | succ d ih =>
    intro i hd
    have h : i < xs.length := by omega
    rw [laws_eqIntS.l0.v_eq, if_pos (cast_lt h), if_pos (Int.natCast_nonneg i), if_pos (cast_lt h), if_pos rfl, succ_wrap h hn]
    exact ih (i + 1) (by omega)
theorem laws_eqIntS.ok (xs : List Int) (hn : xs.length ≤ 140737488355328) : laws_eqIntS.f.v xs xs = some true := by
  rw [laws_eqIntS.f.v_eq, if_pos rfl]
  exact laws_eqIntS.ok_l xs hn xs.length 0 (by omega)

theorem laws_eqLadder.ok (n : Int) (l : List Int) (h : l.length ≤ 140737488355328) : laws_eqLadder.f.v n l n l = some true := by
  rw [laws_eqLadder.f.v_eq, if_pos rfl, laws_eqIntS.ok l h]; rfl

theorem rd_fromOn (k : Int) : ∀ (n i : Nat), i < n → rd (fromOn k n) (i : Int) = k + i := by
  intro n i h
  induction n generalizing k i with
  | zero => omega
  | succ n ih =>
    cases i with
    | zero => show k = k + ((0 : Nat) : Int); simp
    | succ i =>
      have := ih (k + 1) i (by omega)
      rw [rd_cast] at this ⊢
      rw [fromOn, List.getD_cons_succ, this]; omega
theorem laws_heldIntS.ok_l (n : Nat) (k : Int) (hn : n ≤ 1099511627776) (h0 : 0 ≤ k) (h1 : k ≤ 4398046511104) : ∀ (d i : Nat), i + d = n → laws_heldIntS.l0.v (fromOn k n) (k + i) i = some (k + n) := by
  intro d
  induction d with
  | zero =>
    intro i hd
    rw [laws_heldIntS.l0.v_eq, fromOn_length, if_neg (cast_nlt (by omega)), show i = n by omega]
  | succ d ih =>
    intro i hd
    have h : i < n := by omega
    rw [laws_heldIntS.l0.v_eq, fromOn_length, if_pos (cast_lt h), if_pos (Int.natCast_nonneg i), if_pos (rd_fromOn k n i h), succ_wrap h (by omega), wrap_id (x := k + (i : Int) + 1) (by omega) (by omega), show k + (i : Int) + 1 = k + ((i + 1 : Nat) : Int) by omega]
    exact ih (i + 1) (by omega)
theorem laws_heldIntS.ok (n : Nat) (k : Int) (hn : n ≤ 1099511627776) (h0 : 0 ≤ k) (h1 : k ≤ 4398046511104) : laws_heldIntS.f.v (fromOn k n) k = some (k + n) := by
  rw [laws_heldIntS.f.v_eq]
  have := laws_heldIntS.ok_l n k hn h0 h1 n 0 (by omega)
  simpa using this

theorem laws_markIntS.ok_l : ∀ (d i : Nat) (xs : List Int) (k : Int), i + d = xs.length → xs.length ≤ 1099511627776 → 0 ≤ k → k ≤ 4398046511104 → laws_markIntS.l0.v xs (k + i) i = some (k + (xs.length : Int), xs.take i ++ fromOn (k + i) d) := by
  intro d
  induction d with
  | zero =>
    intro i xs k hd hn h0 h1
    rw [laws_markIntS.l0.v_eq, if_neg (cast_nlt (by omega)), List.take_of_length_le (by omega), show i = xs.length by omega]
    simp [fromOn]
  | succ d ih =>
    intro i xs k hd hn h0 h1
    have h : i < xs.length := by omega
    rw [laws_markIntS.l0.v_eq, if_pos (cast_lt h), if_pos (Int.natCast_nonneg i), succ_wrap h (by omega), toNat_cast, wrap_id (x := k + (i : Int) + 1) (by omega) (by omega), show k + (i : Int) + 1 = k + ((i + 1 : Nat) : Int) by omega, ih (i + 1) _ k (by rw [List.length_set]; omega) (by rw [List.length_set]; omega) h0 h1, List.length_set, fromOn, List.take_succ_eq_append_getElem (by rw [List.length_set]; omega), List.getElem_set_self, List.take_set_of_le (Nat.le_refl i), List.append_assoc, show k + (i : Int) + 1 = k + ((i + 1 : Nat) : Int) by omega]
    rfl
theorem laws_markIntS.ok (xs : List Int) (k : Int) (hn : xs.length ≤ 1099511627776) (h0 : 0 ≤ k) (h1 : k ≤ 4398046511104) : laws_markIntS.f.v xs k = some (k + (xs.length : Int), fromOn k xs.length) := by
  rw [laws_markIntS.f.v_eq]
  have := laws_markIntS.ok_l xs.length 0 xs k (by omega) hn h0 h1
  simpa using this

theorem laws_szLadder.ok (n : Int) (l : List Int) (h : l.length ≤ 1048576) : laws_szLadder.f n l 1048576 = some (1048576 - (l.length : Int)) := by
  unfold laws_szLadder.f laws_szIntS.f
  rw [wrap_id (by omega) (by omega), if_neg (by omega), Option.bind_some, if_neg (by omega)]
theorem laws_szLadder.no (n : Int) (l : List Int) (h : ¬ l.length ≤ 1048576) (h2 : l.length * 8 ≤ 140737488351232) : laws_szLadder.f n l 1048576 = some (-1) := by
  unfold laws_szLadder.f laws_szIntS.f
  rw [wrap_id (by omega) (by omega), if_pos (by omega), Option.bind_some, if_pos (by omega)]

theorem laws_toIntS.ok_l (xs : List Int) (hn : xs.length ≤ 140737488355328) : ∀ (d i : Nat) (ys : List Int), xs.length - i = d → ys.length = xs.length → ys.take i = xs.take i → laws_toIntS.l0.v xs ys i = some xs := by
  intro d
  induction d with
  | zero =>
    intro i ys hd hl ht
    rw [laws_toIntS.l0.v_eq, if_neg (cast_nlt (by omega))]
    rw [List.take_of_length_le (by omega), List.take_of_length_le (by omega)] at ht
    rw [ht]
  | succ d ih =>
    intro i ys hd hl ht
    have h : i < xs.length := by omega
    rw [laws_toIntS.l0.v_eq, if_pos (cast_lt h), if_pos (Int.natCast_nonneg i), if_pos (cast_lt (by omega)), succ_wrap h hn, toNat_cast]
    refine ih (i + 1) _ (by omega) (by rw [List.length_set]; exact hl) ?_
    rw [take_rd xs i h, ← ht, rd_lt xs i h, List.take_succ_eq_append_getElem (by rw [List.length_set]; omega), List.getElem_set_self, List.take_set_of_le (Nat.le_refl i)]
theorem laws_toIntS.ok (xs : List Int) (hn : xs.length ≤ 1048576) : laws_toIntS.f.v xs = some xs := by
  rw [laws_toIntS.f.v_eq, if_pos (Int.natCast_nonneg _), toNat_cast, if_pos (by omega)]
  exact laws_toIntS.ok_l xs (by omega) xs.length 0 _ (by omega) (by simp) (by simp)

theorem laws_toLadder.ok (n : Int) (l : List Int) (h : l.length ≤ 1048576) : laws_toLadder.f.v n l = some (n, l) := by
  rw [laws_toLadder.f.v_eq, laws_toIntS.ok l h]; rfl

theorem spec_l1All.ok_l (a b : Int) (xs : List Int) (hn : xs.length ≤ 140737488355328) : ∀ (d i : Nat), i + d = xs.length → spec_l1All.l0.v a b xs xs.length i = some ((xs.drop i).all fun x => decide (a ≤ x) && decide (x ≤ b)) := by
  intro d
  induction d with
  | zero =>
    intro i hd
    rw [spec_l1All.l0.v_eq, if_neg (cast_nlt (by omega)), List.drop_eq_nil_of_le (by omega)]
    rfl
  | succ d ih =>
    intro i hd
    have h : i < xs.length := by omega
    rw [spec_l1All.l0.v_eq, if_pos (cast_lt h), if_pos (Int.natCast_nonneg i), if_pos (cast_lt h), succ_wrap h hn, ih (i + 1) (by omega), drop_rd xs i h, List.all_cons]
    unfold spec_l1In.f
    by_cases e : a ≤ rd xs (i : Int)
    · rw [if_pos (show rd xs (i : Int) ≥ a from e), Option.bind_some, decide_eq_true e, Bool.true_and]
      by_cases e2 : rd xs (i : Int) ≤ b
      · rw [decide_eq_true e2, if_pos rfl, Bool.true_and]
      · rw [decide_eq_false e2, if_neg (by simp), Bool.false_and]
    · rw [if_neg (show ¬ rd xs (i : Int) ≥ a from e), Option.bind_some, decide_eq_false e, if_neg (by simp), Bool.false_and, Bool.false_and]
theorem spec_l1All.ok (xs : List Int) (a b : Int) (hn : xs.length ≤ 140737488355328) : spec_l1All.f.v xs a b = some (xs.all fun x => decide (a ≤ x) && decide (x ≤ b)) := by
  rw [spec_l1All.f.v_eq]
  have := spec_l1All.ok_l a b xs hn xs.length 0 (by omega)
  simpa using this

theorem spec_laGood.ok (n : Int) (l : List Int) : spec_laGood.f.v n l = some (good n l) := by
  rw [spec_laGood.f.v_eq]
  unfold spec_l1In.f good
  by_cases h1 : 2 ≤ n
  · rw [if_pos (show n ≥ 2 from h1), Option.bind_some, decide_eq_true h1, Bool.true_and]
    by_cases h2 : n ≤ 8
    · rw [decide_eq_true h2, if_pos rfl, Bool.true_and]
      by_cases h3 : l.length ≤ 60
      · rw [if_pos (by omega), decide_eq_true h3, Bool.true_and, spec_l1All.ok l 0 _ (by omega), wrap_id (x := n - 2) (by omega) (by omega)]; rfl
      · rw [if_neg (by omega), decide_eq_false h3, Bool.false_and]
    · rw [decide_eq_false h2, if_neg (by simp), Bool.false_and, Bool.false_and]
  · rw [if_neg (show ¬ n ≥ 2 from h1), Option.bind_some, decide_eq_false h1, if_neg (by simp), Bool.false_and, Bool.false_and, Bool.false_and]

theorem spec_laOver.ok (w r : Int) (h0 : -1000 ≤ r) (h1 : r ≤ 1000) : spec_laOver.f w r = some (over w r) := by
  unfold spec_laOver.f over
  rw [wrap_id (x := r + 1) (by omega) (by omega)]
  by_cases a : w = r
  · rw [if_pos a, if_pos a]
  · rw [if_neg a, if_neg a]
    by_cases b : w = r + 1
    · rw [if_pos b, if_pos b]
    · rw [if_neg b, if_neg b]

theorem spec_laDown.ok_l (xs : List Int) (hn : xs.length ≤ 1000) (hb : ∀ x ∈ xs, -1000 ≤ x ∧ x ≤ 1000) : ∀ (d i : Nat) (w : Int) (acc : List Int), i + d = xs.length → acc.length ≤ i + 1 → spec_laDown.l0.v w acc xs xs.length i = some (acc ++ wayT w (xs.drop i)) := by
  intro d
  induction d with
  | zero =>
    intro i w acc hd ha
    rw [spec_laDown.l0.v_eq, if_neg (cast_nlt (by omega)), List.drop_eq_nil_of_le (by omega), wayT, List.append_nil]
  | succ d ih =>
    intro i w acc hd ha
    have h : i < xs.length := by omega
    obtain ⟨h0, h1⟩ := hb _ (rd_mem xs i h)
    rw [spec_laDown.l0.v_eq, if_pos (cast_lt h), if_pos (Int.natCast_nonneg i), if_pos (cast_lt h), spec_laOver.ok w _ h0 h1, Option.bind_some, if_pos (by omega), succ_wrap h (by omega), ih (i + 1) _ _ (by omega) (by simp; omega), drop_rd xs i h, wayT, List.append_assoc]
    rfl
theorem spec_laDown.ok (xs : List Int) (w : Int) (hn : xs.length ≤ 1000) (hb : ∀ x ∈ xs, -1000 ≤ x ∧ x ≤ 1000) : spec_laDown.f.v xs w = some (wayL w xs) := by
  rw [spec_laDown.f.v_eq]
  have := spec_laDown.ok_l xs hn hb xs.length 0 w [w] (by omega) (by simp)
  simpa [wayL] using this
theorem good_wide {n : Int} {l : List Int} (h : good n l = true) : l.length ≤ 1000 ∧ ∀ x ∈ l, -1000 ≤ x ∧ x ≤ 1000 := by
  obtain ⟨_, h2, h3, h4⟩ := good_iff.1 h
  exact ⟨by omega, fun x hx => by have := h4 x hx; omega⟩

theorem spec_laResult.ok_l (n : Int) (l : List Int) (hg : good n l = true) : ∀ (d i : Nat) (acc : List Int), i + d = n.toNat → acc.length ≤ i → spec_laResult.l0.v n l acc i = some (acc ++ resGo l d i) := by
  obtain ⟨g1, g2, _, _⟩ := good_iff.1 hg
  obtain ⟨h1, h2⟩ := good_wide hg
  intro d
  induction d with
  | zero =>
    intro i acc hd ha
    rw [spec_laResult.l0.v_eq, if_neg (by omega), resGo, List.append_nil]
  | succ d ih =>
    intro i acc hd ha
    rw [spec_laResult.l0.v_eq, if_pos (by omega), spec_laDown.ok l _ h1 h2, Option.bind_some, if_pos (Int.natCast_nonneg _), if_pos (by rw [wayL_length]; omega), if_pos (by omega), wayL_last, succ_wrap (show i < n.toNat by omega) (by omega), ih (i + 1) _ (by omega) (by simp; omega), resGo, List.append_assoc]; rfl
theorem spec_laResult.ok (n : Int) (l : List Int) (hg : good n l = true) : spec_laResult.f.v n l = some (resL n l) := by
  rw [spec_laResult.f.v_eq]
  have := spec_laResult.ok_l n l hg n.toNat 0 [] (by omega) (by simp)
  simpa [resL] using this

theorem spec_l1Own.ok (l : List Int) (h : l.length ≤ 1048576) : spec_l1Own.f l = some l := by
  unfold spec_l1Own.f
  rw [Option.bind_some, if_pos (by simp; omega)]; rfl

theorem spec_lsFirst.ok_j (p acc : List Int) (j : Nat) (i : Int) (hj : j + 1 < p.length) (hp : p.length ≤ 1000) (ha : acc.length ≤ 1000) : spec_lsFirst.j2.v p acc (j : Int) i false = spec_lsFirst.l0.v (swp p j (j + 1)) (acc ++ [(j : Int)]) := by
  have e : wrap64 ((j : Int) + 1) = ((j + 1 : Nat) : Int) := succ_wrap (show j < p.length by omega) (by omega)
  rw [spec_lsFirst.j2.v_eq, if_neg (by simp), if_neg (by omega), if_pos (Int.natCast_nonneg _), if_pos (cast_lt (by omega)), e, if_pos (Int.natCast_nonneg _), if_pos (cast_lt hj), if_pos (by omega), toNat_cast, toNat_cast]
  rfl
theorem spec_lsFirst.ok_1 (p acc : List Int) (h1 : 1 ≤ p.length) (hp : p.length ≤ 1000) (ha : acc.length ≤ 1000) : ∀ (d i : Nat), i + 1 + d = p.length → spec_lsFirst.l1.v p acc (-1) (i : Int) = (match descGo p d i with | [] => some acc | a :: _ => spec_lsFirst.l0.v (swp p a.toNat (a.toNat + 1)) (acc ++ [a])) := by
  intro d
  induction d with
  | zero =>
    intro i hd
    rw [spec_lsFirst.l1.v_eq, succ_wrap (show i < p.length by omega) (by omega), if_neg (cast_nlt (by omega)), descGo, spec_lsFirst.j2.v_eq, if_neg (by simp), if_pos (by omega)]
  | succ d ih =>
    intro i hd
    have e : wrap64 ((i : Int) + 1) = ((i + 1 : Nat) : Int) := succ_wrap (show i < p.length by omega) (by omega)
    rw [spec_lsFirst.l1.v_eq, e, if_pos (cast_lt (by omega)), show decide ((-1 : Int) < 0) = true from rfl, spec_lsFirst.j2.v_eq, if_pos rfl, if_pos (Int.natCast_nonneg i), if_pos (cast_lt (by omega)), e, if_pos (Int.natCast_nonneg _), if_pos (cast_lt (by omega)), descGo]
    by_cases c : rd p (i : Int) > rd p ((i : Int) + 1)
    · have c' : rd p (i : Int) > rd p ((i + 1 : Nat) : Int) := c
      rw [if_pos c', if_pos c, spec_lsFirst.l1.v_eq]
      have n0 : decide (((i : Int)) < 0) = false := decide_eq_false (by omega)
      rw [n0, spec_lsFirst.ok_j p acc i _ (by omega) hp ha, ite_self]
      simp only [toNat_cast]
    · have c' : ¬ rd p (i : Int) > rd p ((i + 1 : Nat) : Int) := c
      rw [if_neg c', if_neg c, ih (i + 1) (by omega)]
theorem spec_lsFirst.ok_0 : ∀ (k : Nat) (p acc : List Int), invC p = k → 1 ≤ p.length → p.length ≤ 8 → acc.length + k ≤ 1000 → spec_lsFirst.l0.v p acc = some (acc ++ leastL p) := by
  intro k
  induction k with
  | zero =>
    intro p acc hk h1 h8 ha
    rw [spec_lsFirst.l0.v_eq]
    have s := spec_lsFirst.ok_1 p acc h1 (by omega) (by omega) (p.length - 1) 0 (by omega)
    refine Eq.trans s ?_
    cases e : desc p with
    | nil => unfold desc at e; simp only [e]; rw [leastL_nil (by unfold desc; exact e), List.append_nil]
    | cons a r => obtain ⟨j, _, _, _, hc⟩ := desc_head e; omega
  | succ k ih =>
    intro p acc hk h1 h8 ha
    rw [spec_lsFirst.l0.v_eq]
    have s := spec_lsFirst.ok_1 p acc h1 (by omega) (by omega) (p.length - 1) 0 (by omega)
    refine Eq.trans s ?_
    cases e : desc p with
    | nil => unfold desc at e; simp only [e]; rw [leastL_nil (by unfold desc; exact e), List.append_nil]
    | cons a r =>
      rw [leastL_cons e]
      obtain ⟨j, rfl, hj, hr, hc⟩ := desc_head e
      unfold desc at e
      simp only [e, toNat_cast]
      rw [ih _ _ (by omega) (by rw [swp_length]; omega) (by rw [swp_length]; omega) (by simp; omega), List.append_assoc]
      rfl
theorem spec_lsFirst.ok (p : List Int) (h1 : 1 ≤ p.length) (h8 : p.length ≤ 8) : spec_lsFirst.f.v p = some (leastL p) := by
  have := invC_le p h8
  rw [spec_lsFirst.f.v_eq, spec_l1Own.ok p (by omega), Option.bind_some, spec_lsFirst.ok_0 _ p [] rfl h1 h8 (by simp; omega), List.nil_append]

theorem spec_ReduceLadder.ok (n : Int) (l : List Int) : spec_ReduceLadder.f.v n l = some (if good n l = true then (n, leastL (resL n l), true) else (0, [], false)) := by
  rw [spec_ReduceLadder.f.v_eq, spec_laGood.ok, Option.bind_some]
  by_cases h : good n l = true
  · have g := good_iff.1 h
    rw [if_pos h, if_pos h, spec_laResult.ok n l h, Option.bind_some, spec_lsFirst.ok _ (by rw [resL_length]; omega) (by rw [resL_length]; omega)]; rfl
  · rw [if_neg h, if_neg h]

theorem FnExactReduceLadder : laws_FnExactReduceLadder.Pure := by
  intro n l _ _ hb _
  refine laws_FnExactReduceLadder.f.ends n l ?_
  rw [laws_FnExactReduceLadder.f.v_eq]
  by_cases h : l.length ≤ 1048576
  · obtain ⟨m, r, t, hs, hi, hr⟩ : ∃ m r t, spec_ReduceLadder.f.v n l = some (m, r, t) ∧ impl_ReduceLadder.f.v n l = some (m, r, t) ∧ r.length ≤ 1048576 := by
      rw [spec_ReduceLadder.ok, impl_ReduceLadder.ok]
      split
      · rename_i hh
        exact ⟨_, _, _, rfl, rfl, by have := leastL_length (resL n l) (by rw [resL_length]; have := good_iff.1 hh; omega); omega⟩
      · exact ⟨_, _, _, rfl, rfl, by simp⟩
    have e0 := laws_toLadder.ok n l h
    have e1 := laws_eqLadder.ok n l (by omega)
    have n0 : ¬ ((1048576 : Int) - (l.length : Int) < 0) := by omega
    have n1 : ¬ ((1 : Int) + (l.length : Int) < 0) := by omega
    have n2 : ¬ ((1 : Int) + (r.length : Int) < 0) := by omega
    have e3 := laws_markIntS.ok l 1 (by omega) (by omega) (by omega)
    have e4 := laws_markIntS.ok r 1 (by omega) (by omega) (by omega)
    have e5 := laws_heldIntS.ok r.length 1 (by omega) (by omega) (by omega)
    have e2 := laws_eqLadder.ok m r (by omega)
    simp only [laws_szLadder.ok n l h, e0, e1, hs, hi, if_neg n0, laws_markLadder.f.v_eq, e3, e4, e5, if_neg n1, if_neg n2, e2, laws_heldLadder.f.v_eq, laws_FnExactReduceLadder.j0.v_eq, laws_FnExactReduceLadder.j1.v_eq, laws_FnExactReduceLadder.j2.v_eq, Option.bind_some, bne_self_eq_false, Bool.false_eq_true, if_false, if_true]
  · rw [laws_szLadder.no n l h hb, Option.bind_some, if_pos (by omega)]

end Go.Proofs.Ytmoobmeihckaiaa.Pure
