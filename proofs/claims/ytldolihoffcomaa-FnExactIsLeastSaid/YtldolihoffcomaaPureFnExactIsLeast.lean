/- Proved: for every input the law FnExactIsLeast returns true (its plain statement, over numbers and lists). No condition. -/
import Derived.Test.YtldolihoffcomaaPAllx19
import Derived.Test.YtldolihoffcomaaVAllx1
import Derived.Test.YtldolihoffcomaaVAllx11
import Derived.Test.YtldolihoffcomaaVAllx15
import Derived.Test.YtldolihoffcomaaVAllx16
import Derived.Test.YtldolihoffcomaaVAllx18
import Derived.Test.YtldolihoffcomaaVAllx19
import Derived.Test.YtldolihoffcomaaVAllx2
import Derived.Test.YtldolihoffcomaaVAllx3
import Derived.Test.YtldolihoffcomaaVAllx5
import Derived.Test.YtldolihoffcomaaInvs
import Derived.Test.YtldolihoffcomaaLadders
import Derived.Test.YtldolihoffcomaaPlain
namespace Go.Proofs.Ytldolihoffcomaa.Pure
open Go.RowKit Go.Proofs.Ytldolihoffcomaa.PAll Go.Proofs.YtldolihoffcomaaW.PrintWords Go.Proofs.YtldolihoffcomaaW.PrintLast Go.Proofs.YtldolihoffcomaaW.PrintMore Go.Proofs.YtldolihoffcomaaL
set_option linter.unusedVariables false
set_option linter.unusedSimpArgs false

theorem impl_isLadder.ok (n : Int) (l : List Int) : impl_isLadder.f n l = some (good n l) := by
  unfold impl_isLadder.f good
  have h : (!(l.any (impl_isLadder.bad n))) = l.all (inB n) := by
    rw [List.not_any_eq_all_not]
    congr 1; funext x
    unfold impl_isLadder.bad inB
    exact Bool.not_not _
  rw [h]

theorem impl_inverted.ok_i (p : List Int) (hp : p.length ≤ 8) (i : Nat) (hi : i < p.length) : ∀ (d j : Nat) (acc : List (List Int)), j + d = p.length → acc.length + d ≤ 1000 → impl_inverted.l1.v p acc i j p.length i = impl_inverted.l0.v p (acc ++ invRow p i j d) p.length ((i + 1 : Nat) : Int) := by
  intro d
  induction d with
  | zero =>
    intro j acc hd ha
    rw [impl_inverted.l1.v_eq, if_neg (cast_nlt (by omega)), succ_wrap hi (by omega), invRow, List.append_nil]
  | succ d ih =>
    intro j acc hd ha
    have hj : j < p.length := by omega
    rw [impl_inverted.l1.v_eq, if_pos (cast_lt hj), if_pos (Int.natCast_nonneg i), if_pos (cast_lt hi), if_pos (Int.natCast_nonneg j), succ_wrap hj (by omega), invRow]
    by_cases e : rd p (i : Int) > rd p (j : Int)
    · rw [if_pos e, if_pos e, if_pos (by omega), ih (j + 1) _ (by omega) (by simp; omega), List.append_assoc]; rfl
    · rw [if_neg e, if_neg e, ih (j + 1) _ (by omega) (by omega)]
theorem impl_inverted.ok_o (p : List Int) (hp : p.length ≤ 8) : ∀ (d i : Nat) (acc : List (List Int)), i + d = p.length → acc.length + d * p.length ≤ 900 → impl_inverted.l0.v p acc p.length i = some (acc ++ invFrom p i d) := by
  intro d
  induction d with
  | zero =>
    intro i acc hd ha
    rw [impl_inverted.l0.v_eq, if_neg (cast_nlt (by omega)), invFrom, List.append_nil]
  | succ d ih =>
    intro i acc hd ha
    have hi : i < p.length := by omega
    rw [Nat.succ_mul] at ha
    have h1 := invRow_length p i (p.length - (i + 1)) (i + 1)
    rw [impl_inverted.l0.v_eq, if_pos (cast_lt hi), succ_wrap hi (by omega), impl_inverted.ok_i p hp i hi (p.length - (i + 1)) (i + 1) acc (by omega) (by omega), ih (i + 1) _ (by omega) (by rw [List.length_append]; omega), invFrom, List.append_assoc]
theorem impl_inverted.ok (p : List Int) (hp : p.length ≤ 8) : impl_inverted.f.v p = some (invs p) := by
  rw [impl_inverted.f.v_eq]
  have h2 : p.length * p.length ≤ 8 * 8 := Nat.mul_le_mul hp hp
  have := impl_inverted.ok_o p hp p.length 0 [] (by omega) (by simp; omega)
  simpa [invs] using this

theorem impl_inversions.ok (p : List Int) (hp : p.length ≤ 8) : impl_inversions.f.v p = some ((invs p).length : Int) := by
  rw [impl_inversions.f.v_eq, impl_inverted.ok p hp]; rfl

theorem impl_over.ok (w r : Int) (h0 : -1000 ≤ r) (h1 : r ≤ 1000) : impl_over.f w r = some (over w r) := by
  unfold impl_over.f over
  rw [wrap_id (x := r + 1) (by omega) (by omega)]
  by_cases a : w = r
  · rw [if_pos a, if_pos a]
  · rw [if_neg a, if_neg a]
    by_cases b : w = r + 1
    · rw [if_pos b, if_pos b]
    · rw [if_neg b, if_neg b]

theorem impl_way.ok_l (xs : List Int) (hn : xs.length ≤ 1000) (hb : ∀ x ∈ xs, -1000 ≤ x ∧ x ≤ 1000) : ∀ (d i : Nat) (w : Int) (acc : List Int), i + d = xs.length → acc.length ≤ i + 1 → impl_way.l0.v w acc xs xs.length i = some (acc ++ wayT w (xs.drop i)) := by
  intro d
  induction d with
  | zero =>
    intro i w acc hd ha
    rw [impl_way.l0.v_eq, if_neg (cast_nlt (by omega)), List.drop_eq_nil_of_le (by omega), wayT, List.append_nil]
  | succ d ih =>
    intro i w acc hd ha
    have h : i < xs.length := by omega
    obtain ⟨h0, h1⟩ := hb _ (rd_mem xs i h)
    rw [impl_way.l0.v_eq, if_pos (cast_lt h), if_pos (Int.natCast_nonneg i), if_pos (cast_lt h), impl_over.ok w _ h0 h1, Option.bind_some, if_pos (by omega), succ_wrap h (by omega), ih (i + 1) _ _ (by omega) (by simp; omega), drop_rd xs i h, wayT, List.append_assoc]
    rfl
theorem impl_way.ok (n : Int) (xs : List Int) (w : Int) (hn : xs.length ≤ 1000) (hb : ∀ x ∈ xs, -1000 ≤ x ∧ x ≤ 1000) : impl_way.f.v n xs w = some (wayL w xs) := by
  rw [impl_way.f.v_eq]
  have := impl_way.ok_l xs hn hb xs.length 0 w [w] (by omega) (by simp)
  simpa [wayL] using this
theorem good_wide' {n : Int} {l : List Int} (h : good n l = true) : l.length ≤ 1000 ∧ ∀ x ∈ l, -1000 ≤ x ∧ x ≤ 1000 := by
  obtain ⟨_, h2, h3, h4⟩ := good_iff.1 h
  exact ⟨by omega, fun x hx => by have := h4 x hx; omega⟩

theorem impl_result.ok_l (n : Int) (l : List Int) (hg : good n l = true) : ∀ (d i : Nat) (acc : List Int), i + d = n.toNat → acc.length ≤ i → impl_result.l0.v n l acc n i = some (acc ++ resGo l d i) := by
  obtain ⟨g1, g2, _, _⟩ := good_iff.1 hg
  obtain ⟨h1, h2⟩ := good_wide' hg
  intro d
  induction d with
  | zero =>
    intro i acc hd ha
    rw [impl_result.l0.v_eq, if_neg (by omega), resGo, List.append_nil]
  | succ d ih =>
    intro i acc hd ha
    rw [impl_result.l0.v_eq, if_pos (by omega), impl_way.ok n l _ h1 h2, Option.bind_some, wayL_length, wrap_id (x := ((l.length + 1 : Nat) : Int) - 1) (by omega) (by omega), show ((l.length + 1 : Nat) : Int) - 1 = (l.length : Int) by omega, if_pos (Int.natCast_nonneg _), if_pos (by omega), if_pos (by omega), wayL_last, succ_wrap (show i < n.toNat by omega) (by omega), ih (i + 1) _ (by omega) (by simp; omega), resGo, List.append_assoc]; rfl
theorem impl_result.ok (n : Int) (l : List Int) (hg : good n l = true) : impl_result.f.v n l = some (resL n l) := by
  rw [impl_result.f.v_eq]
  have := impl_result.ok_l n l hg n.toNat 0 [] (by omega) (by simp)
  simpa [resL] using this

theorem impl_needless.ok (n : Int) (l : List Int) (hg : good n l = true) : impl_needless.f.v n l = some (needL n l) := by
  obtain ⟨g1, g2, _, _⟩ := good_iff.1 hg
  have hb := needL_bounds hg
  unfold needL at hb
  rw [impl_needless.f.v_eq, impl_result.ok n l hg, Option.bind_some, impl_inversions.ok _ (by rw [resL_length]; omega), Option.bind_some, wrap_id (by omega) (by omega)]; rfl

theorem impl_IsLeast.ok (n : Int) (l : List Int) : impl_IsLeast.f.v n l = some (if good n l = true then (needL n l == 0, true) else (false, false)) := by
  rw [impl_IsLeast.f.v_eq, impl_isLadder.ok, Option.bind_some]
  by_cases h : good n l = true
  · rw [if_pos h, if_pos h, impl_needless.ok n l h]; rfl
  · rw [if_neg h, if_neg h]

theorem laws_eqIntS.ok_l (xs : List Int) (hn : xs.length ≤ 140737488355328) : ∀ (d i : Nat), xs.length - i = d → laws_eqIntS.l0.v xs xs i = some true := by
  intro d
  induction d with
  | zero =>
    intro i hd
    rw [laws_eqIntS.l0.v_eq, if_neg (cast_nlt (by omega))]
  | succ d ih =>
    intro i hd
    have h : i < xs.length := by omega
    rw [laws_eqIntS.l0.v_eq, if_pos (cast_lt h), if_pos (Int.natCast_nonneg i), if_pos (cast_lt h), if_pos rfl, succ_wrap h hn]
    exact ih (i + 1) (by omega)
theorem laws_eqIntS.ok (xs : List Int) (hn : xs.length ≤ 140737488355328) : laws_eqIntS.f.v xs xs = some true := by
  rw [laws_eqIntS.f.v_eq, if_pos rfl]
  exact laws_eqIntS.ok_l xs hn xs.length 0 (by omega)

theorem laws_eqLadder.ok (n : Int) (l : List Int) (h : l.length ≤ 140737488355328) : laws_eqLadder.f.v n l n l = some true := by
  rw [laws_eqLadder.f.v_eq, if_pos rfl, laws_eqIntS.ok l h]; rfl

theorem laws_szLadder.ok (n : Int) (l : List Int) (h : l.length ≤ 1048576) : laws_szLadder.f n l 1048576 = some (1048576 - (l.length : Int)) := by
  unfold laws_szLadder.f laws_szIntS.f
  rw [wrap_id (by omega) (by omega), if_neg (by omega), Option.bind_some, if_neg (by omega)]
theorem laws_szLadder.no (n : Int) (l : List Int) (h : ¬ l.length ≤ 1048576) (h2 : l.length * 8 ≤ 140737488351232) : laws_szLadder.f n l 1048576 = some (-1) := by
  unfold laws_szLadder.f laws_szIntS.f
  rw [wrap_id (by omega) (by omega), if_pos (by omega), Option.bind_some, if_pos (by omega)]

theorem laws_toIntS.ok_l (xs : List Int) (hn : xs.length ≤ 140737488355328) : ∀ (d i : Nat) (ys : List Int), xs.length - i = d → ys.length = xs.length → ys.take i = xs.take i → laws_toIntS.l0.v xs ys i = some xs := by
  intro d
  induction d with
  | zero =>
    intro i ys hd hl ht
    rw [laws_toIntS.l0.v_eq, if_neg (cast_nlt (by omega))]
    rw [List.take_of_length_le (by omega), List.take_of_length_le (by omega)] at ht
    rw [ht]
  | succ d ih =>
    intro i ys hd hl ht
    have h : i < xs.length := by omega
    rw [laws_toIntS.l0.v_eq, if_pos (cast_lt h), if_pos (Int.natCast_nonneg i), if_pos (cast_lt (by omega)), succ_wrap h hn, toNat_cast]
    refine ih (i + 1) _ (by omega) (by rw [List.length_set]; exact hl) ?_
    rw [take_rd xs i h, ← ht, rd_lt xs i h, List.take_succ_eq_append_getElem (by rw [List.length_set]; omega), List.getElem_set_self, List.take_set_of_le (Nat.le_refl i)]
theorem laws_toIntS.ok (xs : List Int) (hn : xs.length ≤ 1048576) : laws_toIntS.f.v xs = some xs := by
  rw [laws_toIntS.f.v_eq, if_pos (Int.natCast_nonneg _), toNat_cast, if_pos (by omega)]
  exact laws_toIntS.ok_l xs (by omega) xs.length 0 _ (by omega) (by simp) (by simp)

theorem laws_toLadder.ok (n : Int) (l : List Int) (h : l.length ≤ 1048576) : laws_toLadder.f.v n l = some (n, l) := by
  rw [laws_toLadder.f.v_eq, laws_toIntS.ok l h]; rfl

theorem spec_l1All.ok_l (a b : Int) (xs : List Int) (hn : xs.length ≤ 140737488355328) : ∀ (d i : Nat), i + d = xs.length → spec_l1All.l0.v a b xs xs.length i = some ((xs.drop i).all fun x => decide (a ≤ x) && decide (x ≤ b)) := by
  intro d
  induction d with
  | zero =>
    intro i hd
    rw [spec_l1All.l0.v_eq, if_neg (cast_nlt (by omega)), List.drop_eq_nil_of_le (by omega)]
    rfl
  | succ d ih =>
    intro i hd
    have h : i < xs.length := by omega
    rw [spec_l1All.l0.v_eq, if_pos (cast_lt h), if_pos (Int.natCast_nonneg i), if_pos (cast_lt h), succ_wrap h hn, ih (i + 1) (by omega), drop_rd xs i h, List.all_cons]
    unfold spec_l1In.f
    by_cases e : a ≤ rd xs (i : Int)
    · rw [if_pos (show rd xs (i : Int) ≥ a from e), Option.bind_some, decide_eq_true e, Bool.true_and]
      by_cases e2 : rd xs (i : Int) ≤ b
      · rw [decide_eq_true e2, if_pos rfl, Bool.true_and]
      · rw [decide_eq_false e2, if_neg (by simp), Bool.false_and]
    · rw [if_neg (show ¬ rd xs (i : Int) ≥ a from e), Option.bind_some, decide_eq_false e, if_neg (by simp), Bool.false_and, Bool.false_and]
theorem spec_l1All.ok (xs : List Int) (a b : Int) (hn : xs.length ≤ 140737488355328) : spec_l1All.f.v xs a b = some (xs.all fun x => decide (a ≤ x) && decide (x ≤ b)) := by
  rw [spec_l1All.f.v_eq]
  have := spec_l1All.ok_l a b xs hn xs.length 0 (by omega)
  simpa using this

theorem spec_laGood.ok (n : Int) (l : List Int) : spec_laGood.f.v n l = some (good n l) := by
  rw [spec_laGood.f.v_eq]
  unfold spec_l1In.f good
  by_cases h1 : 2 ≤ n
  · rw [if_pos (show n ≥ 2 from h1), Option.bind_some, decide_eq_true h1, Bool.true_and]
    by_cases h2 : n ≤ 8
    · rw [decide_eq_true h2, if_pos rfl, Bool.true_and]
      by_cases h3 : l.length ≤ 60
      · rw [if_pos (by omega), decide_eq_true h3, Bool.true_and, spec_l1All.ok l 0 _ (by omega), wrap_id (x := n - 2) (by omega) (by omega)]; rfl
      · rw [if_neg (by omega), decide_eq_false h3, Bool.false_and]
    · rw [decide_eq_false h2, if_neg (by simp), Bool.false_and, Bool.false_and]
  · rw [if_neg (show ¬ n ≥ 2 from h1), Option.bind_some, decide_eq_false h1, if_neg (by simp), Bool.false_and, Bool.false_and, Bool.false_and]

theorem spec_laOver.ok (w r : Int) (h0 : -1000 ≤ r) (h1 : r ≤ 1000) : spec_laOver.f w r = some (over w r) := by
  unfold spec_laOver.f over
  rw [wrap_id (x := r + 1) (by omega) (by omega)]
  by_cases a : w = r
  · rw [if_pos a, if_pos a]
  · rw [if_neg a, if_neg a]
    by_cases b : w = r + 1
    · rw [if_pos b, if_pos b]
    · rw [if_neg b, if_neg b]

theorem spec_laDown.ok_l (xs : List Int) (hn : xs.length ≤ 1000) (hb : ∀ x ∈ xs, -1000 ≤ x ∧ x ≤ 1000) : ∀ (d i : Nat) (w : Int) (acc : List Int), i + d = xs.length → acc.length ≤ i + 1 → spec_laDown.l0.v w acc xs xs.length i = some (acc ++ wayT w (xs.drop i)) := by
  intro d
  induction d with
  | zero =>
    intro i w acc hd ha
    rw [spec_laDown.l0.v_eq, if_neg (cast_nlt (by omega)), List.drop_eq_nil_of_le (by omega), wayT, List.append_nil]
  | succ d ih =>
    intro i w acc hd ha
    have h : i < xs.length := by omega
    obtain ⟨h0, h1⟩ := hb _ (rd_mem xs i h)
    rw [spec_laDown.l0.v_eq, if_pos (cast_lt h), if_pos (Int.natCast_nonneg i), if_pos (cast_lt h), spec_laOver.ok w _ h0 h1, Option.bind_some, if_pos (by omega), succ_wrap h (by omega), ih (i + 1) _ _ (by omega) (by simp; omega), drop_rd xs i h, wayT, List.append_assoc]
    rfl
theorem spec_laDown.ok (xs : List Int) (w : Int) (hn : xs.length ≤ 1000) (hb : ∀ x ∈ xs, -1000 ≤ x ∧ x ≤ 1000) : spec_laDown.f.v xs w = some (wayL w xs) := by
  rw [spec_laDown.f.v_eq]
  have := spec_laDown.ok_l xs hn hb xs.length 0 w [w] (by omega) (by simp)
  simpa [wayL] using this
theorem good_wide {n : Int} {l : List Int} (h : good n l = true) : l.length ≤ 1000 ∧ ∀ x ∈ l, -1000 ≤ x ∧ x ≤ 1000 := by
  obtain ⟨_, h2, h3, h4⟩ := good_iff.1 h
  exact ⟨by omega, fun x hx => by have := h4 x hx; omega⟩

theorem spec_laResult.ok_l (n : Int) (l : List Int) (hg : good n l = true) : ∀ (d i : Nat) (acc : List Int), i + d = n.toNat → acc.length ≤ i → spec_laResult.l0.v n l acc i = some (acc ++ resGo l d i) := by
  obtain ⟨g1, g2, _, _⟩ := good_iff.1 hg
  obtain ⟨h1, h2⟩ := good_wide hg
  intro d
  induction d with
  | zero =>
    intro i acc hd ha
    rw [spec_laResult.l0.v_eq, if_neg (by omega), resGo, List.append_nil]
  | succ d ih =>
    intro i acc hd ha
    rw [spec_laResult.l0.v_eq, if_pos (by omega), spec_laDown.ok l _ h1 h2, Option.bind_some, if_pos (Int.natCast_nonneg _), if_pos (by rw [wayL_length]; omega), if_pos (by omega), wayL_last, succ_wrap (show i < n.toNat by omega) (by omega), ih (i + 1) _ (by omega) (by simp; omega), resGo, List.append_assoc]; rfl
theorem spec_laResult.ok (n : Int) (l : List Int) (hg : good n l = true) : spec_laResult.f.v n l = some (resL n l) := by
  rw [spec_laResult.f.v_eq]
  have := spec_laResult.ok_l n l hg n.toNat 0 [] (by omega) (by simp)
  simpa [resL] using this

theorem spec_lsInversions.ok_i (p : List Int) (hp : p.length ≤ 8) (i : Nat) (hi : i < p.length) : ∀ (d j : Nat) (acc : List (List Int)), j + d = p.length → acc.length + d ≤ 1000 → spec_lsInversions.l1.v p acc i j p.length i = spec_lsInversions.l0.v p (acc ++ invRow p i j d) p.length ((i + 1 : Nat) : Int) := by
  intro d
  induction d with
  | zero =>
    intro j acc hd ha
    rw [spec_lsInversions.l1.v_eq, if_neg (cast_nlt (by omega)), succ_wrap hi (by omega), invRow, List.append_nil]
  | succ d ih =>
    intro j acc hd ha
    have hj : j < p.length := by omega
    rw [spec_lsInversions.l1.v_eq, if_pos (cast_lt hj), if_pos (Int.natCast_nonneg i), if_pos (cast_lt hi), if_pos (Int.natCast_nonneg j), succ_wrap hj (by omega), invRow]
    by_cases e : rd p (i : Int) > rd p (j : Int)
    · rw [if_pos e, if_pos e, if_pos (by omega), ih (j + 1) _ (by omega) (by simp; omega), List.append_assoc]; rfl
    · rw [if_neg e, if_neg e, ih (j + 1) _ (by omega) (by omega)]
theorem spec_lsInversions.ok_o (p : List Int) (hp : p.length ≤ 8) : ∀ (d i : Nat) (acc : List (List Int)), i + d = p.length → acc.length + d * p.length ≤ 900 → spec_lsInversions.l0.v p acc p.length i = some (acc ++ invFrom p i d) := by
  intro d
  induction d with
  | zero =>
    intro i acc hd ha
    rw [spec_lsInversions.l0.v_eq, if_neg (cast_nlt (by omega)), invFrom, List.append_nil]
  | succ d ih =>
    intro i acc hd ha
    have hi : i < p.length := by omega
    rw [Nat.succ_mul] at ha
    have h1 := invRow_length p i (p.length - (i + 1)) (i + 1)
    rw [spec_lsInversions.l0.v_eq, if_pos (cast_lt hi), succ_wrap hi (by omega), spec_lsInversions.ok_i p hp i hi (p.length - (i + 1)) (i + 1) acc (by omega) (by omega), ih (i + 1) _ (by omega) (by rw [List.length_append]; omega), invFrom, List.append_assoc]
theorem spec_lsInversions.ok (p : List Int) (hp : p.length ≤ 8) : spec_lsInversions.f.v p = some (invs p) := by
  rw [spec_lsInversions.f.v_eq]
  have h2 : p.length * p.length ≤ 8 * 8 := Nat.mul_le_mul hp hp
  have := spec_lsInversions.ok_o p hp p.length 0 [] (by omega) (by simp; omega)
  simpa [invs] using this

theorem spec_lsLeast.ok (n : Int) (l : List Int) (hg : good n l = true) : spec_lsLeast.f.v n l = some (needL n l == 0) := by
  obtain ⟨g1, g2, _, _⟩ := good_iff.1 hg
  rw [spec_lsLeast.f.v_eq, spec_laResult.ok n l hg, Option.bind_some, spec_lsInversions.ok _ (by rw [resL_length]; omega), Option.bind_some]
  congr 1
  unfold needL
  rw [Bool.eq_iff_iff, beq_iff_eq, beq_iff_eq]
  omega

theorem spec_IsLeast.ok (n : Int) (l : List Int) : spec_IsLeast.f.v n l = some (if good n l = true then (needL n l == 0, true) else (false, false)) := by
  rw [spec_IsLeast.f.v_eq, spec_laGood.ok, Option.bind_some]
  by_cases h : good n l = true
  · rw [if_pos h, if_pos h, spec_lsLeast.ok n l h]; rfl
  · rw [if_neg h, if_neg h]

theorem FnExactIsLeast : laws_FnExactIsLeast.Pure := by
  intro n l _ _ hb _
  refine laws_FnExactIsLeast.f.ends n l ?_
  rw [laws_FnExactIsLeast.f.v_eq]
  by_cases h : l.length ≤ 1048576
  · obtain ⟨r, b, hs, hi⟩ : ∃ r b, spec_IsLeast.f.v n l = some (r, b) ∧ impl_IsLeast.f.v n l = some (r, b) := by
      rw [spec_IsLeast.ok, impl_IsLeast.ok]
      split
      · exact ⟨_, _, rfl, rfl⟩
      · exact ⟨_, _, rfl, rfl⟩
    have e0 := laws_toLadder.ok n l h
    have e1 := laws_eqLadder.ok n l (by omega)
    have n0 : ¬ ((1048576 : Int) - (l.length : Int) < 0) := by omega
    simp only [laws_szLadder.ok n l h, e0, e1, hs, hi, if_neg n0, laws_FnExactIsLeast.j0.v_eq, Option.bind_some, bne_self_eq_false, Bool.false_eq_true, if_false, if_true]
  · rw [laws_szLadder.no n l h hb, Option.bind_some, if_pos (by omega)]

end Go.Proofs.Ytldolihoffcomaa.Pure
