/- Proved: for every input the law FnExactLeastLadder returns true (its plain statement, over numbers and lists). No condition. -/
import Derived.Test.YtmoobmeihckaiaaPAllx14
import Derived.Test.YtmoobmeihckaiaaPAllx3
import Derived.Test.YtmoobmeihckaiaaVAllx1
import Derived.Test.YtmoobmeihckaiaaVAllx12
import Derived.Test.YtmoobmeihckaiaaVAllx13
import Derived.Test.YtmoobmeihckaiaaVAllx14
import Derived.Test.YtmoobmeihckaiaaVAllx2
import Derived.Test.YtmoobmeihckaiaaVAllx4
import Derived.Test.YtmoobmeihckaiaaVAllx5
import Derived.Test.YtmoobmeihckaiaaVAllx7
import Derived.Test.YtmoobmeihckaiaaVAllx8
import Derived.Test.YtmoobmeihckaiaaVAllx9
import Derived.Test.YtmoobmeihckaiaaLeasts
import Derived.Test.YtmoobmeihckaiaaOrders
import Derived.Test.YtmoobmeihckaiaaPerms
import Derived.Test.YtmoobmeihckaiaaPlain
namespace Go.Proofs.Ytmoobmeihckaiaa.Pure
open Go.RowKit Go.Proofs.Ytmoobmeihckaiaa.PAll Go.Proofs.YtmoobmeihckaiaaW.PrintWords Go.Proofs.YtmoobmeihckaiaaW.PrintLast Go.Proofs.YtmoobmeihckaiaaW.PrintMore Go.Proofs.YtmoobmeihckaiaaL
set_option linter.unusedVariables false
set_option linter.unusedSimpArgs false

theorem slices_Index_int_int.ok_l (v : Int) (xs : List Int) (hn : xs.length ≤ 140737488355328) : ∀ (d i : Nat), xs.length - i = d → ∃ r, slices_Index_int_int.l0.v xs v xs.length i = some r ∧ decide (r ≥ 0) = decide (v ∈ xs.drop i) := by
  intro d
  induction d with
  | zero =>
    intro i hd
    refine ⟨-1, ?_, ?_⟩
    · rw [slices_Index_int_int.l0.v_eq, if_neg (cast_nlt (by omega))]
    · rw [List.drop_eq_nil_of_le (by omega)]; simp
  | succ d ih =>
    intro i hd
    have h : i < xs.length := by omega
    obtain ⟨r, hr, hr'⟩ := ih (i + 1) (by omega)
    rw [slices_Index_int_int.l0.v_eq, if_pos (cast_lt h), if_pos (Int.natCast_nonneg i), if_pos (cast_lt h), succ_wrap h hn, hr, drop_rd xs i h]
    by_cases e : v = rd xs (i : Int)
    · rw [if_pos e]; exact ⟨i, rfl, by simp [e, Int.natCast_nonneg]⟩
    · rw [if_neg e]; exact ⟨r, rfl, by rw [hr']; simp [e]⟩

theorem slices_Contains_int_int.ok (v : Int) (xs : List Int) (hn : xs.length ≤ 140737488355328) : slices_Contains_int_int.f.v xs v = some (decide (v ∈ xs)) := by
  obtain ⟨r, hr, hr'⟩ := slices_Index_int_int.ok_l v xs hn xs.length 0 (by omega)
  have e : slices_Index_int_int.f.v xs v = some r := by rw [slices_Index_int_int.f.v_eq]; exact hr
  rw [slices_Contains_int_int.f.v_eq, e, Option.bind_some, hr', List.drop_zero]

theorem impl_isOrder.ok_l (p : List Int) (hn : p.length ≤ 8) : ∀ (d i : Nat), p.length - i = d → impl_isOrder.l0.v p p p.length i = some (ordGo p.length (p.take i) (p.drop i)) := by
  intro d
  induction d with
  | zero =>
    intro i hd
    rw [impl_isOrder.l0.v_eq, if_neg (cast_nlt (by omega)), List.drop_eq_nil_of_le (by omega)]
    rfl
  | succ d ih =>
    intro i hd
    have h : i < p.length := by omega
    rw [impl_isOrder.l0.v_eq, if_pos (cast_lt h), if_pos (Int.natCast_nonneg i), if_pos (cast_lt h), succ_wrap h (by omega), ih (i + 1) (by omega), drop_rd p i h, take_rd p i h]
    rw [wrap_id (x := (p.length : Int) - 1) (by omega) (by omega), toNat_cast, slices_Contains_int_int.ok _ _ (by rw [List.length_take]; omega)]
    unfold impl_between.f
    rw [ordGo_cons]
    by_cases a : 0 ≤ rd p (i : Int)
    · by_cases b : rd p (i : Int) ≤ (p.length : Int) - 1
      · have hi : (i : Int) ≤ (p.length : Int) := by omega
        by_cases c : rd p (i : Int) ∈ p.take i
        · simp only [ge_iff_le, a, b, c, hi, decide_true, decide_false, if_true, if_false, Option.bind_some, true_and, and_true, and_self, Bool.false_eq_true]
        · simp only [ge_iff_le, a, b, c, hi, decide_true, decide_false, if_true, if_false, Option.bind_some, true_and, and_true, and_self, Bool.false_eq_true]
      · simp [a, b]
    · simp [a]
theorem impl_isOrder.ok (p : List Int) : impl_isOrder.f.v p = some (isOrd p) := by
  rw [impl_isOrder.f.v_eq]
  unfold impl_between.f isOrd
  by_cases h : 1 ≤ p.length ∧ p.length ≤ 8
  · have := impl_isOrder.ok_l p h.2 p.length 0 (by omega)
    have h1 : (p.length : Int) ≥ 1 := by omega
    have h2 : (p.length : Int) ≤ 8 := by omega
    rw [if_pos h1, if_pos h, decide_eq_true h2]
    simpa using this
  · rw [if_neg h]
    by_cases h1 : (p.length : Int) ≥ 1
    · have h2 : ¬ (p.length : Int) ≤ 8 := by omega
      rw [if_pos h1, decide_eq_false h2]; rfl
    · rw [if_neg h1]; rfl

theorem impl_descents.ok_l (p : List Int) (h1 : 1 ≤ p.length) (hp : p.length ≤ 1000) : ∀ (d i : Nat) (acc : List Int), i + 1 + d = p.length → acc.length ≤ i → impl_descents.l0.v p acc i = some (acc ++ descGo p d i) := by
  intro d
  induction d with
  | zero =>
    intro i acc hd ha
    rw [impl_descents.l0.v_eq, succ_wrap (show i < p.length by omega) (by omega), if_neg (cast_nlt (by omega)), descGo, List.append_nil]
  | succ d ih =>
    intro i acc hd ha
    rw [impl_descents.l0.v_eq, succ_wrap (show i < p.length by omega) (by omega), if_pos (cast_lt (by omega)), if_pos (Int.natCast_nonneg i), if_pos (cast_lt (by omega)), if_pos (Int.natCast_nonneg _), descGo]
    by_cases e : rd p (i : Int) > rd p ((i : Int) + 1)
    · have e' : rd p (i : Int) > rd p ((i + 1 : Nat) : Int) := e
      rw [if_pos e', if_pos e, if_pos (by omega), ih (i + 1) _ (by omega) (by simp; omega), List.append_assoc]; rfl
    · have e' : ¬ rd p (i : Int) > rd p ((i + 1 : Nat) : Int) := e
      rw [if_neg e', if_neg e, ih (i + 1) _ (by omega) (by omega)]
theorem impl_descents.ok (p : List Int) (h1 : 1 ≤ p.length) (hp : p.length ≤ 1000) : impl_descents.f.v p = some (desc p) := by
  rw [impl_descents.f.v_eq]
  have := impl_descents.ok_l p h1 hp (p.length - 1) 0 [] (by omega) (by simp)
  simpa [desc] using this

theorem slices_Clone_int_int.ok (l : List Int) (h : l.length ≤ 1048576) : slices_Clone_int_int.f l = some l := by
  unfold slices_Clone_int_int.f
  rw [if_pos (by omega)]

theorem impl_exchanged.ok (p : List Int) (j : Nat) (hj : j + 1 < p.length) (hp : p.length ≤ 1048576) : impl_exchanged.f p (j : Int) = some (swp p j (j + 1)) := by
  have e : wrap64 ((j : Int) + 1) = ((j + 1 : Nat) : Int) := succ_wrap (show j < p.length by omega) (by omega)
  unfold impl_exchanged.f
  rw [slices_Clone_int_int.ok p hp, Option.bind_some, e, if_pos (Int.natCast_nonneg _), if_pos (cast_lt hj), if_pos (Int.natCast_nonneg _), if_pos (cast_lt (by omega)), toNat_cast, toNat_cast]
  rfl

theorem impl_least.ok_l (n : Int) : ∀ (k : Nat) (p acc : List Int), invC p = k → 1 ≤ p.length → p.length ≤ 8 → acc.length + k ≤ 1000 → impl_least.l0.v p (desc p) n acc = some (n, acc ++ leastL p) := by
  intro k
  induction k with
  | zero =>
    intro p acc hk h1 h8 ha
    cases e : desc p with
    | nil => rw [impl_least.l0.v_eq, if_neg (by simp), leastL_nil e, List.append_nil]
    | cons a r => obtain ⟨j, _, _, _, hc⟩ := desc_head e; omega
  | succ k ih =>
    intro p acc hk h1 h8 ha
    cases e : desc p with
    | nil => rw [impl_least.l0.v_eq, if_neg (by simp), leastL_nil e, List.append_nil]
    | cons a r =>
      rw [leastL_cons e]
      obtain ⟨j, rfl, hj, hr, hc⟩ := desc_head e
      have e0 : rd ((j : Int) :: r) 0 = (j : Int) := rfl
      rw [impl_least.l0.v_eq, if_pos (by simp), if_pos (by simp), if_pos (by omega), e0, impl_exchanged.ok p j hj (by omega), Option.bind_some, impl_descents.ok _ (by rw [swp_length]; omega) (by rw [swp_length]; omega), Option.bind_some, ih _ _ (by omega) (by rw [swp_length]; omega) (by rw [swp_length]; omega) (by simp; omega), List.append_assoc, toNat_cast]
      rfl
theorem impl_least.ok (p : List Int) (h1 : 1 ≤ p.length) (h8 : p.length ≤ 8) : impl_least.f.v p = some ((p.length : Int), leastL p) := by
  have := invC_le p h8
  rw [impl_least.f.v_eq, impl_descents.ok p h1 (by omega), Option.bind_some, impl_least.ok_l _ _ p [] rfl h1 h8 (by simp; omega), List.nil_append]

theorem impl_LeastLadder.ok (p : List Int) : impl_LeastLadder.f.v p = some (if isOrd p = true ∧ 2 ≤ p.length then ((p.length : Int), leastL p, true) else (0, [], false)) := by
  rw [impl_LeastLadder.f.v_eq, impl_isOrder.ok, Option.bind_some]
  by_cases h : isOrd p = true
  · have hl := isOrd_len h
    by_cases h2 : 2 ≤ p.length
    · rw [if_pos h, if_neg (by omega), if_pos ⟨h, h2⟩, impl_least.ok p hl.1 hl.2]; rfl
    · rw [if_pos h, if_pos (by omega), if_neg (fun x => h2 x.2)]
  · rw [if_neg h, if_neg (fun x => h x.1)]

theorem laws_eqIntS.ok_l (xs : List Int) (hn : xs.length ≤ 140737488355328) : ∀ (d i : Nat), xs.length - i = d → laws_eqIntS.l0.v xs xs i = some true := by
  intro d
  induction d with
  | zero =>
    intro i hd
    rw [laws_eqIntS.l0.v_eq, if_neg (cast_nlt (by omega))]
  | succ d ih =>
    intro i hd
    have h : i < xs.length := by omega
    rw [laws_eqIntS.l0.v_eq, if_pos (cast_lt h), if_pos (Int.natCast_nonneg i), if_pos (cast_lt h), if_pos rfl, succ_wrap h hn]
    exact ih (i + 1) (by omega)
theorem laws_eqIntS.ok (xs : List Int) (hn : xs.length ≤ 140737488355328) : laws_eqIntS.f.v xs xs = some true := by
  rw [laws_eqIntS.f.v_eq, if_pos rfl]
  exact laws_eqIntS.ok_l xs hn xs.length 0 (by omega)

theorem laws_eqLadder.ok (n : Int) (l : List Int) (h : l.length ≤ 140737488355328) : laws_eqLadder.f.v n l n l = some true := by
  rw [laws_eqLadder.f.v_eq, if_pos rfl, laws_eqIntS.ok l h]; rfl

theorem rd_fromOn (k : Int) : ∀ (n i : Nat), i < n → rd (fromOn k n) (i : Int) = k + i := by
  intro n i h
  induction n generalizing k i with
  | zero => omega
  | succ n ih =>
    cases i with
    | zero => show k = k + ((0 : Nat) : Int); simp
    | succ i =>
      have := ih (k + 1) i (by omega)
      rw [rd_cast] at this ⊢
      rw [fromOn, List.getD_cons_succ, this]; omega
theorem laws_heldIntS.ok_l (n : Nat) (k : Int) (hn : n ≤ 1099511627776) (h0 : 0 ≤ k) (h1 : k ≤ 4398046511104) : ∀ (d i : Nat), i + d = n → laws_heldIntS.l0.v (fromOn k n) (k + i) i = some (k + n) := by
  intro d
  induction d with
  | zero =>
    intro i hd
    rw [laws_heldIntS.l0.v_eq, fromOn_length, if_neg (cast_nlt (by omega)), show i = n by omega]
  | succ d ih =>
    intro i hd
    have h : i < n := by omega
    rw [laws_heldIntS.l0.v_eq, fromOn_length, if_pos (cast_lt h), if_pos (Int.natCast_nonneg i), if_pos (rd_fromOn k n i h), succ_wrap h (by omega), wrap_id (x := k + (i : Int) + 1) (by omega) (by omega), show k + (i : Int) + 1 = k + ((i + 1 : Nat) : Int) by omega]
    exact ih (i + 1) (by omega)
theorem laws_heldIntS.ok (n : Nat) (k : Int) (hn : n ≤ 1099511627776) (h0 : 0 ≤ k) (h1 : k ≤ 4398046511104) : laws_heldIntS.f.v (fromOn k n) k = some (k + n) := by
  rw [laws_heldIntS.f.v_eq]
  have := laws_heldIntS.ok_l n k hn h0 h1 n 0 (by omega)
  simpa using this

theorem laws_markIntS.ok_l : ∀ (d i : Nat) (xs : List Int) (k : Int), i + d = xs.length → xs.length ≤ 1099511627776 → 0 ≤ k → k ≤ 4398046511104 → laws_markIntS.l0.v xs (k + i) i = some (k + (xs.length : Int), xs.take i ++ fromOn (k + i) d) := by
  intro d
  induction d with
  | zero =>
    intro i xs k hd hn h0 h1
    rw [laws_markIntS.l0.v_eq, if_neg (cast_nlt (by omega)), List.take_of_length_le (by omega), show i = xs.length by omega]
    simp [fromOn]
  | succ d ih =>
    intro i xs k hd hn h0 h1
    have h : i < xs.length := by omega
    rw [laws_markIntS.l0.v_eq, if_pos (cast_lt h), if_pos (Int.natCast_nonneg i), succ_wrap h (by omega), toNat_cast, wrap_id (x := k + (i : Int) + 1) (by omega) (by omega), show k + (i : Int) + 1 = k + ((i + 1 : Nat) : Int) by omega, ih (i + 1) _ k (by rw [List.length_set]; omega) (by rw [List.length_set]; omega) h0 h1, List.length_set, fromOn, List.take_succ_eq_append_getElem (by rw [List.length_set]; omega), List.getElem_set_self, List.take_set_of_le (Nat.le_refl i), List.append_assoc, show k + (i : Int) + 1 = k + ((i + 1 : Nat) : Int) by omega]
    rfl
theorem laws_markIntS.ok (xs : List Int) (k : Int) (hn : xs.length ≤ 1099511627776) (h0 : 0 ≤ k) (h1 : k ≤ 4398046511104) : laws_markIntS.f.v xs k = some (k + (xs.length : Int), fromOn k xs.length) := by
  rw [laws_markIntS.f.v_eq]
  have := laws_markIntS.ok_l xs.length 0 xs k (by omega) hn h0 h1
  simpa using this

theorem laws_toIntS.ok_l (xs : List Int) (hn : xs.length ≤ 140737488355328) : ∀ (d i : Nat) (ys : List Int), xs.length - i = d → ys.length = xs.length → ys.take i = xs.take i → laws_toIntS.l0.v xs ys i = some xs := by
  intro d
  induction d with
  | zero =>
    intro i ys hd hl ht
    rw [laws_toIntS.l0.v_eq, if_neg (cast_nlt (by omega))]
    rw [List.take_of_length_le (by omega), List.take_of_length_le (by omega)] at ht
    rw [ht]
  | succ d ih =>
    intro i ys hd hl ht
    have h : i < xs.length := by omega
    rw [laws_toIntS.l0.v_eq, if_pos (cast_lt h), if_pos (Int.natCast_nonneg i), if_pos (cast_lt (by omega)), succ_wrap h hn, toNat_cast]
    refine ih (i + 1) _ (by omega) (by rw [List.length_set]; exact hl) ?_
    rw [take_rd xs i h, ← ht, rd_lt xs i h, List.take_succ_eq_append_getElem (by rw [List.length_set]; omega), List.getElem_set_self, List.take_set_of_le (Nat.le_refl i)]
theorem laws_toIntS.ok (xs : List Int) (hn : xs.length ≤ 1048576) : laws_toIntS.f.v xs = some xs := by
  rw [laws_toIntS.f.v_eq, if_pos (Int.natCast_nonneg _), toNat_cast, if_pos (by omega)]
  exact laws_toIntS.ok_l xs (by omega) xs.length 0 _ (by omega) (by simp) (by simp)

theorem spec_l1Has.ok_l (v : Int) (xs : List Int) (hn : xs.length ≤ 140737488355328) : ∀ (d i : Nat), xs.length - i = d → spec_l1Has.l0.v v xs xs.length i = some (decide (v ∈ xs.drop i)) := by
  intro d
  induction d with
  | zero =>
    intro i hd
    rw [spec_l1Has.l0.v_eq, if_neg (cast_nlt (by omega)), List.drop_eq_nil_of_le (by omega)]
    simp
  | succ d ih =>
    intro i hd
    have h : i < xs.length := by omega
    rw [spec_l1Has.l0.v_eq, if_pos (cast_lt h), if_pos (Int.natCast_nonneg i), if_pos (cast_lt h), succ_wrap h hn, ih (i + 1) (by omega), drop_rd xs i h]
    by_cases e : rd xs (i : Int) = v
    · rw [if_pos e]; simp [e]
    · have e' : ¬ v = rd xs (i : Int) := fun h => e h.symm
      rw [if_neg e]; simp [e']
theorem spec_l1Has.ok (v : Int) (xs : List Int) (hn : xs.length ≤ 140737488355328) : spec_l1Has.f.v xs v = some (decide (v ∈ xs)) := by
  rw [spec_l1Has.f.v_eq]
  have := spec_l1Has.ok_l v xs hn xs.length 0 (by omega)
  simpa using this

theorem spec_laOrder.ok_l (p : List Int) (hn : p.length ≤ 8) : ∀ (d i : Nat), p.length - i = d → spec_laOrder.l0.v p p p.length i = some (ordGo p.length (p.take i) (p.drop i)) := by
  intro d
  induction d with
  | zero =>
    intro i hd
    rw [spec_laOrder.l0.v_eq, if_neg (cast_nlt (by omega)), List.drop_eq_nil_of_le (by omega)]
    rfl
  | succ d ih =>
    intro i hd
    have h : i < p.length := by omega
    rw [spec_laOrder.l0.v_eq, if_pos (cast_lt h), if_pos (Int.natCast_nonneg i), if_pos (cast_lt h), succ_wrap h (by omega), ih (i + 1) (by omega), drop_rd p i h, take_rd p i h]
    rw [wrap_id (x := (p.length : Int) - 1) (by omega) (by omega), toNat_cast, spec_l1Has.ok _ _ (by rw [List.length_take]; omega)]
    unfold spec_l1In.f
    rw [ordGo_cons]
    by_cases a : 0 ≤ rd p (i : Int)
    · by_cases b : rd p (i : Int) ≤ (p.length : Int) - 1
      · have hi : (i : Int) ≤ (p.length : Int) := by omega
        by_cases c : rd p (i : Int) ∈ p.take i
        · simp only [ge_iff_le, a, b, c, hi, decide_true, decide_false, if_true, if_false, Option.bind_some, true_and, and_true, and_self, Bool.false_eq_true]
        · simp only [ge_iff_le, a, b, c, hi, decide_true, decide_false, if_true, if_false, Option.bind_some, true_and, and_true, and_self, Bool.false_eq_true]
      · simp [a, b]
    · simp [a]
theorem spec_laOrder.ok (p : List Int) : spec_laOrder.f.v p = some (isOrd p) := by
  rw [spec_laOrder.f.v_eq]
  unfold spec_l1In.f isOrd
  by_cases h : 1 ≤ p.length ∧ p.length ≤ 8
  · have := spec_laOrder.ok_l p h.2 p.length 0 (by omega)
    have h1 : (p.length : Int) ≥ 1 := by omega
    have h2 : (p.length : Int) ≤ 8 := by omega
    rw [if_pos h1, if_pos h, decide_eq_true h2]
    simpa using this
  · rw [if_neg h]
    by_cases h1 : (p.length : Int) ≥ 1
    · have h2 : ¬ (p.length : Int) ≤ 8 := by omega
      rw [if_pos h1, decide_eq_false h2]; rfl
    · rw [if_neg h1]; rfl

theorem spec_l1Own.ok (l : List Int) (h : l.length ≤ 1048576) : spec_l1Own.f l = some l := by
  unfold spec_l1Own.f
  rw [Option.bind_some, if_pos (by simp; omega)]; rfl

theorem spec_lsFirst.ok_j (p acc : List Int) (j : Nat) (i : Int) (hj : j + 1 < p.length) (hp : p.length ≤ 1000) (ha : acc.length ≤ 1000) : spec_lsFirst.j2.v p acc (j : Int) i false = spec_lsFirst.l0.v (swp p j (j + 1)) (acc ++ [(j : Int)]) := by
  have e : wrap64 ((j : Int) + 1) = ((j + 1 : Nat) : Int) := succ_wrap (show j < p.length by omega) (by omega)
  rw [spec_lsFirst.j2.v_eq, if_neg (by simp), if_neg (by omega), if_pos (Int.natCast_nonneg _), if_pos (cast_lt (by omega)), e, if_pos (Int.natCast_nonneg _), if_pos (cast_lt hj), if_pos (by omega), toNat_cast, toNat_cast]
  rfl
theorem spec_lsFirst.ok_1 (p acc : List Int) (h1 : 1 ≤ p.length) (hp : p.length ≤ 1000) (ha : acc.length ≤ 1000) : ∀ (d i : Nat), i + 1 + d = p.length → spec_lsFirst.l1.v p acc (-1) (i : Int) = (match descGo p d i with | [] => some acc | a :: _ => spec_lsFirst.l0.v (swp p a.toNat (a.toNat + 1)) (acc ++ [a])) := by
  intro d
  induction d with
  | zero =>
    intro i hd
    rw [spec_lsFirst.l1.v_eq, succ_wrap (show i < p.length by omega) (by omega), if_neg (cast_nlt (by omega)), descGo, spec_lsFirst.j2.v_eq, if_neg (by simp), if_pos (by omega)]
  | succ d ih =>
    intro i hd
    have e : wrap64 ((i : Int) + 1) = ((i + 1 : Nat) : Int) := succ_wrap (show i < p.length by omega) (by omega)
    rw [spec_lsFirst.l1.v_eq, e, if_pos (cast_lt (by omega)), show decide ((-1 : Int) < 0) = true from rfl, spec_lsFirst.j2.v_eq, if_pos rfl, if_pos (Int.natCast_nonneg i), if_pos (cast_lt (by omega)), e, if_pos (Int.natCast_nonneg _), if_pos (cast_lt (by omega)), descGo]
    by_cases c : rd p (i : Int) > rd p ((i : Int) + 1)
    · have c' : rd p (i : Int) > rd p ((i + 1 : Nat) : Int) := c
      rw [if_pos c', if_pos c, spec_lsFirst.l1.v_eq]
      have n0 : decide (((i : Int)) < 0) = false := decide_eq_false (by omega)
      rw [n0, spec_lsFirst.ok_j p acc i _ (by omega) hp ha, ite_self]
      simp only [toNat_cast]
    · have c' : ¬ rd p (i : Int) > rd p ((i + 1 : Nat) : Int) := c
      rw [if_neg c', if_neg c, ih (i + 1) (by omega)]
theorem spec_lsFirst.ok_0 : ∀ (k : Nat) (p acc : List Int), invC p = k → 1 ≤ p.length → p.length ≤ 8 → acc.length + k ≤ 1000 → spec_lsFirst.l0.v p acc = some (acc ++ leastL p) := by
  intro k
  induction k with
  | zero =>
    intro p acc hk h1 h8 ha
    rw [spec_lsFirst.l0.v_eq]
    have s := spec_lsFirst.ok_1 p acc h1 (by omega) (by omega) (p.length - 1) 0 (by omega)
    refine Eq.trans s ?_
    cases e : desc p with
    | nil => unfold desc at e; simp only [e]; rw [leastL_nil (by unfold desc; exact e), List.append_nil]
    | cons a r => obtain ⟨j, _, _, _, hc⟩ := desc_head e; omega
  | succ k ih =>
    intro p acc hk h1 h8 ha
    rw [spec_lsFirst.l0.v_eq]
    have s := spec_lsFirst.ok_1 p acc h1 (by omega) (by omega) (p.length - 1) 0 (by omega)
    refine Eq.trans s ?_
    cases e : desc p with
    | nil => unfold desc at e; simp only [e]; rw [leastL_nil (by unfold desc; exact e), List.append_nil]
    | cons a r =>
      rw [leastL_cons e]
      obtain ⟨j, rfl, hj, hr, hc⟩ := desc_head e
      unfold desc at e
      simp only [e, toNat_cast]
      rw [ih _ _ (by omega) (by rw [swp_length]; omega) (by rw [swp_length]; omega) (by simp; omega), List.append_assoc]
      rfl
theorem spec_lsFirst.ok (p : List Int) (h1 : 1 ≤ p.length) (h8 : p.length ≤ 8) : spec_lsFirst.f.v p = some (leastL p) := by
  have := invC_le p h8
  rw [spec_lsFirst.f.v_eq, spec_l1Own.ok p (by omega), Option.bind_some, spec_lsFirst.ok_0 _ p [] rfl h1 h8 (by simp; omega), List.nil_append]

theorem spec_LeastLadder.ok (p : List Int) : spec_LeastLadder.f.v p = some (if isOrd p = true ∧ 2 ≤ p.length then ((p.length : Int), leastL p, true) else (0, [], false)) := by
  rw [spec_LeastLadder.f.v_eq, spec_laOrder.ok, Option.bind_some]
  by_cases h : isOrd p = true
  · have hl := isOrd_len h
    by_cases h2 : 2 ≤ p.length
    · rw [if_pos h, if_neg (by omega), if_pos ⟨h, h2⟩, spec_lsFirst.ok p hl.1 hl.2]; rfl
    · rw [if_pos h, if_pos (by omega), if_neg (fun x => h2 x.2)]
  · rw [if_neg h, if_neg (fun x => h x.1)]

theorem FnExactLeastLadder : laws_FnExactLeastLadder.Pure := by
  intro l _ _ _
  refine laws_FnExactLeastLadder.f.ends l ?_
  rw [laws_FnExactLeastLadder.f.v_eq]
  by_cases h : (l.length : Int) > 1048576
  · rw [if_pos h]
  · have hl : l.length ≤ 1048576 := by omega
    rw [if_neg h]
    obtain ⟨m, r, t, hs, hi, hr⟩ : ∃ m r t, spec_LeastLadder.f.v l = some (m, r, t) ∧ impl_LeastLadder.f.v l = some (m, r, t) ∧ r.length ≤ 1048576 := by
      rw [spec_LeastLadder.ok, impl_LeastLadder.ok]
      split
      · rename_i hh
        exact ⟨_, _, _, rfl, rfl, by have := leastL_length l (isOrd_len hh.1).2; omega⟩
      · exact ⟨_, _, _, rfl, rfl, by simp⟩
    have e0 := laws_toIntS.ok l hl
    have e1 := laws_eqIntS.ok l (by omega)
    have e2 := laws_eqLadder.ok m r (by omega)
    have e3 := laws_markIntS.ok l 1 (by omega) (by omega) (by omega)
    have e4 := laws_markIntS.ok r 1 (by omega) (by omega) (by omega)
    have e5 := laws_heldIntS.ok r.length 1 (by omega) (by omega) (by omega)
    have n1 : ¬ ((1 : Int) + (l.length : Int) < 0) := by omega
    have n2 : ¬ ((1 : Int) + (r.length : Int) < 0) := by omega
    simp only [e0, hs, hi, e1, e2, e3, e4, e5, if_neg n1, if_neg n2, laws_markLadder.f.v_eq, laws_heldLadder.f.v_eq, laws_FnExactLeastLadder.j0.v_eq, laws_FnExactLeastLadder.j1.v_eq, laws_FnExactLeastLadder.j2.v_eq, Option.bind_some, bne_self_eq_false, Bool.false_eq_true, if_false, if_true]

end Go.Proofs.Ytmoobmeihckaiaa.Pure
