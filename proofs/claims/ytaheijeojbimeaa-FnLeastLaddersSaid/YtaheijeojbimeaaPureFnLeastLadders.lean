/- laws.FnLeastLadders answers true for all arguments: the plain law behind its walk. -/
import Derived.Test.YtaheijeojbimeaaVLlx1
import Derived.Test.YtaheijeojbimeaaVLlx2
import Derived.Test.YtaheijeojbimeaaVLlx3
import Derived.Test.YtaheijeojbimeaaVLlx4
import Derived.Test.YtaheijeojbimeaaVLlx5
import Derived.Test.YtaheijeojbimeaaVLlx6
import Derived.Test.YtaheijeojbimeaaVLlx7
import Derived.Test.YtaheijeojbimeaaWalkFnLeastLaddersH
import Derived.Test.YtaheijeojbimeaaLibFnLeastLadders
namespace Go.Proofs.Ytaheijeojbimeaa.Pure
open Go.RowKit Go.Proofs.Ytaheijeojbimeaa.PLl Go.Proofs.YtaheijeojbimeaaW.PrintWords Go.Proofs.YtaheijeojbimeaaW.PrintLast Go.Proofs.YtaheijeojbimeaaW.PrintMore Go.Proofs.YtaheijeojbimeaaL
set_option linter.unusedVariables false
set_option linter.unusedSimpArgs false
theorem impl_descents.ok_l (p : List Int) (h1 : 1 ≤ p.length) (hp : p.length ≤ 1000) : ∀ (d i : Nat) (acc : List Int), i + 1 + d = p.length → acc.length ≤ i → impl_descents.l0.v p acc i = some (acc ++ descGo p d i) := by
  intro d
  induction d with
  | zero =>
    intro i acc hd ha
    rw [impl_descents.l0.v_eq, succ_wrap (show i < p.length by omega) (by omega), if_neg (cast_nlt (by omega)), descGo, List.append_nil]
  | succ d ih =>
    intro i acc hd ha
    rw [impl_descents.l0.v_eq, succ_wrap (show i < p.length by omega) (by omega), if_pos (cast_lt (by omega)), if_pos (Int.natCast_nonneg i), if_pos (cast_lt (by omega)), if_pos (Int.natCast_nonneg _), descGo]
    by_cases e : rd p (i : Int) > rd p ((i : Int) + 1)
    · have e' : rd p (i : Int) > rd p ((i + 1 : Nat) : Int) := e
      rw [if_pos e', if_pos e, if_pos (by omega), ih (i + 1) _ (by omega) (by simp; omega), List.append_assoc]; rfl
    · have e' : ¬ rd p (i : Int) > rd p ((i + 1 : Nat) : Int) := e
      rw [if_neg e', if_neg e, ih (i + 1) _ (by omega) (by omega)]
theorem impl_descents.ok (p : List Int) (h1 : 1 ≤ p.length) (hp : p.length ≤ 1000) : impl_descents.f.v p = some (desc p) := by
  rw [impl_descents.f.v_eq]
  have := impl_descents.ok_l p h1 hp (p.length - 1) 0 [] (by omega) (by simp)
  simpa [desc] using this
theorem slices_Index_int_int.ok_l (v : Int) (xs : List Int) (hn : xs.length ≤ 140737488355328) : ∀ (d i : Nat), xs.length - i = d → ∃ r, slices_Index_int_int.l0.v xs v xs.length i = some r ∧ decide (r ≥ 0) = decide (v ∈ xs.drop i) := by
  intro d
  induction d with
  | zero =>
    intro i hd
    refine ⟨-1, ?_, ?_⟩
    · rw [slices_Index_int_int.l0.v_eq, if_neg (cast_nlt (by omega))]
    · rw [List.drop_eq_nil_of_le (by omega)]; simp
  | succ d ih =>
    intro i hd
    have h : i < xs.length := by omega
    obtain ⟨r, hr, hr'⟩ := ih (i + 1) (by omega)
    rw [slices_Index_int_int.l0.v_eq, if_pos (cast_lt h), if_pos (Int.natCast_nonneg i), if_pos (cast_lt h), succ_wrap h hn, hr, drop_rd xs i h]
    by_cases e : v = rd xs (i : Int)
    · rw [if_pos e]; exact ⟨i, rfl, by simp [e, Int.natCast_nonneg]⟩
    · rw [if_neg e]; exact ⟨r, rfl, by rw [hr']; simp [e]⟩
theorem slices_Contains_int_int.ok (v : Int) (xs : List Int) (hn : xs.length ≤ 140737488355328) : slices_Contains_int_int.f.v xs v = some (decide (v ∈ xs)) := by
  obtain ⟨r, hr, hr'⟩ := slices_Index_int_int.ok_l v xs hn xs.length 0 (by omega)
  have e : slices_Index_int_int.f.v xs v = some r := by rw [slices_Index_int_int.f.v_eq]; exact hr
  rw [slices_Contains_int_int.f.v_eq, e, Option.bind_some, hr', List.drop_zero]
theorem impl_isOrder.ok_l (p : List Int) (hn : p.length ≤ 8) : ∀ (d i : Nat), p.length - i = d → impl_isOrder.l0.v p p p.length i = some (ordGo p.length (p.take i) (p.drop i)) := by
  intro d
  induction d with
  | zero =>
    intro i hd
    rw [impl_isOrder.l0.v_eq, if_neg (cast_nlt (by omega)), List.drop_eq_nil_of_le (by omega)]
    rfl
  | succ d ih =>
    intro i hd
    have h : i < p.length := by omega
    rw [impl_isOrder.l0.v_eq, if_pos (cast_lt h), if_pos (Int.natCast_nonneg i), if_pos (cast_lt h), succ_wrap h (by omega), ih (i + 1) (by omega), drop_rd p i h, take_rd p i h]
    rw [wrap_id (x := (p.length : Int) - 1) (by omega) (by omega), toNat_cast, slices_Contains_int_int.ok _ _ (by rw [List.length_take]; omega)]
    unfold impl_between.f
    rw [ordGo_cons]
    by_cases a : 0 ≤ rd p (i : Int)
    · by_cases b : rd p (i : Int) ≤ (p.length : Int) - 1
      · have hi : (i : Int) ≤ (p.length : Int) := by omega
        by_cases c : rd p (i : Int) ∈ p.take i
        · simp only [ge_iff_le, a, b, c, hi, decide_true, decide_false, if_true, if_false, Option.bind_some, true_and, and_true, and_self, Bool.false_eq_true]
        · simp only [ge_iff_le, a, b, c, hi, decide_true, decide_false, if_true, if_false, Option.bind_some, true_and, and_true, and_self, Bool.false_eq_true]
      · simp [a, b]
    · simp [a]
theorem impl_isOrder.ok (p : List Int) : impl_isOrder.f.v p = some (isOrd p) := by
  rw [impl_isOrder.f.v_eq]
  unfold impl_between.f isOrd
  by_cases h : 1 ≤ p.length ∧ p.length ≤ 8
  · have := impl_isOrder.ok_l p h.2 p.length 0 (by omega)
    have h1 : (p.length : Int) ≥ 1 := by omega
    have h2 : (p.length : Int) ≤ 8 := by omega
    rw [if_pos h1, if_pos h, decide_eq_true h2]
    simpa using this
  · rw [if_neg h]
    by_cases h1 : (p.length : Int) ≥ 1
    · have h2 : ¬ (p.length : Int) ≤ 8 := by omega
      rw [if_pos h1, decide_eq_false h2]; rfl
    · rw [if_neg h1]; rfl
theorem impl_DescentsOf.ok (p : List Int) : impl_DescentsOf.f.v p = some (if isOrd p = true then (desc p, true) else ([], false)) := by
  rw [impl_DescentsOf.f.v_eq, impl_isOrder.ok, Option.bind_some]
  by_cases h : isOrd p = true
  · have hl := isOrd_len h
    rw [if_pos h, if_pos h, impl_descents.ok p hl.1 (by omega)]; rfl
  · rw [if_neg h, if_neg h]
theorem impl_inverted.ok_i (p : List Int) (hp : p.length ≤ 8) (i : Nat) (hi : i < p.length) : ∀ (d j : Nat) (acc : List (List Int)), j + d = p.length → acc.length + d ≤ 1000 → impl_inverted.l1.v p acc i j p.length i = impl_inverted.l0.v p (acc ++ invRow p i j d) p.length ((i + 1 : Nat) : Int) := by
  intro d
  induction d with
  | zero =>
    intro j acc hd ha
    rw [impl_inverted.l1.v_eq, if_neg (cast_nlt (by omega)), succ_wrap hi (by omega), invRow, List.append_nil]
  | succ d ih =>
    intro j acc hd ha
    have hj : j < p.length := by omega
    rw [impl_inverted.l1.v_eq, if_pos (cast_lt hj), if_pos (Int.natCast_nonneg i), if_pos (cast_lt hi), if_pos (Int.natCast_nonneg j), succ_wrap hj (by omega), invRow]
    by_cases e : rd p (i : Int) > rd p (j : Int)
    · rw [if_pos e, if_pos e, if_pos (by omega), ih (j + 1) _ (by omega) (by simp; omega), List.append_assoc]; rfl
    · rw [if_neg e, if_neg e, ih (j + 1) _ (by omega) (by omega)]
theorem impl_inverted.ok_o (p : List Int) (hp : p.length ≤ 8) : ∀ (d i : Nat) (acc : List (List Int)), i + d = p.length → acc.length + d * p.length ≤ 900 → impl_inverted.l0.v p acc p.length i = some (acc ++ invFrom p i d) := by
  intro d
  induction d with
  | zero =>
    intro i acc hd ha
    rw [impl_inverted.l0.v_eq, if_neg (cast_nlt (by omega)), invFrom, List.append_nil]
  | succ d ih =>
    intro i acc hd ha
    have hi : i < p.length := by omega
    rw [Nat.succ_mul] at ha
    have h1 := invRow_length p i (p.length - (i + 1)) (i + 1)
    rw [impl_inverted.l0.v_eq, if_pos (cast_lt hi), succ_wrap hi (by omega), impl_inverted.ok_i p hp i hi (p.length - (i + 1)) (i + 1) acc (by omega) (by omega), ih (i + 1) _ (by omega) (by rw [List.length_append]; omega), invFrom, List.append_assoc]
theorem impl_inverted.ok (p : List Int) (hp : p.length ≤ 8) : impl_inverted.f.v p = some (invs p) := by
  rw [impl_inverted.f.v_eq]
  have h2 : p.length * p.length ≤ 8 * 8 := Nat.mul_le_mul hp hp
  have := impl_inverted.ok_o p hp p.length 0 [] (by omega) (by simp; omega)
  simpa [invs] using this
theorem impl_inversions.ok (p : List Int) (hp : p.length ≤ 8) : impl_inversions.f.v p = some ((invs p).length : Int) := by
  rw [impl_inversions.f.v_eq, impl_inverted.ok p hp]; rfl
theorem impl_InversionsOf.ok (p : List Int) : impl_InversionsOf.f.v p = some (if isOrd p = true then (((invs p).length : Int), true) else (0, false)) := by
  rw [impl_InversionsOf.f.v_eq, impl_isOrder.ok, Option.bind_some]
  by_cases h : isOrd p = true
  · rw [if_pos h, if_pos h, impl_inversions.ok p (isOrd_len h).2]; rfl
  · rw [if_neg h, if_neg h]
theorem impl_InvertedPairs.ok (p : List Int) : impl_InvertedPairs.f.v p = if isOrd p = true then some (invs p, true) else some ([], false) := by
  rw [impl_InvertedPairs.f.v_eq, impl_isOrder.ok]
  simp only [Option.bind_some]
  split
  · rename_i h
    rw [impl_inverted.ok p (isOrd_len h).2]; rfl
  · rfl
theorem impl_isLadder.ok (n : Int) (l : List Int) : impl_isLadder.f n l = some (good n l) := by
  unfold impl_isLadder.f good
  have h : (!(l.any (impl_isLadder.bad n))) = l.all (inB n) := by
    rw [List.not_any_eq_all_not]
    congr 1; funext x
    unfold impl_isLadder.bad inB
    exact Bool.not_not _
  rw [h]
theorem impl_over.ok (w r : Int) (h0 : -1000 ≤ r) (h1 : r ≤ 1000) : impl_over.f w r = some (over w r) := by
  unfold impl_over.f over
  rw [wrap_id (x := r + 1) (by omega) (by omega)]
  by_cases a : w = r
  · rw [if_pos a, if_pos a]
  · rw [if_neg a, if_neg a]
    by_cases b : w = r + 1
    · rw [if_pos b, if_pos b]
    · rw [if_neg b, if_neg b]
theorem impl_way.ok_l (xs : List Int) (hn : xs.length ≤ 1000) (hb : ∀ x ∈ xs, -1000 ≤ x ∧ x ≤ 1000) : ∀ (d i : Nat) (w : Int) (acc : List Int), i + d = xs.length → acc.length ≤ i + 1 → impl_way.l0.v w acc xs xs.length i = some (acc ++ wayT w (xs.drop i)) := by
  intro d
  induction d with
  | zero =>
    intro i w acc hd ha
    rw [impl_way.l0.v_eq, if_neg (cast_nlt (by omega)), List.drop_eq_nil_of_le (by omega), wayT, List.append_nil]
  | succ d ih =>
    intro i w acc hd ha
    have h : i < xs.length := by omega
    obtain ⟨h0, h1⟩ := hb _ (rd_mem xs i h)
    rw [impl_way.l0.v_eq, if_pos (cast_lt h), if_pos (Int.natCast_nonneg i), if_pos (cast_lt h), impl_over.ok w _ h0 h1, Option.bind_some, if_pos (by omega), succ_wrap h (by omega), ih (i + 1) _ _ (by omega) (by simp; omega), drop_rd xs i h, wayT, List.append_assoc]
    rfl
theorem impl_way.ok (n : Int) (xs : List Int) (w : Int) (hn : xs.length ≤ 1000) (hb : ∀ x ∈ xs, -1000 ≤ x ∧ x ≤ 1000) : impl_way.f.v n xs w = some (wayL w xs) := by
  rw [impl_way.f.v_eq]
  have := impl_way.ok_l xs hn hb xs.length 0 w [w] (by omega) (by simp)
  simpa [wayL] using this
theorem good_wide' {n : Int} {l : List Int} (h : good n l = true) : l.length ≤ 1000 ∧ ∀ x ∈ l, -1000 ≤ x ∧ x ≤ 1000 := by
  obtain ⟨_, h2, h3, h4⟩ := good_iff.1 h
  exact ⟨by omega, fun x hx => by have := h4 x hx; omega⟩
theorem impl_result.ok_l (n : Int) (l : List Int) (hg : good n l = true) : ∀ (d i : Nat) (acc : List Int), i + d = n.toNat → acc.length ≤ i → impl_result.l0.v n l acc n i = some (acc ++ resGo l d i) := by
  obtain ⟨g1, g2, _, _⟩ := good_iff.1 hg
  obtain ⟨h1, h2⟩ := good_wide' hg
  intro d
  induction d with
  | zero =>
    intro i acc hd ha
    rw [impl_result.l0.v_eq, if_neg (by omega), resGo, List.append_nil]
  | succ d ih =>
    intro i acc hd ha
    rw [impl_result.l0.v_eq, if_pos (by omega), impl_way.ok n l _ h1 h2, Option.bind_some, wayL_length, wrap_id (x := ((l.length + 1 : Nat) : Int) - 1) (by omega) (by omega), show ((l.length + 1 : Nat) : Int) - 1 = (l.length : Int) by omega, if_pos (Int.natCast_nonneg _), if_pos (by omega), if_pos (by omega), wayL_last, succ_wrap (show i < n.toNat by omega) (by omega), ih (i + 1) _ (by omega) (by simp; omega), resGo, List.append_assoc]; rfl
theorem impl_result.ok (n : Int) (l : List Int) (hg : good n l = true) : impl_result.f.v n l = some (resL n l) := by
  rw [impl_result.f.v_eq]
  have := impl_result.ok_l n l hg n.toNat 0 [] (by omega) (by simp)
  simpa [resL] using this
theorem impl_needless.ok (n : Int) (l : List Int) (hg : good n l = true) : impl_needless.f.v n l = some (needL n l) := by
  obtain ⟨g1, g2, _, _⟩ := good_iff.1 hg
  have hb := needL_bounds hg
  unfold needL at hb
  rw [impl_needless.f.v_eq, impl_result.ok n l hg, Option.bind_some, impl_inversions.ok _ (by rw [resL_length]; omega), Option.bind_some, wrap_id (by omega) (by omega)]; rfl
theorem impl_IsLeast.ok (n : Int) (l : List Int) : impl_IsLeast.f.v n l = some (if good n l = true then (needL n l == 0, true) else (false, false)) := by
  rw [impl_IsLeast.f.v_eq, impl_isLadder.ok, Option.bind_some]
  by_cases h : good n l = true
  · rw [if_pos h, if_pos h, impl_needless.ok n l h]; rfl
  · rw [if_neg h, if_neg h]
theorem impl_IsOrder.ok (p : List Int) : impl_IsOrder.f.v p = some (isOrd p) := by
  rw [impl_IsOrder.f.v_eq, impl_isOrder.ok]; rfl
theorem slices_Clone_int_int.ok (l : List Int) (h : l.length ≤ 1048576) : slices_Clone_int_int.f l = some l := by
  unfold slices_Clone_int_int.f
  rw [if_pos (by omega)]
theorem impl_exchanged.ok (p : List Int) (j : Nat) (hj : j + 1 < p.length) (hp : p.length ≤ 1048576) : impl_exchanged.f p (j : Int) = some (swp p j (j + 1)) := by
  have e : wrap64 ((j : Int) + 1) = ((j + 1 : Nat) : Int) := succ_wrap (show j < p.length by omega) (by omega)
  unfold impl_exchanged.f
  rw [slices_Clone_int_int.ok p hp, Option.bind_some, e, if_pos (Int.natCast_nonneg _), if_pos (cast_lt hj), if_pos (Int.natCast_nonneg _), if_pos (cast_lt (by omega)), toNat_cast, toNat_cast]
  rfl
theorem impl_least.ok_l (n : Int) : ∀ (k : Nat) (p acc : List Int), invC p = k → 1 ≤ p.length → p.length ≤ 8 → acc.length + k ≤ 1000 → impl_least.l0.v p (desc p) n acc = some (n, acc ++ leastL p) := by
  intro k
  induction k with
  | zero =>
    intro p acc hk h1 h8 ha
    cases e : desc p with
    | nil => rw [impl_least.l0.v_eq, if_neg (by simp), leastL_nil e, List.append_nil]
    | cons a r => obtain ⟨j, _, _, _, hc⟩ := desc_head e; omega
  | succ k ih =>
    intro p acc hk h1 h8 ha
    cases e : desc p with
    | nil => rw [impl_least.l0.v_eq, if_neg (by simp), leastL_nil e, List.append_nil]
    | cons a r =>
      rw [leastL_cons e]
      obtain ⟨j, rfl, hj, hr, hc⟩ := desc_head e
      have e0 : rd ((j : Int) :: r) 0 = (j : Int) := rfl
      rw [impl_least.l0.v_eq, if_pos (by simp), if_pos (by simp), if_pos (by omega), e0, impl_exchanged.ok p j hj (by omega), Option.bind_some, impl_descents.ok _ (by rw [swp_length]; omega) (by rw [swp_length]; omega), Option.bind_some, ih _ _ (by omega) (by rw [swp_length]; omega) (by rw [swp_length]; omega) (by simp; omega), List.append_assoc, toNat_cast]
      rfl
theorem impl_least.ok (p : List Int) (h1 : 1 ≤ p.length) (h8 : p.length ≤ 8) : impl_least.f.v p = some ((p.length : Int), leastL p) := by
  have := invC_le p h8
  rw [impl_least.f.v_eq, impl_descents.ok p h1 (by omega), Option.bind_some, impl_least.ok_l _ _ p [] rfl h1 h8 (by simp; omega), List.nil_append]
theorem impl_LeastLadder.ok (p : List Int) : impl_LeastLadder.f.v p = some (if isOrd p = true ∧ 2 ≤ p.length then ((p.length : Int), leastL p, true) else (0, [], false)) := by
  rw [impl_LeastLadder.f.v_eq, impl_isOrder.ok, Option.bind_some]
  by_cases h : isOrd p = true
  · have hl := isOrd_len h
    by_cases h2 : 2 ≤ p.length
    · rw [if_pos h, if_neg (by omega), if_pos ⟨h, h2⟩, impl_least.ok p hl.1 hl.2]; rfl
    · rw [if_pos h, if_pos (by omega), if_neg (fun x => h2 x.2)]
  · rw [if_neg h, if_neg (fun x => h x.1)]
theorem impl_identity.ok_l (n : Nat) (hn : n ≤ 1000) : ∀ (d i : Nat) (acc : List Int), i + d = n → acc.length ≤ i → impl_identity.l0.v acc n i = some (acc ++ upFrom d i) := by
  intro d
  induction d with
  | zero =>
    intro i acc hd ha
    rw [impl_identity.l0.v_eq, if_neg (cast_nlt (by omega)), upFrom, List.append_nil]
  | succ d ih =>
    intro i acc hd ha
    have h : i < n := by omega
    rw [impl_identity.l0.v_eq, if_pos (cast_lt h), if_pos (by omega), succ_wrap h (by omega), ih (i + 1) _ (by omega) (by simp; omega), upFrom, List.append_assoc]; rfl
theorem impl_identity.ok (n : Nat) (hn : n ≤ 1000) : impl_identity.f.v n = some (ident n) := by
  rw [impl_identity.f.v_eq]
  have := impl_identity.ok_l n hn n 0 [] (by omega) (by simp)
  simpa [ident] using this
theorem slices_Reverse_int_int.ok_l (l : List Int) (hn : l.length ≤ 1048576) : ∀ (d i : Nat) (xs : List Int), l.length ≤ 2 * i + d → i ≤ l.length → xs.length = l.length → (∀ q, q < l.length → xs.getD q 0 = if q < i ∨ l.length < q + i + 1 then l.getD (l.length - 1 - q) 0 else l.getD q 0) → slices_Reverse_int_int.l0.v xs i ((l.length : Int) - 1 - (i : Int)) = some l.reverse := by
  intro d
  induction d with
  | zero =>
    intro i xs hd hi hx hq
    rw [slices_Reverse_int_int.l0.v_eq, if_neg (by omega)]
    congr 1
    refine List.ext_getElem (by simp [hx]) (fun q h1 h2 => ?_)
    have h3 := hq q (by omega)
    rw [List.getD_eq_getElem?_getD, List.getElem?_eq_getElem h1] at h3
    rw [List.getElem_reverse, show xs[q] = (some xs[q]).getD 0 from rfl, h3]
    by_cases hc : q < i ∨ l.length < q + i + 1
    · rw [if_pos hc, List.getD_eq_getElem?_getD, List.getElem?_eq_getElem (by omega)]; rfl
    · rw [if_neg hc, List.getD_eq_getElem?_getD, List.getElem?_eq_getElem (by omega)]
      have : l.length - 1 - q = q := by omega
      simp only [this]; rfl
  | succ d ih =>
    intro i xs hd hi hx hq
    by_cases h : 2 * i + 1 < l.length
    · obtain ⟨j, hj⟩ : ∃ j : Nat, j = l.length - 1 - i := ⟨_, rfl⟩
      have hj' : (l.length : Int) - 1 - (i : Int) = (j : Int) := by omega
      have hrj := hq j (by omega)
      have hri := hq i (by omega)
      rw [if_neg (by omega)] at hrj hri
      rw [hj', slices_Reverse_int_int.l0.v_eq, if_pos (by omega), if_pos (Int.natCast_nonneg j), if_pos (by omega), if_pos (Int.natCast_nonneg i), if_pos (by omega), toNat_cast, toNat_cast, wrap_id (x := (i : Int) + 1) (by omega) (by omega), wrap_id (x := (j : Int) - 1) (by omega) (by omega), show (j : Int) - 1 = (l.length : Int) - 1 - ((i + 1 : Nat) : Int) by omega, show (i : Int) + 1 = ((i + 1 : Nat) : Int) by omega]
      refine ih (i + 1) _ (by omega) (by omega) (by rw [List.length_set, List.length_set]; exact hx) (fun q hq' => ?_)
      have hold := hq q hq'
      rw [List.getD_eq_getElem?_getD, List.getElem?_set, List.getElem?_set]
      by_cases e1 : j = q
      · subst e1
        rw [if_pos rfl, if_pos (by rw [List.length_set]; omega), if_pos (by omega), show l.length - 1 - j = i by omega, ← hri]; rfl
      · rw [if_neg e1]
        by_cases e2 : i = q
        · subst e2
          rw [if_pos rfl, if_pos (by omega), if_pos (by omega), ← hj, ← hrj]; rfl
        · rw [if_neg e2, ← List.getD_eq_getElem?_getD, hold]
          by_cases hc : q < i ∨ l.length < q + i + 1
          · rw [if_pos hc, if_pos (by omega)]
          · rw [if_neg hc, if_neg (by omega)]
    · refine (?_ : slices_Reverse_int_int.l0.v xs i ((l.length : Int) - 1 - (i : Int)) = some l.reverse)
      rw [slices_Reverse_int_int.l0.v_eq, if_neg (by omega)]
      congr 1
      refine List.ext_getElem (by simp [hx]) (fun q h1 h2 => ?_)
      have h3 := hq q (by omega)
      rw [List.getD_eq_getElem?_getD, List.getElem?_eq_getElem h1] at h3
      rw [List.getElem_reverse, show xs[q] = (some xs[q]).getD 0 from rfl, h3]
      by_cases hc : q < i ∨ l.length < q + i + 1
      · rw [if_pos hc, List.getD_eq_getElem?_getD, List.getElem?_eq_getElem (by omega)]; rfl
      · rw [if_neg hc, List.getD_eq_getElem?_getD, List.getElem?_eq_getElem (by omega)]
        have : l.length - 1 - q = q := by omega
        simp only [this]; rfl
theorem slices_Reverse_int_int.ok (l : List Int) (hn : l.length ≤ 1048576) : slices_Reverse_int_int.f.v l = some l.reverse := by
  rw [slices_Reverse_int_int.f.v_eq, wrap_id (by omega) (by omega)]
  have := slices_Reverse_int_int.ok_l l hn l.length 0 l (by omega) (by omega) rfl (fun q hq => by rw [if_neg (by omega)])
  simpa using this
theorem impl_LongestLadder.ok (n : Int) : impl_LongestLadder.f.v n = some (if 2 ≤ n ∧ n ≤ 8 then (n, leastL (ident n.toNat).reverse, true) else (0, [], false)) := by
  rw [impl_LongestLadder.f.v_eq]
  unfold impl_between.f
  by_cases h0 : 2 ≤ n
  · rw [if_pos h0, Option.bind_some]
    by_cases h1 : n ≤ 8
    · have e : impl_identity.f.v n = some (ident n.toNat) := by
        have := impl_identity.ok n.toNat (by omega)
        rwa [Int.toNat_of_nonneg (by omega)] at this
      rw [decide_eq_true h1, if_pos rfl, if_pos ⟨h0, h1⟩, e, Option.bind_some, slices_Reverse_int_int.ok _ (by rw [ident_length]; omega), Option.bind_some, impl_least.ok _ (by rw [List.length_reverse, ident_length]; omega) (by rw [List.length_reverse, ident_length]; omega), List.length_reverse, ident_length, Int.toNat_of_nonneg (by omega)]; rfl
    · rw [decide_eq_false h1, if_neg (by simp), if_neg (fun x => h1 x.2)]
  · rw [if_neg h0, Option.bind_some, if_neg (by simp), if_neg (fun x => h0 x.1)]
theorem impl_hasWire.ok (n : Int) (l : List Int) (w : Int) : impl_hasWire.f n l w = some (hasW n l w) := by
  unfold impl_hasWire.f
  rw [impl_isLadder.ok, Option.bind_some]
  unfold hasW impl_between.f
  by_cases h : good n l = true
  · obtain ⟨h1, h2, _, _⟩ := good_iff.1 h
    rw [if_pos h, h, Bool.true_and, wrap_id (x := n - 1) (by omega) (by omega)]
    by_cases a : 0 ≤ w
    · rw [if_pos (show w ≥ 0 from a), decide_eq_true a, Bool.true_and]; rfl
    · rw [if_neg (show ¬ w ≥ 0 from a), decide_eq_false a, Bool.false_and]; rfl
  · rw [if_neg h, Bool.eq_false_iff.2 h, Bool.false_and]
theorem impl_MeetingsOf.ok_l (l : List Int) (a b : Int) (hn : l.length ≤ 1000) : ∀ (d i c : Nat), i + d = l.length → c ≤ i → impl_MeetingsOf.l0.v (wayL a l) (wayL b l) c l.length i = some (((c + meetGo (rd (wayL a l) (i : Int)) (rd (wayL b l) (i : Int)) (l.drop i) : Nat) : Int), true) := by
  intro d
  induction d with
  | zero =>
    intro i c hd hc
    rw [impl_MeetingsOf.l0.v_eq, if_neg (cast_nlt (by omega)), List.drop_eq_nil_of_le (by omega)]; rfl
  | succ d ih =>
    intro i c hd hc
    have h : i < l.length := by omega
    have la := wayL_length a l
    have lb := wayL_length b l
    have q1 : (i : Int) < ((wayL a l).length : Int) := by omega
    have q2 : (i : Int) < ((wayL b l).length : Int) := by omega
    have q3 : ((i + 1 : Nat) : Int) < ((wayL a l).length : Int) := by omega
    have q4 : ((i + 1 : Nat) : Int) < ((wayL b l).length : Int) := by omega
    rw [impl_MeetingsOf.l0.v_eq, if_pos (cast_lt h), if_pos (Int.natCast_nonneg i), if_pos q1, succ_wrap h (by omega), if_pos (Int.natCast_nonneg _), if_pos q4, drop_rd l i h, meetGo, ← wayL_next a l i h, ← wayL_next b l i h]
    by_cases e1 : rd (wayL a l) (i : Int) = rd (wayL b l) ((i + 1 : Nat) : Int)
    · rw [if_pos e1, if_pos q2, if_pos q3]
      by_cases e2 : rd (wayL b l) (i : Int) = rd (wayL a l) ((i + 1 : Nat) : Int)
      · rw [if_pos e2, if_pos ⟨e2.symm, e1.symm⟩, wrap_id (x := (c : Int) + 1) (by omega) (by omega), show (c : Int) + 1 = ((c + 1 : Nat) : Int) by omega, ih (i + 1) (c + 1) (by omega) (by omega), Nat.add_assoc]
      · rw [if_neg e2, if_neg (fun z => e2 z.1.symm), ih (i + 1) c (by omega) (by omega), Nat.zero_add]
    · rw [if_neg e1, if_neg (fun z => e1 z.2.symm), ih (i + 1) c (by omega) (by omega), Nat.zero_add]
theorem impl_MeetingsOf.ok (n : Int) (l : List Int) (a b : Int) : impl_MeetingsOf.f.v n l a b = some (if hasW n l a = true ∧ hasW n l b = true ∧ a ≠ b then (((meetGo a b l : Nat) : Int), true) else (0, false)) := by
  rw [impl_MeetingsOf.f.v_eq, impl_hasWire.ok, Option.bind_some]
  simp only [impl_MeetingsOf.j0.v_eq]
  by_cases h : hasW n l a = true
  · rw [if_pos h, impl_hasWire.ok, Option.bind_some]
    by_cases h2 : hasW n l b = true
    · rw [if_pos h2]
      by_cases h3 : a = b
      · rw [if_pos (beq_iff_eq.2 h3), if_neg (fun z => z.2.2 h3)]
      · obtain ⟨hg, _⟩ := hasW_iff.1 h
        obtain ⟨w1, w2⟩ := good_wide' hg
        rw [if_neg (fun z => h3 (beq_iff_eq.1 z)), if_pos ⟨h, h2, h3⟩, impl_way.ok n l a w1 w2, impl_way.ok n l b w1 w2, Option.bind_some, Option.bind_some]
        have := impl_MeetingsOf.ok_l l a b w1 l.length 0 0 (by omega) (by omega)
        simpa [wayL, rd] using this
    · rw [if_neg h2, if_pos trivial, if_neg (fun z => h2 z.2.1)]
  · rw [if_neg h, if_pos trivial, if_neg (fun z => h z.1)]
theorem impl_MeetTwice.ok_i (n : Int) (l : List Int) (hg : good n l = true) (a : Nat) (ha : a < n.toNat) : ∀ (d b : Nat), b + d = n.toNat → a < b → impl_MeetTwice.l1.v (a : Int) (b : Int) n a n l = match twiceIn l a d b with | some r => some (r, true) | none => impl_MeetTwice.l0.v n ((a + 1 : Nat) : Int) n l := by
  obtain ⟨g1, g2, _, _⟩ := good_iff.1 hg
  intro d
  induction d with
  | zero =>
    intro b hd hab
    rw [impl_MeetTwice.l1.v_eq, if_neg (by omega), twiceIn, succ_wrap (show a < n.toNat from ha) (by omega)]
  | succ d ih =>
    intro b hd hab
    have hb : b < n.toNat := by omega
    rw [impl_MeetTwice.l1.v_eq, if_pos (by omega), succ_wrap hb (by omega), impl_MeetingsOf.ok, if_pos (⟨hasW_iff.2 ⟨hg, by omega, by omega⟩, hasW_iff.2 ⟨hg, by omega, by omega⟩, by omega⟩ : hasW n l (a : Int) = true ∧ hasW n l (b : Int) = true ∧ (a : Int) ≠ (b : Int)), Option.bind_some, twiceIn]
    by_cases e : meetGo (a : Int) (b : Int) l > 1
    · rw [if_pos (show ((meetGo (a : Int) (b : Int) l : Nat) : Int) > 1 by omega), if_pos e]
    · rw [if_neg (show ¬ ((meetGo (a : Int) (b : Int) l : Nat) : Int) > 1 by omega), if_neg e, ih (b + 1) (by omega) (by omega)]
theorem impl_MeetTwice.ok_o (n : Int) (l : List Int) (hg : good n l = true) : ∀ (d a : Nat), a + d = n.toNat → impl_MeetTwice.l0.v n (a : Int) n l = some (match twiceGo l n.toNat d a with | some r => (r, true) | none => ([], false)) := by
  obtain ⟨g1, g2, _, _⟩ := good_iff.1 hg
  intro d
  induction d with
  | zero =>
    intro a hd
    rw [impl_MeetTwice.l0.v_eq, if_neg (by omega), twiceGo]
  | succ d ih =>
    intro a hd
    have ha : a < n.toNat := by omega
    rw [impl_MeetTwice.l0.v_eq, if_pos (by omega), succ_wrap ha (by omega), impl_MeetTwice.ok_i n l hg a ha (n.toNat - (a + 1)) (a + 1) (by omega) (by omega), twiceGo]
    cases twiceIn l a (n.toNat - (a + 1)) (a + 1) with
    | some r => rfl
    | none => exact ih (a + 1) (by omega)
theorem impl_MeetTwice.ok (n : Int) (l : List Int) : impl_MeetTwice.f.v n l = some (if good n l = true then (match twiceL n l with | some r => (r, true) | none => ([], false)) else ([], false)) := by
  rw [impl_MeetTwice.f.v_eq, impl_isLadder.ok, Option.bind_some]
  by_cases h : good n l = true
  · rw [if_pos h, if_pos h]
    have := impl_MeetTwice.ok_o n l h n.toNat 0 (by omega)
    simpa [twiceL] using this
  · rw [if_neg h, if_neg h]
theorem impl_NeedlessRungs.ok (n : Int) (l : List Int) : impl_NeedlessRungs.f.v n l = some (if good n l = true then (needL n l, true) else (0, false)) := by
  rw [impl_NeedlessRungs.f.v_eq, impl_isLadder.ok, Option.bind_some]
  by_cases h : good n l = true
  · rw [if_pos h, if_pos h, impl_needless.ok n l h]; rfl
  · rw [if_neg h, if_neg h]
theorem impl_ReduceLadder.ok (n : Int) (l : List Int) : impl_ReduceLadder.f.v n l = some (if good n l = true then (n, leastL (resL n l), true) else (0, [], false)) := by
  rw [impl_ReduceLadder.f.v_eq, impl_isLadder.ok, Option.bind_some]
  by_cases h : good n l = true
  · have g := good_iff.1 h
    rw [if_pos h, if_pos h, impl_result.ok n l h, Option.bind_some, impl_least.ok _ (by rw [resL_length]; omega) (by rw [resL_length]; omega), resL_length, Int.toNat_of_nonneg (by omega)]; rfl
  · rw [if_neg h, if_neg h]
theorem laws_kSame.ok_l (a b : List Int) (hab : a.length = b.length) (ha : a.length ≤ 1000) : ∀ (d i : Nat), i + d = a.length → laws_kSame.l0.v a b a.length i = some (decide (a.drop i = b.drop i)) := by
  intro d
  induction d with
  | zero =>
    intro i hd
    rw [laws_kSame.l0.v_eq, if_neg (cast_nlt (by omega)), List.drop_eq_nil_of_le (by omega), List.drop_eq_nil_of_le (by omega)]; rfl
  | succ d ih =>
    intro i hd
    have h : i < a.length := by omega
    rw [laws_kSame.l0.v_eq, if_pos (cast_lt h), if_pos (Int.natCast_nonneg i), if_pos (cast_lt h), if_pos (cast_lt (by omega)), succ_wrap h (by omega), ih (i + 1) (by omega), drop_rd a i h, drop_rd b i (by omega)]
    by_cases e : rd a (i : Int) = rd b (i : Int)
    · rw [if_pos e, e]
      congr 1
      rw [decide_eq_decide, List.cons.injEq]
      exact ⟨fun x => ⟨rfl, x⟩, fun x => x.2⟩
    · rw [if_neg e, decide_eq_false (fun x => e (List.cons.inj x).1)]
theorem laws_kSame.ok (a b : List Int) (hab : a.length = b.length) (ha : a.length ≤ 1000) : laws_kSame.f.v a b = some (decide (a = b)) := by
  rw [laws_kSame.f.v_eq, if_pos (by omega)]
  have := laws_kSame.ok_l a b hab ha a.length 0 (by omega)
  simpa using this
theorem laws_kSame.self (a : List Int) (ha : a.length ≤ 1000) : laws_kSame.f.v a a = some true := by
  rw [laws_kSame.ok a a rfl ha]; simp
theorem laws_kLadder.self (n : Int) (l : List Int) (h : l.length ≤ 1000) : laws_kLadder.f.v n l n l = some true := by
  rw [laws_kLadder.f.v_eq, if_pos rfl, laws_kSame.self l h]
  rfl
theorem laws_kLess.ok_l (a b : List Int) (ha : a.length ≤ 1000) : ∀ (d i : Nat), i + d = a.length → i ≤ b.length → laws_kLess.l0.v a b (i : Int) = some (lexL (a.drop i) (b.drop i)) := by
  intro d
  induction d with
  | zero =>
    intro i hd hb
    rw [laws_kLess.l0.v_eq, if_neg (cast_nlt (by omega)), laws_kLess.j1.v_eq, if_neg Bool.false_ne_true, List.drop_eq_nil_of_le (show a.length ≤ i by omega), lexL, List.length_drop]
    congr 1
    rw [decide_eq_decide]
    omega
  | succ d ih =>
    intro i hd hb
    have h : i < a.length := by omega
    rw [laws_kLess.l0.v_eq, if_pos (cast_lt h), laws_kLess.j1.v_eq, drop_rd a i h]
    by_cases h2 : i < b.length
    · rw [decide_eq_true (cast_lt h2), if_pos rfl, if_pos (Int.natCast_nonneg i), if_pos (cast_lt h), if_pos (cast_lt h2), drop_rd b i h2, lexL]
      by_cases e : rd a (i : Int) = rd b (i : Int)
      · rw [if_pos e, if_pos e, succ_wrap h (by omega)]
        exact ih (i + 1) (by omega) (by omega)
      · rw [if_neg e, if_neg e]
    · rw [decide_eq_false (cast_nlt h2), if_neg Bool.false_ne_true, List.drop_eq_nil_of_le (show b.length ≤ i by omega), lexL]
      congr 1
      exact decide_eq_false (by omega)
theorem laws_kLess.ok (a b : List Int) (ha : a.length ≤ 1000) : laws_kLess.f.v a b = some (lexL a b) := by
  rw [laws_kLess.f.v_eq]
  have := laws_kLess.ok_l a b ha a.length 0 (by omega) (by omega)
  simpa using this
theorem impl_ResultOf.ok (n : Int) (l : List Int) : impl_ResultOf.f.v n l = some (if good n l = true then (resL n l, true) else ([], false)) := by
  rw [impl_ResultOf.f.v_eq, impl_isLadder.ok, Option.bind_some]
  by_cases h : good n l = true
  · rw [if_pos h, if_pos h, impl_result.ok n l h]; rfl
  · rw [if_neg h, if_neg h]
theorem laws_kResult.ok (n : Int) (l : List Int) : laws_kResult.f.v n l = some (if good n l = true then resL n l else []) := by
  rw [laws_kResult.f.v_eq, impl_ResultOf.ok, Option.bind_some]
  by_cases h : good n l = true
  · rw [if_pos h, if_pos h]; rfl
  · rw [if_neg h, if_neg h]; rfl
theorem laws_kRows.ok_l (a : List (List Int)) (ha : a.length ≤ 1000) (hx : ∀ x ∈ a, x.length ≤ 1000) : ∀ (d i : Nat), i + d = a.length → laws_kRows.l0.v a a (a.length : Int) (i : Int) = some true := by
  intro d
  induction d with
  | zero => intro i hi; rw [laws_kRows.l0.v_eq, if_neg (by omega)]
  | succ d ih =>
    intro i hi
    have h : i < a.length := by omega
    have e : rd_L2 a (i : Int) = a[i] := by
      unfold rd_L2
      rw [Int.toNat_natCast, List.getD_eq_getElem?_getD, List.getElem?_eq_getElem h, Option.getD_some]
    rw [laws_kRows.l0.v_eq, if_pos (cast_lt h), if_pos (Int.natCast_nonneg _), if_pos (cast_lt h), if_pos (cast_lt h), e, laws_kSame.self _ (hx _ (List.getElem_mem h)), Option.bind_some, if_pos rfl, succ_wrap h (by omega), ih (i + 1) (by omega)]
theorem laws_kRows.self (a : List (List Int)) (ha : a.length ≤ 1000) (hx : ∀ x ∈ a, x.length ≤ 1000) : laws_kRows.f.v a a = some true := by
  rw [laws_kRows.f.v_eq, if_pos rfl]
  exact laws_kRows.ok_l a ha hx a.length 0 (by omega)
theorem spec_l1Has.ok_l (v : Int) (xs : List Int) (hn : xs.length ≤ 140737488355328) : ∀ (d i : Nat), xs.length - i = d → spec_l1Has.l0.v v xs xs.length i = some (decide (v ∈ xs.drop i)) := by
  intro d
  induction d with
  | zero =>
    intro i hd
    rw [spec_l1Has.l0.v_eq, if_neg (cast_nlt (by omega)), List.drop_eq_nil_of_le (by omega)]
    simp
  | succ d ih =>
    intro i hd
    have h : i < xs.length := by omega
    rw [spec_l1Has.l0.v_eq, if_pos (cast_lt h), if_pos (Int.natCast_nonneg i), if_pos (cast_lt h), succ_wrap h hn, ih (i + 1) (by omega), drop_rd xs i h]
    by_cases e : rd xs (i : Int) = v
    · rw [if_pos e]; simp [e]
    · have e' : ¬ v = rd xs (i : Int) := fun h => e h.symm
      rw [if_neg e]; simp [e']
theorem spec_l1Has.ok (v : Int) (xs : List Int) (hn : xs.length ≤ 140737488355328) : spec_l1Has.f.v xs v = some (decide (v ∈ xs)) := by
  rw [spec_l1Has.f.v_eq]
  have := spec_l1Has.ok_l v xs hn xs.length 0 (by omega)
  simpa using this
theorem spec_laOrder.ok_l (p : List Int) (hn : p.length ≤ 8) : ∀ (d i : Nat), p.length - i = d → spec_laOrder.l0.v p p p.length i = some (ordGo p.length (p.take i) (p.drop i)) := by
  intro d
  induction d with
  | zero =>
    intro i hd
    rw [spec_laOrder.l0.v_eq, if_neg (cast_nlt (by omega)), List.drop_eq_nil_of_le (by omega)]
    rfl
  | succ d ih =>
    intro i hd
    have h : i < p.length := by omega
    rw [spec_laOrder.l0.v_eq, if_pos (cast_lt h), if_pos (Int.natCast_nonneg i), if_pos (cast_lt h), succ_wrap h (by omega), ih (i + 1) (by omega), drop_rd p i h, take_rd p i h]
    rw [wrap_id (x := (p.length : Int) - 1) (by omega) (by omega), toNat_cast, spec_l1Has.ok _ _ (by rw [List.length_take]; omega)]
    unfold spec_l1In.f
    rw [ordGo_cons]
    by_cases a : 0 ≤ rd p (i : Int)
    · by_cases b : rd p (i : Int) ≤ (p.length : Int) - 1
      · have hi : (i : Int) ≤ (p.length : Int) := by omega
        by_cases c : rd p (i : Int) ∈ p.take i
        · simp only [ge_iff_le, a, b, c, hi, decide_true, decide_false, if_true, if_false, Option.bind_some, true_and, and_true, and_self, Bool.false_eq_true]
        · simp only [ge_iff_le, a, b, c, hi, decide_true, decide_false, if_true, if_false, Option.bind_some, true_and, and_true, and_self, Bool.false_eq_true]
      · simp [a, b]
    · simp [a]
theorem spec_laOrder.ok (p : List Int) : spec_laOrder.f.v p = some (isOrd p) := by
  rw [spec_laOrder.f.v_eq]
  unfold spec_l1In.f isOrd
  by_cases h : 1 ≤ p.length ∧ p.length ≤ 8
  · have := spec_laOrder.ok_l p h.2 p.length 0 (by omega)
    have h1 : (p.length : Int) ≥ 1 := by omega
    have h2 : (p.length : Int) ≤ 8 := by omega
    rw [if_pos h1, if_pos h, decide_eq_true h2]
    simpa using this
  · rw [if_neg h]
    by_cases h1 : (p.length : Int) ≥ 1
    · have h2 : ¬ (p.length : Int) ≤ 8 := by omega
      rw [if_pos h1, decide_eq_false h2]; rfl
    · rw [if_neg h1]; rfl
theorem spec_DescentsOf.ok_l (p : List Int) (h1 : 1 ≤ p.length) (hp : p.length ≤ 1000) : ∀ (d i : Nat) (acc : List Int), i + 1 + d = p.length → acc.length ≤ i → spec_DescentsOf.l0.v p acc i = some ((acc ++ descGo p d i, true)) := by
  intro d
  induction d with
  | zero =>
    intro i acc hd ha
    rw [spec_DescentsOf.l0.v_eq, succ_wrap (show i < p.length by omega) (by omega), if_neg (cast_nlt (by omega)), descGo, List.append_nil]
  | succ d ih =>
    intro i acc hd ha
    rw [spec_DescentsOf.l0.v_eq, succ_wrap (show i < p.length by omega) (by omega), if_pos (cast_lt (by omega)), if_pos (Int.natCast_nonneg i), if_pos (cast_lt (by omega)), if_pos (Int.natCast_nonneg _), descGo]
    by_cases e : rd p (i : Int) > rd p ((i : Int) + 1)
    · have e' : rd p (i : Int) > rd p ((i + 1 : Nat) : Int) := e
      rw [if_pos e', if_pos e, if_pos (by omega), ih (i + 1) _ (by omega) (by simp; omega), List.append_assoc]; rfl
    · have e' : ¬ rd p (i : Int) > rd p ((i + 1 : Nat) : Int) := e
      rw [if_neg e', if_neg e, ih (i + 1) _ (by omega) (by omega)]
theorem spec_DescentsOf.ok (p : List Int) : spec_DescentsOf.f.v p = some (if isOrd p = true then (desc p, true) else ([], false)) := by
  rw [spec_DescentsOf.f.v_eq, spec_laOrder.ok, Option.bind_some]
  by_cases h : isOrd p = true
  · have hl := isOrd_len h
    rw [if_pos h, if_pos h]
    have := spec_DescentsOf.ok_l p hl.1 (by omega) (p.length - 1) 0 [] (by omega) (by simp)
    simpa [desc] using this
  · rw [if_neg h, if_neg h]
theorem spec_l1Cur_next.ok (c : List Int) (hc : isCode c) (at_ s : Int) (h0 : 0 ≤ at_) (h1 : at_ ≤ 1000000000) : ∃ b s', spec_l1Cur_next.f c at_ s = some (b, at_ + 1, s') ∧ 0 ≤ b ∧ b ≤ 255 := by
  unfold spec_l1Cur_next.f
  rw [wrap_id (x := at_ + 1) (by omega) (by omega)]
  by_cases e : at_ < (c.length : Int)
  · have hb : 0 ≤ rd c at_ ∧ rd c at_ ≤ 255 := by
      have := rd_mem c at_.toNat (by omega)
      rw [Int.toNat_of_nonneg h0] at this
      exact hc.1 _ this
    rw [if_pos e, if_pos h0, if_pos (by omega), wrap_id (x := rd c at_) (by omega) (by omega)]
    exact ⟨_, _, rfl, hb.1, hb.2⟩
  · rw [if_neg e, if_neg (by omega)]
    exact ⟨_, _, rfl, (top_byte _).1, (top_byte _).2⟩
theorem spec_l1Cur_pick.ok (c : List Int) (hc : isCode c) (at_ s n : Int) (h0 : 0 ≤ at_) (h1 : at_ ≤ 100000000) (hn : 1 ≤ n) (hn2 : n ≤ 200) : ∃ x a' s', spec_l1Cur_pick.f c at_ s n = some (x, a', s') ∧ 0 ≤ x ∧ x < n ∧ 0 ≤ a' ∧ a' ≤ at_ + 1 := by
  unfold spec_l1Cur_pick.f
  by_cases e : n ≤ 1
  · rw [if_pos e]
    exact ⟨_, _, _, rfl, by omega, by omega, by omega, by omega⟩
  · obtain ⟨b, s', hf, hb0, hb1⟩ := spec_l1Cur_next.ok c hc at_ s h0 (by omega)
    rw [if_neg e, hf, Option.bind_some, if_neg (by omega), if_neg (by omega)]
    have := tmod_lt b n hb0 (by omega)
    exact ⟨_, _, _, rfl, this.1, this.2, by dsimp only; omega, by dsimp only; omega⟩
theorem spec_l1Cur_among.ok (c : List Int) (hc : isCode c) (at_ s : Int) (l : List Int) (h0 : 0 ≤ at_) (h1 : at_ ≤ 100000000) (hn : 1 ≤ l.length) (hn2 : l.length ≤ 200) : ∃ x a' s', spec_l1Cur_among.f c at_ s l = some (x, a', s') ∧ 0 ≤ a' ∧ a' ≤ at_ + 1 := by
  unfold spec_l1Cur_among.f
  obtain ⟨x, a', s', hf, x0, x1, a0, a1⟩ := spec_l1Cur_pick.ok c hc at_ s l.length h0 h1 (by omega) (by omega)
  rw [hf, Option.bind_some, if_pos x0, if_pos x1]
  exact ⟨_, _, _, rfl, a0, a1⟩
theorem spec_l1Cur_sureLadder.ok_l (c : List Int) (hc : isCode c) (n : Int) (h2 : 2 ≤ n) (h6 : n ≤ 100) : ∀ (k : Nat) (l : List Int) (at_ s : Int), k ≤ 100 → l.length + k ≤ 1000 → 0 ≤ at_ → at_ + k ≤ 100000000 →
    ∃ r a' s', spec_l1Cur_sureLadder.l0.v (k : Int) c at_ s n l = some (n, r, a', s') ∧ r.length = l.length + k ∧ 0 ≤ a' ∧ a' ≤ at_ + k ∧ (∀ x ∈ r, x ∈ l ∨ (0 ≤ x ∧ x ≤ n - 2)) := by
  intro k
  induction k with
  | zero =>
    intro l at_ s _ _ h0 h1
    rw [spec_l1Cur_sureLadder.l0.v_eq, if_neg (by omega)]
    exact ⟨_, _, _, rfl, by omega, h0, by omega, fun x hx => .inl hx⟩
  | succ k ih =>
    intro l at_ s hk hl h0 h1
    obtain ⟨x, a', s', hf, x0, x1, a0, a1⟩ := spec_l1Cur_pick.ok c hc at_ s (n - 1) h0 (by omega) (by omega) (by omega)
    rw [spec_l1Cur_sureLadder.l0.v_eq, if_pos (by omega), wrap_id (x := n - 1) (by omega) (by omega), hf, Option.bind_some]
    simp only []
    rw [if_pos (by omega), wrap_id (x := ((k + 1 : Nat) : Int) - 1) (by omega) (by omega), show ((k + 1 : Nat) : Int) - 1 = (k : Int) by omega]
    obtain ⟨r, a2, s2, hr, e1, e2, e3, e4⟩ := ih (l ++ [x]) a' s' (by omega) (by rw [List.length_append, List.length_singleton]; omega) a0 (by omega)
    refine ⟨r, a2, s2, hr, by rw [e1, List.length_append, List.length_singleton]; omega, e2, by omega, fun y hy => ?_⟩
    rcases e4 y hy with h | h
    · rcases List.mem_append.1 h with h | h
      · exact .inl h
      · obtain rfl := List.mem_singleton.1 h
        exact .inr ⟨x0, by omega⟩
    · exact .inr h
theorem spec_l1Cur_sureLadder.ok (c : List Int) (hc : isCode c) (at_ s : Int) (ws rs : Int) (w2 : 2 ≤ ws) (w8 : ws ≤ 50) (r0 : 0 ≤ rs) (r1 : rs ≤ 90) (a0 : 0 ≤ at_) (a1 : at_ ≤ 50000000) :
    ∃ n r a' s', spec_l1Cur_sureLadder.f.v c at_ s ws rs = some (n, r, a', s') ∧ 2 ≤ n ∧ n ≤ ws ∧ (r.length : Int) ≤ rs ∧ (∀ x ∈ r, 0 ≤ x ∧ x ≤ n - 2) ∧ 0 ≤ a' ∧ a' ≤ at_ + 100 := by
  obtain ⟨x, b, t, hf, x0, x1, b0, b1⟩ := spec_l1Cur_pick.ok c hc at_ s (ws - 1) a0 (by omega) (by omega) (by omega)
  rw [spec_l1Cur_sureLadder.f.v_eq, wrap_id (x := ws - 1) (by omega) (by omega), hf, Option.bind_some]
  simp only []
  obtain ⟨y, b2, t2, hf2, y0, y1, c0, c1⟩ := spec_l1Cur_pick.ok c hc b t (rs + 1) b0 (by omega) (by omega) (by omega)
  rw [wrap_id (x := rs + 1) (by omega) (by omega), hf2, Option.bind_some]
  simp only []
  rw [wrap_id (x := 2 + x) (by omega) (by omega)]
  obtain ⟨k, rfl⟩ := Int.eq_ofNat_of_zero_le y0
  obtain ⟨r, a2, s2, hr, e1, e2, e3, e4⟩ := spec_l1Cur_sureLadder.ok_l c hc (2 + x) (by omega) (by omega) k [] b2 t2 (by omega) (by simp; omega) c0 (by omega)
  refine ⟨_, r, a2, s2, hr, by omega, by omega, by rw [e1]; simp; omega, fun z hz => ?_, e2, by omega⟩
  rcases e4 z hz with h | h
  · cases h
  · exact h
theorem spec_l1Cur_ladder.ok (c : List Int) (hc : isCode c) (at_ s : Int) (a0 : 0 ≤ at_) (a1 : at_ ≤ 40000000) : ∃ n r a' s', spec_l1Cur_ladder.f.v c at_ s = some (n, r, a', s') ∧ r.length ≤ 61 ∧ 0 ≤ a' ∧ a' ≤ at_ + 200 := by
  obtain ⟨n, r, b, t, hf, n0, n1, r1, r2, b0, b1⟩ := spec_l1Cur_sureLadder.ok c hc at_ s 6 12 (by omega) (by omega) (by omega) (by omega) a0 (by omega)
  rw [spec_l1Cur_ladder.f.v_eq, hf, Option.bind_some]
  simp only []
  obtain ⟨x, b2, t2, hf2, x0, x1, c0, c1⟩ := spec_l1Cur_pick.ok c hc b t 16 b0 (by omega) (by omega) (by omega)
  rw [hf2, Option.bind_some]
  simp only []
  by_cases e0 : x = 0
  · obtain ⟨y, b3, t3, hf3, d0, d1⟩ := spec_l1Cur_among.ok c hc b2 t2 [-1, wrap64 (n - 1), 4611686018427387904] c0 (by omega) (by simp) (by simp)
    rw [if_pos e0, hf3, Option.bind_some]
    simp only []
    rw [if_pos (by omega)]
    exact ⟨_, _, _, _, rfl, by rw [List.length_append, List.length_singleton]; omega, d0, by omega⟩
  · rw [if_neg e0]
    by_cases e1 : x = 1
    · obtain ⟨y, b3, t3, hf3, d0, d1⟩ := spec_l1Cur_among.ok c hc b2 t2 [1, 2, 8, 9, -1] c0 (by omega) (by simp) (by simp)
      rw [if_pos e1, hf3, Option.bind_some]
      exact ⟨_, _, _, _, rfl, by first | omega | (dsimp only; omega), d0, by first | omega | (dsimp only; omega)⟩
    · rw [if_neg e1]
      by_cases e2 : x = 2
      · obtain ⟨y, b3, t3, hf3, y0, y1, d0, d1⟩ := spec_l1Cur_pick.ok c hc b2 t2 2 c0 (by omega) (by omega) (by omega)
        rw [if_pos e2, hf3, Option.bind_some]
        simp only []
        rw [wrap_id (x := 60 + y) (by omega) (by omega), if_pos (by omega), if_pos (by omega)]
        exact ⟨_, _, _, _, rfl, by rw [List.length_replicate]; omega, d0, by omega⟩
      · rw [if_neg e2]
        exact ⟨_, _, _, _, rfl, by omega, c0, by omega⟩
theorem spec_l1Cur_one.ok (c : List Int) (hc : isCode c) (at_ s n : Int) (h0 : 0 ≤ at_) (h1 : at_ ≤ 100000000) (hn : 1 ≤ n) (hn2 : n ≤ 200) : ∃ b a' s', spec_l1Cur_one.f c at_ s n = some (b, a', s') ∧ 0 ≤ a' ∧ a' ≤ at_ + 1 := by
  obtain ⟨x, a', s', h, _, _, h2, h3⟩ := spec_l1Cur_pick.ok c hc at_ s n h0 h1 hn hn2
  unfold spec_l1Cur_one.f
  rw [h]
  exact ⟨_, _, _, rfl, h2, h3⟩
theorem spec_l1Own.ok (l : List Int) (h : l.length ≤ 1048576) : spec_l1Own.f l = some l := by
  unfold spec_l1Own.f
  rw [Option.bind_some, if_pos (by simp; omega)]; rfl
theorem spec_l1Cur_sureOrder.ok_l (c : List Int) (hc : isCode c) (n m : Int) (hn : n ≤ 100) (hm : m ≤ 50000000) : ∀ (d : Nat) (p : List Int) (x : Int) (at_ s : Int), x + d = n → 0 ≤ x → (p.length : Int) = x → 0 ≤ at_ → at_ ≤ m + x → ∃ q a' s', spec_l1Cur_sureOrder.l0.v n p x c at_ s = some (q, a', s') ∧ (q.length : Int) = n ∧ 0 ≤ a' ∧ a' ≤ m + n := by
  intro d
  induction d with
  | zero =>
    intro p x at_ s hd h0 hp a0 a1
    rw [spec_l1Cur_sureOrder.l0.v_eq, if_neg (by omega)]
    exact ⟨_, _, _, rfl, by omega, a0, by omega⟩
  | succ d ih =>
    intro p x at_ s hd h0 hp a0 a1
    obtain ⟨y, a', s', hf, y0, y1, b0, b1⟩ := spec_l1Cur_pick.ok c hc at_ s (p.length + 1) a0 (by omega) (by omega) (by omega)
    rw [spec_l1Cur_sureOrder.l0.v_eq, if_pos (by omega), wrap_id (x := (p.length : Int) + 1) (by omega) (by omega), hf, Option.bind_some]
    simp only []
    rw [if_pos y0, if_pos (by omega), spec_l1Own.ok _ (by rw [List.length_take]; omega), Option.bind_some, if_pos (by rw [List.length_take]; omega), Option.bind_some, Option.bind_some, if_pos (by simp; omega), wrap_id (x := x + 1) (by omega) (by omega)]
    exact ih _ (x + 1) a' s' (by omega) (by omega) (by simp; omega) b0 (by omega)
theorem spec_l1Cur_sureOrder.ok (c : List Int) (hc : isCode c) (at_ s n : Int) (h0 : 0 ≤ n) (hn : n ≤ 100) (a0 : 0 ≤ at_) (m : Int) (hm : m ≤ 50000000) (a1 : at_ ≤ m) : ∃ q a' s', spec_l1Cur_sureOrder.f.v c at_ s n = some (q, a', s') ∧ (q.length : Int) = n ∧ 0 ≤ a' ∧ a' ≤ m + n := by
  rw [spec_l1Cur_sureOrder.f.v_eq]
  exact spec_l1Cur_sureOrder.ok_l c hc n m hn hm n.toNat [] 0 at_ s (by omega) (by omega) (by simp) a0 (by omega)
theorem spec_lsFirst.ok_j (p acc : List Int) (j : Nat) (i : Int) (hj : j + 1 < p.length) (hp : p.length ≤ 1000) (ha : acc.length ≤ 1000) : spec_lsFirst.j2.v p acc (j : Int) i false = spec_lsFirst.l0.v (swp p j (j + 1)) (acc ++ [(j : Int)]) := by
  have e : wrap64 ((j : Int) + 1) = ((j + 1 : Nat) : Int) := succ_wrap (show j < p.length by omega) (by omega)
  rw [spec_lsFirst.j2.v_eq, if_neg (by simp), if_neg (by omega), if_pos (Int.natCast_nonneg _), if_pos (cast_lt (by omega)), e, if_pos (Int.natCast_nonneg _), if_pos (cast_lt hj), if_pos (by omega), toNat_cast, toNat_cast]
  rfl
theorem spec_lsFirst.ok_1 (p acc : List Int) (h1 : 1 ≤ p.length) (hp : p.length ≤ 1000) (ha : acc.length ≤ 1000) : ∀ (d i : Nat), i + 1 + d = p.length → spec_lsFirst.l1.v p acc (-1) (i : Int) = (match descGo p d i with | [] => some acc | a :: _ => spec_lsFirst.l0.v (swp p a.toNat (a.toNat + 1)) (acc ++ [a])) := by
  intro d
  induction d with
  | zero =>
    intro i hd
    rw [spec_lsFirst.l1.v_eq, succ_wrap (show i < p.length by omega) (by omega), if_neg (cast_nlt (by omega)), descGo, spec_lsFirst.j2.v_eq, if_neg (by simp), if_pos (by omega)]
  | succ d ih =>
    intro i hd
    have e : wrap64 ((i : Int) + 1) = ((i + 1 : Nat) : Int) := succ_wrap (show i < p.length by omega) (by omega)
    rw [spec_lsFirst.l1.v_eq, e, if_pos (cast_lt (by omega)), show decide ((-1 : Int) < 0) = true from rfl, spec_lsFirst.j2.v_eq, if_pos rfl, if_pos (Int.natCast_nonneg i), if_pos (cast_lt (by omega)), e, if_pos (Int.natCast_nonneg _), if_pos (cast_lt (by omega)), descGo]
    by_cases c : rd p (i : Int) > rd p ((i : Int) + 1)
    · have c' : rd p (i : Int) > rd p ((i + 1 : Nat) : Int) := c
      rw [if_pos c', if_pos c, spec_lsFirst.l1.v_eq]
      have n0 : decide (((i : Int)) < 0) = false := decide_eq_false (by omega)
      rw [n0, spec_lsFirst.ok_j p acc i _ (by omega) hp ha, ite_self]
      simp only [toNat_cast]
    · have c' : ¬ rd p (i : Int) > rd p ((i + 1 : Nat) : Int) := c
      rw [if_neg c', if_neg c, ih (i + 1) (by omega)]
theorem spec_lsFirst.ok_0 : ∀ (k : Nat) (p acc : List Int), invC p = k → 1 ≤ p.length → p.length ≤ 8 → acc.length + k ≤ 1000 → spec_lsFirst.l0.v p acc = some (acc ++ leastL p) := by
  intro k
  induction k with
  | zero =>
    intro p acc hk h1 h8 ha
    rw [spec_lsFirst.l0.v_eq]
    have s := spec_lsFirst.ok_1 p acc h1 (by omega) (by omega) (p.length - 1) 0 (by omega)
    refine Eq.trans s ?_
    cases e : desc p with
    | nil => unfold desc at e; simp only [e]; rw [leastL_nil (by unfold desc; exact e), List.append_nil]
    | cons a r => obtain ⟨j, _, _, _, hc⟩ := desc_head e; omega
  | succ k ih =>
    intro p acc hk h1 h8 ha
    rw [spec_lsFirst.l0.v_eq]
    have s := spec_lsFirst.ok_1 p acc h1 (by omega) (by omega) (p.length - 1) 0 (by omega)
    refine Eq.trans s ?_
    cases e : desc p with
    | nil => unfold desc at e; simp only [e]; rw [leastL_nil (by unfold desc; exact e), List.append_nil]
    | cons a r =>
      rw [leastL_cons e]
      obtain ⟨j, rfl, hj, hr, hc⟩ := desc_head e
      unfold desc at e
      simp only [e, toNat_cast]
      rw [ih _ _ (by omega) (by rw [swp_length]; omega) (by rw [swp_length]; omega) (by simp; omega), List.append_assoc]
      rfl
theorem spec_lsFirst.ok (p : List Int) (h1 : 1 ≤ p.length) (h8 : p.length ≤ 8) : spec_lsFirst.f.v p = some (leastL p) := by
  have := invC_le p h8
  rw [spec_lsFirst.f.v_eq, spec_l1Own.ok p (by omega), Option.bind_some, spec_lsFirst.ok_0 _ p [] rfl h1 h8 (by simp; omega), List.nil_append]
theorem spec_DrawIsLeast.ok (c : List Int) (hc : isCode c) : ∃ n l, spec_DrawIsLeast.f.v c = some (n, l) ∧ l.length ≤ 64 := by
  obtain ⟨b, a1, s1, hf, b0, b1⟩ := spec_l1Cur_one.ok c hc 0 0 3 (by omega) (by omega) (by omega) (by omega)
  rw [spec_DrawIsLeast.f.v_eq, hf, Option.bind_some]
  simp only []
  by_cases e : b = true
  · obtain ⟨x, a2, s2, hf2, x0, x1, c0, c1⟩ := spec_l1Cur_pick.ok c hc a1 s1 5 b0 (by omega) (by omega) (by omega)
    rw [if_pos e, hf2, Option.bind_some]
    simp only []
    obtain ⟨q, a3, s3, hf3, hq, _⟩ := spec_l1Cur_sureOrder.ok c hc a2 s2 (2 + x) (by omega) (by omega) c0 40000000 (by omega) (by omega)
    rw [wrap_id (x := 2 + x) (by omega) (by omega), hf3, Option.bind_some]
    simp only []
    rw [spec_lsFirst.ok q (by omega) (by omega), Option.bind_some]
    exact ⟨_, _, rfl, leastL_length q (by omega)⟩
  · obtain ⟨n, l, a2, s2, hf2, l1, _⟩ := spec_l1Cur_ladder.ok c hc a1 s1 b0 (by omega)
    rw [if_neg e, hf2, Option.bind_some]
    exact ⟨n, l, rfl, by omega⟩
theorem spec_l1Cur_order.gen (c : List Int) (hc : isCode c) (at_ s m : Int) (hm : m ≤ 40000000) (a0 : 0 ≤ at_) (a1 : at_ ≤ m) : ∃ q a' s', spec_l1Cur_order.f.v c at_ s = some (q, a', s') ∧ q.length ≤ 100 ∧ 0 ≤ a' ∧ a' ≤ m + 200 := by
  rw [spec_l1Cur_order.f.v_eq]
  obtain ⟨x, b, t, hf, x0, x1, b0, b1⟩ := spec_l1Cur_pick.ok c hc at_ s 6 a0 (by omega) (by omega) (by omega)
  rw [hf, Option.bind_some]
  simp only []
  obtain ⟨q, b2, t2, hf2, ql, c0, c1⟩ := spec_l1Cur_sureOrder.ok c hc b t (1 + x) (by omega) (by omega) b0 (m + 1) (by omega) (by omega)
  rw [wrap_id (x := 1 + x) (by omega) (by omega), hf2, Option.bind_some]
  simp only []
  obtain ⟨y, b3, t3, hf3, y0, y1, d0, d1⟩ := spec_l1Cur_pick.ok c hc b2 t2 14 c0 (by omega) (by omega) (by omega)
  rw [hf3, Option.bind_some]
  simp only []
  by_cases e0 : y = 0
  · rw [if_pos e0]
    obtain ⟨z, b4, t4, hf4, z0, z1, g0, g1⟩ := spec_l1Cur_pick.ok c hc b3 t3 q.length d0 (by omega) (by omega) (by omega)
    rw [hf4, Option.bind_some]
    simp only []
    obtain ⟨u, b5, t5, hf5, k0, k1⟩ := spec_l1Cur_among.ok c hc b4 t4 [-1, 0, (q.length : Int), 4611686018427387904] g0 (by omega) (by simp) (by simp)
    rw [hf5, Option.bind_some]
    simp only []
    rw [if_pos z0, if_pos z1]
    exact ⟨_, _, _, rfl, by rw [List.length_set]; omega, k0, by omega⟩
  · rw [if_neg e0]
    by_cases e1 : y = 1
    · rw [if_pos e1]
      exact ⟨_, _, _, rfl, by simp, d0, by omega⟩
    · rw [if_neg e1]
      by_cases e2 : y = 2
      · rw [if_pos e2]
        obtain ⟨z, b4, t4, hf4, z0, z1, g0, g1⟩ := spec_l1Cur_pick.ok c hc b3 t3 2 d0 (by omega) (by omega) (by omega)
        rw [hf4, Option.bind_some]
        simp only []
        obtain ⟨q2, b5, t5, hf5, ql2, k0, k1⟩ := spec_l1Cur_sureOrder.ok c hc b4 t4 (8 + z) (by omega) (by omega) g0 (m + 100) (by omega) (by omega)
        rw [wrap_id (x := 8 + z) (by omega) (by omega), hf5, Option.bind_some]
        exact ⟨_, _, _, rfl, by dsimp only; omega, k0, by dsimp only; omega⟩
      · rw [if_neg e2]
        exact ⟨_, _, _, rfl, by omega, d0, by omega⟩
theorem spec_l1Cur_order.ok (c : List Int) (hc : isCode c) (at_ s : Int) (a0 : 0 ≤ at_) (a1 : at_ ≤ 1000) : ∃ q a' s', spec_l1Cur_order.f.v c at_ s = some (q, a', s') ∧ q.length ≤ 200 ∧ 0 ≤ a' ∧ a' ≤ 10000000 := by
  obtain ⟨q, a', s', h1, h2, h3, h4⟩ := spec_l1Cur_order.gen c hc at_ s 1000 (by omega) a0 a1
  exact ⟨q, a', s', h1, by omega, h3, by omega⟩
theorem spec_DrawIsOrder.ok (c : List Int) (hc : isCode c) : ∃ q, spec_DrawIsOrder.f.v c = some q ∧ q.length ≤ 200 := by
  obtain ⟨q, a', s', hf, hq, _, _⟩ := spec_l1Cur_order.ok c hc 0 0 (by omega) (by omega)
  rw [spec_DrawIsOrder.f.v_eq, hf]
  exact ⟨_, rfl, hq⟩
theorem spec_DrawLeastLadder.ok (c : List Int) (hc : isCode c) : ∃ q, spec_DrawLeastLadder.f.v c = some q ∧ q.length ≤ 200 := by
  obtain ⟨q, hf, hq⟩ := spec_DrawIsOrder.ok c hc
  rw [spec_DrawLeastLadder.f.v_eq, hf]
  exact ⟨q, rfl, hq⟩
theorem spec_DrawLongestLadder.ok (c : List Int) (hc : isCode c) : ∃ n, spec_DrawLongestLadder.f c = some n := by
  obtain ⟨x, a', s', hf, _⟩ := spec_l1Cur_pick.ok c hc 0 0 11 (by omega) (by omega) (by omega) (by omega)
  unfold spec_DrawLongestLadder.f
  rw [hf]
  exact ⟨_, rfl⟩
theorem spec_lsInversions.ok_i (p : List Int) (hp : p.length ≤ 8) (i : Nat) (hi : i < p.length) : ∀ (d j : Nat) (acc : List (List Int)), j + d = p.length → acc.length + d ≤ 1000 → spec_lsInversions.l1.v p acc i j p.length i = spec_lsInversions.l0.v p (acc ++ invRow p i j d) p.length ((i + 1 : Nat) : Int) := by
  intro d
  induction d with
  | zero =>
    intro j acc hd ha
    rw [spec_lsInversions.l1.v_eq, if_neg (cast_nlt (by omega)), succ_wrap hi (by omega), invRow, List.append_nil]
  | succ d ih =>
    intro j acc hd ha
    have hj : j < p.length := by omega
    rw [spec_lsInversions.l1.v_eq, if_pos (cast_lt hj), if_pos (Int.natCast_nonneg i), if_pos (cast_lt hi), if_pos (Int.natCast_nonneg j), succ_wrap hj (by omega), invRow]
    by_cases e : rd p (i : Int) > rd p (j : Int)
    · rw [if_pos e, if_pos e, if_pos (by omega), ih (j + 1) _ (by omega) (by simp; omega), List.append_assoc]; rfl
    · rw [if_neg e, if_neg e, ih (j + 1) _ (by omega) (by omega)]
theorem spec_lsInversions.ok_o (p : List Int) (hp : p.length ≤ 8) : ∀ (d i : Nat) (acc : List (List Int)), i + d = p.length → acc.length + d * p.length ≤ 900 → spec_lsInversions.l0.v p acc p.length i = some (acc ++ invFrom p i d) := by
  intro d
  induction d with
  | zero =>
    intro i acc hd ha
    rw [spec_lsInversions.l0.v_eq, if_neg (cast_nlt (by omega)), invFrom, List.append_nil]
  | succ d ih =>
    intro i acc hd ha
    have hi : i < p.length := by omega
    rw [Nat.succ_mul] at ha
    have h1 := invRow_length p i (p.length - (i + 1)) (i + 1)
    rw [spec_lsInversions.l0.v_eq, if_pos (cast_lt hi), succ_wrap hi (by omega), spec_lsInversions.ok_i p hp i hi (p.length - (i + 1)) (i + 1) acc (by omega) (by omega), ih (i + 1) _ (by omega) (by rw [List.length_append]; omega), invFrom, List.append_assoc]
theorem spec_lsInversions.ok (p : List Int) (hp : p.length ≤ 8) : spec_lsInversions.f.v p = some (invs p) := by
  rw [spec_lsInversions.f.v_eq]
  have h2 : p.length * p.length ≤ 8 * 8 := Nat.mul_le_mul hp hp
  have := spec_lsInversions.ok_o p hp p.length 0 [] (by omega) (by simp; omega)
  simpa [invs] using this
theorem spec_InversionsOf.ok (p : List Int) : spec_InversionsOf.f.v p = some (if isOrd p = true then (((invs p).length : Int), true) else (0, false)) := by
  rw [spec_InversionsOf.f.v_eq, spec_laOrder.ok, Option.bind_some]
  by_cases h : isOrd p = true
  · rw [if_pos h, if_pos h, spec_lsInversions.ok p (isOrd_len h).2]; rfl
  · rw [if_neg h, if_neg h]
theorem spec_InvertedPairs.ok (p : List Int) : spec_InvertedPairs.f.v p = if isOrd p = true then some (invs p, true) else some ([], false) := by
  rw [spec_InvertedPairs.f.v_eq, spec_laOrder.ok]
  simp only [Option.bind_some]
  split
  · rename_i h
    rw [spec_lsInversions.ok p (isOrd_len h).2]; rfl
  · rfl
theorem spec_l1All.ok_l (a b : Int) (xs : List Int) (hn : xs.length ≤ 140737488355328) : ∀ (d i : Nat), i + d = xs.length → spec_l1All.l0.v a b xs xs.length i = some ((xs.drop i).all fun x => decide (a ≤ x) && decide (x ≤ b)) := by
  intro d
  induction d with
  | zero =>
    intro i hd
    rw [spec_l1All.l0.v_eq, if_neg (cast_nlt (by omega)), List.drop_eq_nil_of_le (by omega)]
    rfl
  | succ d ih =>
    intro i hd
    have h : i < xs.length := by omega
    rw [spec_l1All.l0.v_eq, if_pos (cast_lt h), if_pos (Int.natCast_nonneg i), if_pos (cast_lt h), succ_wrap h hn, ih (i + 1) (by omega), drop_rd xs i h, List.all_cons]
    unfold spec_l1In.f
    by_cases e : a ≤ rd xs (i : Int)
    · rw [if_pos (show rd xs (i : Int) ≥ a from e), Option.bind_some, decide_eq_true e, Bool.true_and]
      by_cases e2 : rd xs (i : Int) ≤ b
      · rw [decide_eq_true e2, if_pos rfl, Bool.true_and]
      · rw [decide_eq_false e2, if_neg (by simp), Bool.false_and]
    · rw [if_neg (show ¬ rd xs (i : Int) ≥ a from e), Option.bind_some, decide_eq_false e, if_neg (by simp), Bool.false_and, Bool.false_and]
theorem spec_l1All.ok (xs : List Int) (a b : Int) (hn : xs.length ≤ 140737488355328) : spec_l1All.f.v xs a b = some (xs.all fun x => decide (a ≤ x) && decide (x ≤ b)) := by
  rw [spec_l1All.f.v_eq]
  have := spec_l1All.ok_l a b xs hn xs.length 0 (by omega)
  simpa using this
theorem spec_laGood.ok (n : Int) (l : List Int) : spec_laGood.f.v n l = some (good n l) := by
  rw [spec_laGood.f.v_eq]
  unfold spec_l1In.f good
  by_cases h1 : 2 ≤ n
  · rw [if_pos (show n ≥ 2 from h1), Option.bind_some, decide_eq_true h1, Bool.true_and]
    by_cases h2 : n ≤ 8
    · rw [decide_eq_true h2, if_pos rfl, Bool.true_and]
      by_cases h3 : l.length ≤ 60
      · rw [if_pos (by omega), decide_eq_true h3, Bool.true_and, spec_l1All.ok l 0 _ (by omega), wrap_id (x := n - 2) (by omega) (by omega)]; rfl
      · rw [if_neg (by omega), decide_eq_false h3, Bool.false_and]
    · rw [decide_eq_false h2, if_neg (by simp), Bool.false_and, Bool.false_and]
  · rw [if_neg (show ¬ n ≥ 2 from h1), Option.bind_some, decide_eq_false h1, if_neg (by simp), Bool.false_and, Bool.false_and, Bool.false_and]
theorem spec_laOver.ok (w r : Int) (h0 : -1000 ≤ r) (h1 : r ≤ 1000) : spec_laOver.f w r = some (over w r) := by
  unfold spec_laOver.f over
  rw [wrap_id (x := r + 1) (by omega) (by omega)]
  by_cases a : w = r
  · rw [if_pos a, if_pos a]
  · rw [if_neg a, if_neg a]
    by_cases b : w = r + 1
    · rw [if_pos b, if_pos b]
    · rw [if_neg b, if_neg b]
theorem spec_laDown.ok_l (xs : List Int) (hn : xs.length ≤ 1000) (hb : ∀ x ∈ xs, -1000 ≤ x ∧ x ≤ 1000) : ∀ (d i : Nat) (w : Int) (acc : List Int), i + d = xs.length → acc.length ≤ i + 1 → spec_laDown.l0.v w acc xs xs.length i = some (acc ++ wayT w (xs.drop i)) := by
  intro d
  induction d with
  | zero =>
    intro i w acc hd ha
    rw [spec_laDown.l0.v_eq, if_neg (cast_nlt (by omega)), List.drop_eq_nil_of_le (by omega), wayT, List.append_nil]
  | succ d ih =>
    intro i w acc hd ha
    have h : i < xs.length := by omega
    obtain ⟨h0, h1⟩ := hb _ (rd_mem xs i h)
    rw [spec_laDown.l0.v_eq, if_pos (cast_lt h), if_pos (Int.natCast_nonneg i), if_pos (cast_lt h), spec_laOver.ok w _ h0 h1, Option.bind_some, if_pos (by omega), succ_wrap h (by omega), ih (i + 1) _ _ (by omega) (by simp; omega), drop_rd xs i h, wayT, List.append_assoc]
    rfl
theorem spec_laDown.ok (xs : List Int) (w : Int) (hn : xs.length ≤ 1000) (hb : ∀ x ∈ xs, -1000 ≤ x ∧ x ≤ 1000) : spec_laDown.f.v xs w = some (wayL w xs) := by
  rw [spec_laDown.f.v_eq]
  have := spec_laDown.ok_l xs hn hb xs.length 0 w [w] (by omega) (by simp)
  simpa [wayL] using this
theorem good_wide {n : Int} {l : List Int} (h : good n l = true) : l.length ≤ 1000 ∧ ∀ x ∈ l, -1000 ≤ x ∧ x ≤ 1000 := by
  obtain ⟨_, h2, h3, h4⟩ := good_iff.1 h
  exact ⟨by omega, fun x hx => by have := h4 x hx; omega⟩
theorem spec_laResult.ok_l (n : Int) (l : List Int) (hg : good n l = true) : ∀ (d i : Nat) (acc : List Int), i + d = n.toNat → acc.length ≤ i → spec_laResult.l0.v n l acc i = some (acc ++ resGo l d i) := by
  obtain ⟨g1, g2, _, _⟩ := good_iff.1 hg
  obtain ⟨h1, h2⟩ := good_wide hg
  intro d
  induction d with
  | zero =>
    intro i acc hd ha
    rw [spec_laResult.l0.v_eq, if_neg (by omega), resGo, List.append_nil]
  | succ d ih =>
    intro i acc hd ha
    rw [spec_laResult.l0.v_eq, if_pos (by omega), spec_laDown.ok l _ h1 h2, Option.bind_some, if_pos (Int.natCast_nonneg _), if_pos (by rw [wayL_length]; omega), if_pos (by omega), wayL_last, succ_wrap (show i < n.toNat by omega) (by omega), ih (i + 1) _ (by omega) (by simp; omega), resGo, List.append_assoc]; rfl
theorem spec_laResult.ok (n : Int) (l : List Int) (hg : good n l = true) : spec_laResult.f.v n l = some (resL n l) := by
  rw [spec_laResult.f.v_eq]
  have := spec_laResult.ok_l n l hg n.toNat 0 [] (by omega) (by simp)
  simpa [resL] using this
theorem spec_lsLeast.ok (n : Int) (l : List Int) (hg : good n l = true) : spec_lsLeast.f.v n l = some (needL n l == 0) := by
  obtain ⟨g1, g2, _, _⟩ := good_iff.1 hg
  rw [spec_lsLeast.f.v_eq, spec_laResult.ok n l hg, Option.bind_some, spec_lsInversions.ok _ (by rw [resL_length]; omega), Option.bind_some]
  congr 1
  unfold needL
  rw [Bool.eq_iff_iff, beq_iff_eq, beq_iff_eq]
  omega
theorem spec_IsLeast.ok (n : Int) (l : List Int) : spec_IsLeast.f.v n l = some (if good n l = true then (needL n l == 0, true) else (false, false)) := by
  rw [spec_IsLeast.f.v_eq, spec_laGood.ok, Option.bind_some]
  by_cases h : good n l = true
  · rw [if_pos h, if_pos h, spec_lsLeast.ok n l h]; rfl
  · rw [if_neg h, if_neg h]
theorem spec_LeastLadder.ok (p : List Int) : spec_LeastLadder.f.v p = some (if isOrd p = true ∧ 2 ≤ p.length then ((p.length : Int), leastL p, true) else (0, [], false)) := by
  rw [spec_LeastLadder.f.v_eq, spec_laOrder.ok, Option.bind_some]
  by_cases h : isOrd p = true
  · have hl := isOrd_len h
    by_cases h2 : 2 ≤ p.length
    · rw [if_pos h, if_neg (by omega), if_pos ⟨h, h2⟩, spec_lsFirst.ok p hl.1 hl.2]; rfl
    · rw [if_pos h, if_pos (by omega), if_neg (fun x => h2 x.2)]
  · rw [if_neg h, if_neg (fun x => h x.1)]
theorem spec_LongestLadder.ok_l (n : Int) : ∀ (k : Nat) (acc : List Int), acc.length + k ≤ 1000 → spec_LongestLadder.l0.v n acc ((k : Int) - 1) = (spec_lsFirst.f.v (acc ++ (ident k).reverse)).bind fun t => some (n, t, true) := by
  intro k
  induction k with
  | zero =>
    intro acc ha
    rw [spec_LongestLadder.l0.v_eq, if_neg (by omega), show ident 0 = [] from rfl, List.reverse_nil, List.append_nil]
  | succ k ih =>
    intro acc ha
    rw [show ((k + 1 : Nat) : Int) - 1 = (k : Int) by omega, spec_LongestLadder.l0.v_eq, if_pos (by omega), if_pos (by omega), wrap_id (x := (k : Int) - 1) (by omega) (by omega), ih _ (by simp; omega), ident_succ, List.reverse_append, List.append_assoc]
    rfl
theorem spec_LongestLadder.ok (n : Int) : spec_LongestLadder.f.v n = some (if 2 ≤ n ∧ n ≤ 8 then (n, leastL (ident n.toNat).reverse, true) else (0, [], false)) := by
  rw [spec_LongestLadder.f.v_eq]
  unfold spec_l1In.f
  by_cases h0 : 2 ≤ n
  · rw [if_pos h0, Option.bind_some]
    by_cases h1 : n ≤ 8
    · rw [decide_eq_true h1, if_pos rfl, if_pos ⟨h0, h1⟩, wrap_id (x := n - 1) (by omega) (by omega)]
      have e : n - 1 = ((n.toNat : Nat) : Int) - 1 := by omega
      rw [e, spec_LongestLadder.ok_l n n.toNat [] (by simp; omega), List.nil_append, spec_lsFirst.ok _ (by rw [List.length_reverse, ident_length]; omega) (by rw [List.length_reverse, ident_length]; omega)]; rfl
    · rw [decide_eq_false h1, if_neg (by simp), if_neg (fun x => h1 x.2)]
  · rw [if_neg h0, Option.bind_some, if_neg (by simp), if_neg (fun x => h0 x.1)]
theorem spec_laMeet.ok_l (xs : List Int) (hn : xs.length ≤ 1000) (hb : ∀ x ∈ xs, -1000 ≤ x ∧ x ≤ 1000) : ∀ (d i : Nat) (a b : Int) (c : Nat), i + d = xs.length → c ≤ i → spec_laMeet.l0.v a b c xs xs.length i = some ((c + meetGo a b (xs.drop i) : Nat) : Int) := by
  intro d
  induction d with
  | zero =>
    intro i a b c hd hc
    rw [spec_laMeet.l0.v_eq, if_neg (cast_nlt (by omega)), List.drop_eq_nil_of_le (by omega)]; rfl
  | succ d ih =>
    intro i a b c hd hc
    have h : i < xs.length := by omega
    obtain ⟨h0, h1⟩ := hb _ (rd_mem xs i h)
    rw [spec_laMeet.l0.v_eq, if_pos (cast_lt h), if_pos (Int.natCast_nonneg i), if_pos (cast_lt h), spec_laOver.ok a _ h0 h1, spec_laOver.ok b _ h0 h1, Option.bind_some, Option.bind_some, succ_wrap h (by omega), drop_rd xs i h, meetGo]
    by_cases e1 : over a (rd xs (i : Int)) = b
    · by_cases e2 : over b (rd xs (i : Int)) = a
      · rw [if_pos e1, if_pos e2, if_pos ⟨e1, e2⟩, wrap_id (x := (c : Int) + 1) (by omega) (by omega), show (c : Int) + 1 = ((c + 1 : Nat) : Int) by omega, ih (i + 1) _ _ (c + 1) (by omega) (by omega), Nat.add_assoc]
      · rw [if_pos e1, if_neg e2, if_neg (fun z => e2 z.2), ih (i + 1) _ _ c (by omega) (by omega), Nat.zero_add]
    · rw [if_neg e1, if_neg (fun z => e1 z.1), ih (i + 1) _ _ c (by omega) (by omega), Nat.zero_add]
theorem spec_laMeet.ok (xs : List Int) (a b : Int) (hn : xs.length ≤ 1000) (hb : ∀ x ∈ xs, -1000 ≤ x ∧ x ≤ 1000) : spec_laMeet.f.v xs a b = some ((meetGo a b xs : Nat) : Int) := by
  rw [spec_laMeet.f.v_eq]
  have := spec_laMeet.ok_l xs hn hb xs.length 0 a b 0 (by omega) (by omega)
  simpa using this
theorem good_wideM {n : Int} {l : List Int} (h : good n l = true) : l.length ≤ 1000 ∧ ∀ x ∈ l, -1000 ≤ x ∧ x ≤ 1000 := by
  obtain ⟨_, h2, h3, h4⟩ := good_iff.1 h
  exact ⟨by omega, fun x hx => by have := h4 x hx; omega⟩
theorem spec_MeetTwice.ok_i (n : Int) (l : List Int) (hg : good n l = true) (a : Nat) (ha : a < n.toNat) : ∀ (d b : Nat), b + d = n.toNat → a < b → spec_MeetTwice.l1.v (a : Int) (b : Int) n l = match twiceIn l a d b with | some r => some (r, true) | none => spec_MeetTwice.l0.v ((a + 1 : Nat) : Int) n l := by
  obtain ⟨g1, g2, _, _⟩ := good_iff.1 hg
  intro d
  induction d with
  | zero =>
    intro b hd hab
    rw [spec_MeetTwice.l1.v_eq, if_neg (by omega), twiceIn, succ_wrap (show a < n.toNat from ha) (by omega)]
  | succ d ih =>
    intro b hd hab
    have hb : b < n.toNat := by omega
    rw [spec_MeetTwice.l1.v_eq, if_pos (by omega), succ_wrap hb (by omega), spec_laMeet.ok l _ _ (good_wideM hg).1 (good_wideM hg).2, Option.bind_some, twiceIn]
    by_cases e : meetGo (a : Int) (b : Int) l > 1
    · rw [if_pos (show ((meetGo (a : Int) (b : Int) l : Nat) : Int) > 1 by omega), if_pos e]
    · rw [if_neg (show ¬ ((meetGo (a : Int) (b : Int) l : Nat) : Int) > 1 by omega), if_neg e, ih (b + 1) (by omega) (by omega)]
theorem spec_MeetTwice.ok_o (n : Int) (l : List Int) (hg : good n l = true) : ∀ (d a : Nat), a + d = n.toNat → spec_MeetTwice.l0.v (a : Int) n l = some (match twiceGo l n.toNat d a with | some r => (r, true) | none => ([], false)) := by
  obtain ⟨g1, g2, _, _⟩ := good_iff.1 hg
  intro d
  induction d with
  | zero =>
    intro a hd
    rw [spec_MeetTwice.l0.v_eq, if_neg (by omega), twiceGo]
  | succ d ih =>
    intro a hd
    have ha : a < n.toNat := by omega
    rw [spec_MeetTwice.l0.v_eq, if_pos (by omega), succ_wrap ha (by omega), spec_MeetTwice.ok_i n l hg a ha (n.toNat - (a + 1)) (a + 1) (by omega) (by omega), twiceGo]
    cases twiceIn l a (n.toNat - (a + 1)) (a + 1) with
    | some r => rfl
    | none => exact ih (a + 1) (by omega)
theorem spec_MeetTwice.ok (n : Int) (l : List Int) : spec_MeetTwice.f.v n l = some (if good n l = true then (match twiceL n l with | some r => (r, true) | none => ([], false)) else ([], false)) := by
  rw [spec_MeetTwice.f.v_eq, spec_laGood.ok, Option.bind_some]
  by_cases h : good n l = true
  · rw [if_pos h, if_pos h]
    have := spec_MeetTwice.ok_o n l h n.toNat 0 (by omega)
    simpa [twiceL] using this
  · rw [if_neg h, if_neg h]
theorem spec_NeedlessRungs.ok (n : Int) (l : List Int) : spec_NeedlessRungs.f.v n l = some (if good n l = true then (needL n l, true) else (0, false)) := by
  rw [spec_NeedlessRungs.f.v_eq, spec_laGood.ok, Option.bind_some]
  by_cases h : good n l = true
  · obtain ⟨g1, g2, _, _⟩ := good_iff.1 h
    have hb := needL_bounds h
    unfold needL at hb
    rw [if_pos h, if_pos h, spec_laResult.ok n l h, Option.bind_some, spec_lsInversions.ok _ (by rw [resL_length]; omega), Option.bind_some, wrap_id (by omega) (by omega)]; rfl
  · rw [if_neg h, if_neg h]
theorem spec_ReduceLadder.ok (n : Int) (l : List Int) : spec_ReduceLadder.f.v n l = some (if good n l = true then (n, leastL (resL n l), true) else (0, [], false)) := by
  rw [spec_ReduceLadder.f.v_eq, spec_laGood.ok, Option.bind_some]
  by_cases h : good n l = true
  · have g := good_iff.1 h
    rw [if_pos h, if_pos h, spec_laResult.ok n l h, Option.bind_some, spec_lsFirst.ok _ (by rw [resL_length]; omega) (by rw [resL_length]; omega)]; rfl
  · rw [if_neg h, if_neg h]
theorem ll_invC (p : List Int) (h8 : p.length ≤ 8) : invC p ≤ 28 := by
  have h1 : ∀ n : Nat, n ≤ 8 → allS (fun _ _ => 1) n n 0 ≤ 28 := by decide
  rw [invC_S]
  exact Nat.le_trans (allS_le (invI p) (fun _ _ => 1) p.length p.length 0 (by omega) (fun i k _ _ => invI_le p i k)) (h1 _ h8)
theorem ll_good (p : List Int) (ho : isOrd p = true) (h2 : 2 ≤ p.length) : good (p.length : Int) (leastL p) = true ∧ (leastL p).length = invC p ∧ resL (p.length : Int) (leastL p) = p ∧ ∀ x ∈ leastL p, 0 ≤ x ∧ x + 2 ≤ p.length := by
  obtain ⟨h1, h8⟩ := isOrd_len ho
  obtain ⟨hl, hb, hr⟩ := leastL_all p.length _ p rfl ho rfl
  have hc := ll_invC p h8
  exact ⟨good_iff.2 ⟨by omega, by omega, by omega, fun x hx => by have := hb x hx; omega⟩, hl, hr, hb⟩
theorem ll_none (n : Nat) (l : List Int) (h : ∀ x ∈ l, 0 ≤ x ∧ x + 2 ≤ n) (he : invC (resL (n : Int) l) = l.length) : twiceL (n : Int) l = none := by
  cases e : twiceL (n : Int) l with
  | none => rfl
  | some r => have := (twice_some n l h r e).2; omega
theorem ll_at (p : List Int) (i : Nat) (hi : i < (invs p).length) : ∃ a b : Nat, (invs p).getD i [] = [(a : Int), (b : Int)] ∧ a < b ∧ b < p.length ∧ rd p (b : Int) < rd p (a : Int) := by
  have hm : (invs p).getD i [] ∈ invs p := by rw [List.getD_eq_getElem?_getD, List.getElem?_eq_getElem hi]; exact List.getElem_mem hi
  exact (invs_all p).1 _ hm
theorem ll_one_ok (p : List Int) (ho : isOrd p = true) : LlOne p ((invs p).length : Int) (invs p) := by
  obtain ⟨h1, h8⟩ := isOrd_len ho
  have hc := ll_invC p h8
  have hi := invs_invC p
  refine ⟨rfl, by omega, by omega, fun i hi => ?_⟩
  obtain ⟨a, b, e, hab, hb, hr⟩ := ll_at p i hi
  refine ⟨a, b, e, hab, hb, hr, fun h0 => ?_⟩
  rw [← e]
  have h := List.pairwise_iff_getElem.1 (invs_all p).2 (i - 1) i (by omega) hi (by omega)
  obtain ⟨a2, b2, e2, _⟩ := ll_at p (i - 1) (by omega)
  refine laws_kLess.f.ends _ _ ?_
  rw [laws_kLess.ok _ _ (by rw [e2]; simp), List.getD_eq_getElem?_getD, List.getElem?_eq_getElem (show i - 1 < (invs p).length by omega), List.getD_eq_getElem?_getD, List.getElem?_eq_getElem hi]
  exact congrArg some h
theorem ll_ok_ok (p : List Int) (ho : isOrd p = true) (h2 : 2 ≤ p.length) : LlOk p (p.length : Int) (leastL p) ((invs p).length : Int) (invs p) (desc p) := by
  obtain ⟨h1, h8⟩ := isOrd_len ho
  obtain ⟨hg, hl, hr, hb⟩ := ll_good p ho h2
  have hc := ll_invC p h8
  have hi := invs_invC p
  have hn : needL (p.length : Int) (leastL p) = 0 := by unfold needL; rw [hr, hi, hl]; omega
  have hm := (twice_none p.length (leastL p) hb (ll_none _ _ hb (by rw [hr, hl]))).1
  rw [hr] at hm
  refine ⟨?_, laws_kResult.f.ends _ _ (by rw [laws_kResult.ok, if_pos hg, hr]), laws_kSame.f.ends _ _ (laws_kSame.self _ (by omega)), by omega, by omega, by omega, fun h0 => ?_, fun i hi => ?_⟩
  · refine impl_IsLeast.f.ends _ _ ?_
    rw [impl_IsLeast.ok, if_pos hg, hn]; rfl
  · cases e : desc p with
    | nil => rw [leastL_nil e] at h0; cases h0
    | cons a r => rw [leastL_cons e]; exact ⟨by simp, rfl⟩
  · obtain ⟨a, b, e, hab, hbp, hrd⟩ := ll_at p i hi
    refine ⟨a, b, e, impl_MeetingsOf.f.ends _ _ _ _ ?_⟩
    have h := hm a b hab hbp
    unfold meetN invI at h
    rw [if_pos hrd] at h
    rw [impl_MeetingsOf.ok, if_pos ⟨hasW_iff.2 ⟨hg, by omega, by omega⟩, hasW_iff.2 ⟨hg, by omega, by omega⟩, by omega⟩, h]
    rfl
theorem ll_head_ok (l0 : List Int) (c0 : isCode l0) : LlHead l0 := by
  obtain ⟨p, hf, hl⟩ := spec_DrawLeastLadder.ok l0 c0
  obtain ⟨kd, hkd⟩ := spec_DrawLeastLadder.f.ends l0 hf
  by_cases ho : isOrd p = true
  · obtain ⟨h1, h8⟩ := isOrd_len ho
    have hc := ll_invC p h8
    have hi := invs_invC p
    have hR : (invs p).length ≤ 1000 := by omega
    have hx : ∀ x ∈ invs p, x.length ≤ 1000 := fun x hx => by obtain ⟨a, b, rfl, _⟩ := (invs_all p).1 x hx; simp
    have hd : (desc p).length ≤ 1000 := by have := desc_length p; omega
    have r3 := impl_InversionsOf.f.ends p (r := (((invs p).length : Int), true)) (by rw [impl_InversionsOf.ok, if_pos ho])
    have r4 := spec_InversionsOf.f.ends p (r := (((invs p).length : Int), true)) (by rw [spec_InversionsOf.ok, if_pos ho])
    have r5 := impl_InvertedPairs.f.ends p (r := (invs p, true)) (by rw [impl_InvertedPairs.ok, if_pos ho])
    have r6 := spec_InvertedPairs.f.ends p (r := (invs p, true)) (by rw [spec_InvertedPairs.ok, if_pos ho])
    have r7 := impl_DescentsOf.f.ends p (r := (desc p, true)) (by rw [impl_DescentsOf.ok, if_pos ho])
    have r8 := spec_DescentsOf.f.ends p (r := (desc p, true)) (by rw [spec_DescentsOf.ok, if_pos ho])
    have rR := laws_kRows.f.ends _ _ (laws_kRows.self (invs p) hR hx)
    have rD := laws_kSame.f.ends _ _ (laws_kSame.self (desc p) hd)
    have rO := impl_IsOrder.f.ends p (r := true) (by rw [impl_IsOrder.ok, ho])
    by_cases h2 : 2 ≤ p.length
    · have hll := (ll_good p ho h2).2.1
      exact ⟨p, (p.length : Int), leastL p, true, ((invs p).length : Int), true, invs p, desc p, ⟨kd, hkd⟩, impl_LeastLadder.f.ends _ (by rw [impl_LeastLadder.ok, if_pos ⟨ho, h2⟩]), spec_LeastLadder.f.ends _ (by rw [spec_LeastLadder.ok, if_pos ⟨ho, h2⟩]), r3, r4, r5, r6, r7, r8, laws_kLadder.f.ends _ _ _ _ (laws_kLadder.self _ _ (by omega)), rR, rD, rO, by rw [if_pos rfl]; exact (decide_eq_true (by omega)).symm, fun _ => ll_one_ok p ho, fun _ => ll_ok_ok p ho h2⟩
    · have hn : ¬ (isOrd p = true ∧ 2 ≤ p.length) := fun h => h2 h.2
      exact ⟨p, 0, [], false, ((invs p).length : Int), true, invs p, desc p, ⟨kd, hkd⟩, impl_LeastLadder.f.ends _ (by rw [impl_LeastLadder.ok, if_neg hn]), spec_LeastLadder.f.ends _ (by rw [spec_LeastLadder.ok, if_neg hn]), r3, r4, r5, r6, r7, r8, laws_kLadder.f.ends _ _ _ _ (laws_kLadder.self 0 [] (by simp)), rR, rD, rO, by rw [if_pos rfl]; exact (decide_eq_false (by omega)).symm, fun _ => ll_one_ok p ho, fun h => (by cases h)⟩
  · have hn : ¬ (isOrd p = true ∧ 2 ≤ p.length) := fun h => ho h.1
    have hf' : isOrd p = false := by simpa using ho
    exact ⟨p, 0, [], false, 0, false, [], [], ⟨kd, hkd⟩, impl_LeastLadder.f.ends _ (by rw [impl_LeastLadder.ok, if_neg hn]), spec_LeastLadder.f.ends _ (by rw [spec_LeastLadder.ok, if_neg hn]), impl_InversionsOf.f.ends _ (by rw [impl_InversionsOf.ok, if_neg ho]), spec_InversionsOf.f.ends _ (by rw [spec_InversionsOf.ok, if_neg ho]), impl_InvertedPairs.f.ends _ (by rw [impl_InvertedPairs.ok, if_neg ho]), spec_InvertedPairs.f.ends _ (by rw [spec_InvertedPairs.ok, if_neg ho]), impl_DescentsOf.f.ends _ (by rw [impl_DescentsOf.ok, if_neg ho]), spec_DescentsOf.f.ends _ (by rw [spec_DescentsOf.ok, if_neg ho]), laws_kLadder.f.ends _ _ _ _ (laws_kLadder.self 0 [] (by simp)), laws_kRows.f.ends _ _ (laws_kRows.self [] (by simp) (by simp)), laws_kSame.f.ends _ _ (laws_kSame.self [] (by simp)), impl_IsOrder.f.ends _ (by rw [impl_IsOrder.ok, hf']), rfl, fun h => (by cases h), fun h => (by cases h)⟩
theorem ll_last_ok (l1 : List Int) (c1 : isCode l1) : LlLast l1 := by
  obtain ⟨n, hf⟩ := spec_DrawLongestLadder.ok l1 c1
  have hk : ∀ k : Nat, k ≤ 8 → ((k : Int) * ((k : Int) - 1) = 2 * ((leastL (ident k).reverse).length : Int)) ∧ (leastL (ident k).reverse).length ≤ 100 := by decide +kernel
  by_cases h : 2 ≤ n ∧ n ≤ 8
  · obtain ⟨h0, h8⟩ := h
    obtain ⟨k, rfl⟩ := Int.eq_ofNat_of_zero_le (show 0 ≤ n by omega)
    obtain ⟨e, hb⟩ := hk k (by omega)
    exact ⟨(k : Int), (k : Int), leastL (ident k).reverse, true, hf, impl_LongestLadder.f.ends _ (by rw [impl_LongestLadder.ok, if_pos ⟨h0, h8⟩, Int.toNat_natCast]), spec_LongestLadder.f.ends _ (by rw [spec_LongestLadder.ok, if_pos ⟨h0, h8⟩, Int.toNat_natCast]), laws_kLadder.f.ends _ _ _ _ (laws_kLadder.self _ _ (by omega)), fun _ => ⟨by omega, by omega, e⟩⟩
  · exact ⟨n, 0, [], false, hf, impl_LongestLadder.f.ends _ (by rw [impl_LongestLadder.ok, if_neg h]), spec_LongestLadder.f.ends _ (by rw [spec_LongestLadder.ok, if_neg h]), laws_kLadder.f.ends _ _ _ _ (laws_kLadder.self 0 [] (by simp)), fun h => (by cases h)⟩
theorem ll_tail_ok (l1 : List Int) (c1 : isCode l1) : LlTail l1 := by
  refine ⟨?_, ll_last_ok l1 c1⟩
  obtain ⟨n, l, hf, hl⟩ := spec_DrawIsLeast.ok l1 c1
  obtain ⟨kd, hkd⟩ := spec_DrawIsLeast.f.ends l1 hf
  by_cases hg : good n l = true
  · obtain ⟨g2, g8, g60, gb⟩ := good_iff.1 hg
    obtain ⟨nn, rfl⟩ := Int.eq_ofNat_of_zero_le (show 0 ≤ n by omega)
    have hb : ∀ x ∈ l, 0 ≤ x ∧ x + 2 ≤ nn := fun x hx => by have := gb x hx; omega
    have ho := isOrd_resL hg
    have hlen : (resL (nn : Int) l).length = nn := by rw [resL_length]; omega
    obtain ⟨gg, gl, gr, gbb⟩ := ll_good (resL (nn : Int) l) ho (by omega)
    rw [hlen] at gg gr gbb
    have hir := inv_rungs nn l hb
    have hii := invs_invC (resL (nn : Int) l)
    have hnd : needL (nn : Int) l = (l.length : Int) - (invC (resL (nn : Int) l) : Int) := by unfold needL; rw [hii]
    have hS : LlSeven (nn : Int) l (needL (nn : Int) l == 0) (needL (nn : Int) l) (nn : Int) (leastL (resL (nn : Int) l)) := by
      refine ⟨resL (nn : Int) l, laws_kResult.f.ends _ _ (by rw [laws_kResult.ok, if_pos gg, gr]), laws_kResult.f.ends _ _ (by rw [laws_kResult.ok, if_pos hg]), laws_kSame.f.ends _ _ (laws_kSame.self _ (by omega)), fun he => ?_, by omega, ?_, rfl, by omega, by omega⟩
      · have he' : needL (nn : Int) l = 0 := by simpa using he
        refine laws_kLess.f.ends _ _ ?_
        rw [laws_kLess.ok _ _ (by omega), least_lex nn (by omega) (by omega) l hb ho (by omega)]
      · have h2 : (needL (nn : Int) l) % 2 = 0 := by omega
        rw [Int.tmod_eq_emod_of_nonneg (by omega)]; exact h2
    have i1 := impl_IsLeast.f.ends (nn : Int) l (r := (needL (nn : Int) l == 0, true)) (by rw [impl_IsLeast.ok, if_pos hg])
    have i2 := spec_IsLeast.f.ends (nn : Int) l (r := (needL (nn : Int) l == 0, true)) (by rw [spec_IsLeast.ok, if_pos hg])
    have i5 := impl_NeedlessRungs.f.ends (nn : Int) l (r := (needL (nn : Int) l, true)) (by rw [impl_NeedlessRungs.ok, if_pos hg])
    have i6 := spec_NeedlessRungs.f.ends (nn : Int) l (r := (needL (nn : Int) l, true)) (by rw [spec_NeedlessRungs.ok, if_pos hg])
    have i7 := impl_ReduceLadder.f.ends (nn : Int) l (r := ((nn : Int), leastL (resL (nn : Int) l), true)) (by rw [impl_ReduceLadder.ok, if_pos hg])
    have i8 := spec_ReduceLadder.f.ends (nn : Int) l (r := ((nn : Int), leastL (resL (nn : Int) l), true)) (by rw [spec_ReduceLadder.ok, if_pos hg])
    have i10 := laws_kLadder.f.ends _ _ _ _ (laws_kLadder.self (nn : Int) (leastL (resL (nn : Int) l)) (by have := ll_invC (resL (nn : Int) l) (by omega); omega))
    cases e : twiceL (nn : Int) l with
    | none =>
      have hq := (twice_none nn l hb e).2
      have hz : needL (nn : Int) l = 0 := by omega
      exact ⟨(nn : Int), l, needL (nn : Int) l == 0, true, [], false, needL (nn : Int) l, (nn : Int), leastL (resL (nn : Int) l), ⟨kd, hkd⟩, i1, i2, impl_MeetTwice.f.ends _ _ (by rw [impl_MeetTwice.ok, if_pos hg, e]), spec_MeetTwice.f.ends _ _ (by rw [spec_MeetTwice.ok, if_pos hg, e]), i5, i6, i7, i8, laws_kSame.f.ends _ _ (laws_kSame.self [] (by simp)), i10, by rw [hz]; rfl, fun _ => hS, fun h => (by cases h)⟩
    | some r =>
      obtain ⟨⟨i, k, hik, hkn, rfl, hmm⟩, hlt⟩ := twice_some nn l hb r e
      have hz : (needL (nn : Int) l == 0) = false := beq_eq_false_iff_ne.mpr (by omega)
      exact ⟨(nn : Int), l, needL (nn : Int) l == 0, true, [(i : Int), (k : Int)], true, needL (nn : Int) l, (nn : Int), leastL (resL (nn : Int) l), ⟨kd, hkd⟩, i1, i2, impl_MeetTwice.f.ends _ _ (by rw [impl_MeetTwice.ok, if_pos hg, e]), spec_MeetTwice.f.ends _ _ (by rw [spec_MeetTwice.ok, if_pos hg, e]), i5, i6, i7, i8, laws_kSame.f.ends _ _ (laws_kSame.self _ (by simp)), i10, by rw [hz]; rfl, fun _ => hS, fun _ => ⟨(i : Int), (k : Int), ((meetGo (i : Int) (k : Int) l : Nat) : Int), rfl, impl_MeetingsOf.f.ends _ _ _ _ (by rw [impl_MeetingsOf.ok, if_pos ⟨hasW_iff.2 ⟨hg, by omega, by omega⟩, hasW_iff.2 ⟨hg, by omega, by omega⟩, by omega⟩]), by omega, by omega⟩⟩
  · exact ⟨n, l, false, false, [], false, 0, 0, [], ⟨kd, hkd⟩, impl_IsLeast.f.ends _ _ (by rw [impl_IsLeast.ok, if_neg hg]), spec_IsLeast.f.ends _ _ (by rw [spec_IsLeast.ok, if_neg hg]), impl_MeetTwice.f.ends _ _ (by rw [impl_MeetTwice.ok, if_neg hg]), spec_MeetTwice.f.ends _ _ (by rw [spec_MeetTwice.ok, if_neg hg]), impl_NeedlessRungs.f.ends _ _ (by rw [impl_NeedlessRungs.ok, if_neg hg]), spec_NeedlessRungs.f.ends _ _ (by rw [spec_NeedlessRungs.ok, if_neg hg]), impl_ReduceLadder.f.ends _ _ (by rw [impl_ReduceLadder.ok, if_neg hg]), spec_ReduceLadder.f.ends _ _ (by rw [spec_ReduceLadder.ok, if_neg hg]), laws_kSame.f.ends _ _ (laws_kSame.self [] (by simp)), laws_kLadder.f.ends _ _ _ _ (laws_kLadder.self 0 [] (by simp)), rfl, fun h => (by cases h), fun h => (by cases h)⟩
theorem FnLeastLadders : laws_FnLeastLadders.Pure := by
  intro l0 l1 _ _ h0 _ _ h1
  unfold laws_FnLeastLadders.Ok laws_big.f
  by_cases e0 : (l0.length : Int) > 1048576
  · rw [if_pos e0]; exact Or.inl rfl
  · rw [if_neg e0, wrap_id (x := 1048576 - (l0.length : Int)) (by omega) (by omega)]
    by_cases e1 : (l1.length : Int) > 1048576 - (l0.length : Int)
    · rw [decide_eq_true e1]; exact Or.inl rfl
    · rw [decide_eq_false e1]
      exact Or.inr ⟨rfl, ll_head_ok l0 ⟨fun x hx => u8_bounds (h0 x hx), by omega⟩, ll_tail_ok l1 ⟨fun x hx => u8_bounds (h1 x hx), by omega⟩⟩
end Go.Proofs.Ytaheijeojbimeaa.Pure
