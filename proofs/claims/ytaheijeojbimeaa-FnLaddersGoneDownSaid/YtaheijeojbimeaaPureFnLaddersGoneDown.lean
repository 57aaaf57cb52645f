/- laws.FnLaddersGoneDown answers true for all arguments: the plain law behind its walk. -/
import Derived.Test.YtaheijeojbimeaaVGdx1
import Derived.Test.YtaheijeojbimeaaVGdx2
import Derived.Test.YtaheijeojbimeaaVGdx3
import Derived.Test.YtaheijeojbimeaaVGdx4
import Derived.Test.YtaheijeojbimeaaVGdx5
import Derived.Test.YtaheijeojbimeaaVGdx6
import Derived.Test.YtaheijeojbimeaaWalkFnLaddersGoneDownA
import Derived.Test.YtaheijeojbimeaaCodes
import Derived.Test.YtaheijeojbimeaaDowns
import Derived.Test.YtaheijeojbimeaaDraw
import Derived.Test.YtaheijeojbimeaaLadders
import Derived.Test.YtaheijeojbimeaaOrders
import Derived.Test.YtaheijeojbimeaaPlain
namespace Go.Proofs.Ytaheijeojbimeaa.Pure
open Go.RowKit Go.Proofs.Ytaheijeojbimeaa.PGd Go.Proofs.YtaheijeojbimeaaW.PrintWords Go.Proofs.YtaheijeojbimeaaW.PrintLast Go.Proofs.YtaheijeojbimeaaW.PrintMore Go.Proofs.YtaheijeojbimeaaL
set_option linter.unusedVariables false
set_option linter.unusedSimpArgs false
theorem impl_isLadder.ok (n : Int) (l : List Int) : impl_isLadder.f n l = some (good n l) := by
  unfold impl_isLadder.f good
  have h : (!(l.any (impl_isLadder.bad n))) = l.all (inB n) := by
    rw [List.not_any_eq_all_not]
    congr 1; funext x
    unfold impl_isLadder.bad inB
    exact Bool.not_not _
  rw [h]

theorem impl_checked.ok (n : Int) (l : List Int) : impl_checked.f n l = some (if good n l = true then (n, l, true) else (0, [], false)) := by
  unfold impl_checked.f
  rw [impl_isLadder.ok, Option.bind_some]
  by_cases h : good n l = true
  · rw [if_pos h, if_pos h]
  · rw [if_neg h, if_neg h]

theorem slices_Concat_int_int.ok (a b : List Int) (ha : a.length ≤ 1000) (hb : b.length ≤ 1000) : slices_Concat_int_int.f [a, b] = some (a ++ b) := by
  unfold slices_Concat_int_int.f
  have e : ([a, b] : List (List Int)).flatten = a ++ b := by simp
  rw [e, if_pos ⟨by rw [List.length_append]; omega, show 2 ≤ 1000 by omega⟩]

theorem impl_BelowLadder.ok (n : Int) (l : List Int) (m : Int) (r : List Int) : impl_BelowLadder.f.v n l m r = some (if (good n l = true ∧ good m r = true ∧ n = m) ∧ good n (l ++ r) = true then (n, l ++ r, true) else (0, [], false)) := by
  rw [impl_BelowLadder.f.v_eq, impl_isLadder.ok, Option.bind_some]
  by_cases h : good n l = true
  · have g := good_iff.1 h
    rw [if_pos h, impl_isLadder.ok, Option.bind_some]
    by_cases h2 : good m r = true
    · have g2 := good_iff.1 h2
      rw [if_pos h2, impl_BelowLadder.j0.v_eq]
      by_cases e : n = m
      · rw [if_neg (by simp [e]), slices_Concat_int_int.ok l r (by omega) (by omega), Option.bind_some, impl_checked.ok, Option.bind_some]
        by_cases h3 : good n (l ++ r) = true
        · rw [if_pos h3, if_pos ⟨⟨h, h2, e⟩, h3⟩]
        · rw [if_neg h3, if_neg (fun x => h3 x.2)]
      · rw [if_pos (by simp [e]), if_neg (fun x => e x.1.2.2)]
    · rw [if_neg h2, if_neg (fun x => h2 x.1.2.1), impl_BelowLadder.j0.v_eq, if_pos rfl]
  · rw [if_neg h, if_neg (fun x => h x.1.1), impl_BelowLadder.j0.v_eq, if_pos rfl]

theorem impl_hasWire.ok (n : Int) (l : List Int) (w : Int) : impl_hasWire.f n l w = some (hasW n l w) := by
  unfold impl_hasWire.f
  rw [impl_isLadder.ok, Option.bind_some]
  unfold hasW impl_between.f
  by_cases h : good n l = true
  · obtain ⟨h1, h2, _, _⟩ := good_iff.1 h
    rw [if_pos h, h, Bool.true_and, wrap_id (x := n - 1) (by omega) (by omega)]
    by_cases a : 0 ≤ w
    · rw [if_pos (show w ≥ 0 from a), decide_eq_true a, Bool.true_and]; rfl
    · rw [if_neg (show ¬ w ≥ 0 from a), decide_eq_false a, Bool.false_and]; rfl
  · rw [if_neg h, Bool.eq_false_iff.2 h, Bool.false_and]

theorem impl_over.ok (w r : Int) (h0 : -1000 ≤ r) (h1 : r ≤ 1000) : impl_over.f w r = some (over w r) := by
  unfold impl_over.f over
  rw [wrap_id (x := r + 1) (by omega) (by omega)]
  by_cases a : w = r
  · rw [if_pos a, if_pos a]
  · rw [if_neg a, if_neg a]
    by_cases b : w = r + 1
    · rw [if_pos b, if_pos b]
    · rw [if_neg b, if_neg b]

theorem impl_way.ok_l (xs : List Int) (hn : xs.length ≤ 1000) (hb : ∀ x ∈ xs, -1000 ≤ x ∧ x ≤ 1000) : ∀ (d i : Nat) (w : Int) (acc : List Int), i + d = xs.length → acc.length ≤ i + 1 → impl_way.l0.v w acc xs xs.length i = some (acc ++ wayT w (xs.drop i)) := by
  intro d
  induction d with
  | zero =>
    intro i w acc hd ha
    rw [impl_way.l0.v_eq, if_neg (cast_nlt (by omega)), List.drop_eq_nil_of_le (by omega), wayT, List.append_nil]
  | succ d ih =>
    intro i w acc hd ha
    have h : i < xs.length := by omega
    obtain ⟨h0, h1⟩ := hb _ (rd_mem xs i h)
    rw [impl_way.l0.v_eq, if_pos (cast_lt h), if_pos (Int.natCast_nonneg i), if_pos (cast_lt h), impl_over.ok w _ h0 h1, Option.bind_some, if_pos (by omega), succ_wrap h (by omega), ih (i + 1) _ _ (by omega) (by simp; omega), drop_rd xs i h, wayT, List.append_assoc]
    rfl
theorem impl_way.ok (n : Int) (xs : List Int) (w : Int) (hn : xs.length ≤ 1000) (hb : ∀ x ∈ xs, -1000 ≤ x ∧ x ≤ 1000) : impl_way.f.v n xs w = some (wayL w xs) := by
  rw [impl_way.f.v_eq]
  have := impl_way.ok_l xs hn hb xs.length 0 w [w] (by omega) (by simp)
  simpa [wayL] using this
theorem good_wide' {n : Int} {l : List Int} (h : good n l = true) : l.length ≤ 1000 ∧ ∀ x ∈ l, -1000 ≤ x ∧ x ≤ 1000 := by
  obtain ⟨_, h2, h3, h4⟩ := good_iff.1 h
  exact ⟨by omega, fun x hx => by have := h4 x hx; omega⟩

theorem impl_EndOf.ok (n : Int) (l : List Int) (w : Int) : impl_EndOf.f.v n l w = some (if hasW n l w = true then (endL w l, true) else (0, false)) := by
  rw [impl_EndOf.f.v_eq, impl_hasWire.ok, Option.bind_some]
  by_cases h : hasW n l w = true
  · obtain ⟨hg, _⟩ := hasW_iff.1 h
    obtain ⟨h1, h2⟩ := good_wide' hg
    rw [if_pos h, if_pos h, impl_way.ok n l w h1 h2, Option.bind_some, wayL_length, wrap_id (by omega) (by omega), show ((l.length + 1 : Nat) : Int) - 1 = (l.length : Int) by omega, if_pos (Int.natCast_nonneg _), if_pos (by omega), wayL_last]
  · rw [if_neg h, if_neg h]

theorem impl_IsLadder.ok (n : Int) (l : List Int) : impl_IsLadder.f n l = some (good n l) := by
  unfold impl_IsLadder.f
  rw [impl_isLadder.ok]; rfl

theorem slices_Index_int_int.ok_l (v : Int) (xs : List Int) (hn : xs.length ≤ 140737488355328) : ∀ (d i : Nat), xs.length - i = d → ∃ r, slices_Index_int_int.l0.v xs v xs.length i = some r ∧ decide (r ≥ 0) = decide (v ∈ xs.drop i) := by
  intro d
  induction d with
  | zero =>
    intro i hd
    refine ⟨-1, ?_, ?_⟩
    · rw [slices_Index_int_int.l0.v_eq, if_neg (cast_nlt (by omega))]
    · rw [List.drop_eq_nil_of_le (by omega)]; simp
  | succ d ih =>
    intro i hd
    have h : i < xs.length := by omega
    obtain ⟨r, hr, hr'⟩ := ih (i + 1) (by omega)
    rw [slices_Index_int_int.l0.v_eq, if_pos (cast_lt h), if_pos (Int.natCast_nonneg i), if_pos (cast_lt h), succ_wrap h hn, hr, drop_rd xs i h]
    by_cases e : v = rd xs (i : Int)
    · rw [if_pos e]; exact ⟨i, rfl, by simp [e, Int.natCast_nonneg]⟩
    · rw [if_neg e]; exact ⟨r, rfl, by rw [hr']; simp [e]⟩

theorem slices_Contains_int_int.ok (v : Int) (xs : List Int) (hn : xs.length ≤ 140737488355328) : slices_Contains_int_int.f.v xs v = some (decide (v ∈ xs)) := by
  obtain ⟨r, hr, hr'⟩ := slices_Index_int_int.ok_l v xs hn xs.length 0 (by omega)
  have e : slices_Index_int_int.f.v xs v = some r := by rw [slices_Index_int_int.f.v_eq]; exact hr
  rw [slices_Contains_int_int.f.v_eq, e, Option.bind_some, hr', List.drop_zero]

theorem impl_isOrder.ok_l (p : List Int) (hn : p.length ≤ 8) : ∀ (d i : Nat), p.length - i = d → impl_isOrder.l0.v p p p.length i = some (ordGo p.length (p.take i) (p.drop i)) := by
  intro d
  induction d with
  | zero =>
    intro i hd
    rw [impl_isOrder.l0.v_eq, if_neg (cast_nlt (by omega)), List.drop_eq_nil_of_le (by omega)]
    rfl
  | succ d ih =>
    intro i hd
    have h : i < p.length := by omega
    rw [impl_isOrder.l0.v_eq, if_pos (cast_lt h), if_pos (Int.natCast_nonneg i), if_pos (cast_lt h), succ_wrap h (by omega), ih (i + 1) (by omega), drop_rd p i h, take_rd p i h]
    rw [wrap_id (x := (p.length : Int) - 1) (by omega) (by omega), toNat_cast, slices_Contains_int_int.ok _ _ (by rw [List.length_take]; omega)]
    unfold impl_between.f
    rw [ordGo_cons]
    by_cases a : 0 ≤ rd p (i : Int)
    · by_cases b : rd p (i : Int) ≤ (p.length : Int) - 1
      · have hi : (i : Int) ≤ (p.length : Int) := by omega
        by_cases c : rd p (i : Int) ∈ p.take i
        · simp only [ge_iff_le, a, b, c, hi, decide_true, decide_false, if_true, if_false, Option.bind_some, true_and, and_true, and_self, Bool.false_eq_true]
        · simp only [ge_iff_le, a, b, c, hi, decide_true, decide_false, if_true, if_false, Option.bind_some, true_and, and_true, and_self, Bool.false_eq_true]
      · simp [a, b]
    · simp [a]
theorem impl_isOrder.ok (p : List Int) : impl_isOrder.f.v p = some (isOrd p) := by
  rw [impl_isOrder.f.v_eq]
  unfold impl_between.f isOrd
  by_cases h : 1 ≤ p.length ∧ p.length ≤ 8
  · have := impl_isOrder.ok_l p h.2 p.length 0 (by omega)
    have h1 : (p.length : Int) ≥ 1 := by omega
    have h2 : (p.length : Int) ≤ 8 := by omega
    rw [if_pos h1, if_pos h, decide_eq_true h2]
    simpa using this
  · rw [if_neg h]
    by_cases h1 : (p.length : Int) ≥ 1
    · have h2 : ¬ (p.length : Int) ≤ 8 := by omega
      rw [if_pos h1, decide_eq_false h2]; rfl
    · rw [if_neg h1]; rfl

theorem impl_IsOrder.ok (p : List Int) : impl_IsOrder.f.v p = some (isOrd p) := by
  rw [impl_IsOrder.f.v_eq, impl_isOrder.ok]; rfl

theorem impl_MeetingsOf.ok_l (l : List Int) (a b : Int) (hn : l.length ≤ 1000) : ∀ (d i c : Nat), i + d = l.length → c ≤ i → impl_MeetingsOf.l0.v (wayL a l) (wayL b l) c l.length i = some (((c + meetGo (rd (wayL a l) (i : Int)) (rd (wayL b l) (i : Int)) (l.drop i) : Nat) : Int), true) := by
  intro d
  induction d with
  | zero =>
    intro i c hd hc
    rw [impl_MeetingsOf.l0.v_eq, if_neg (cast_nlt (by omega)), List.drop_eq_nil_of_le (by omega)]; rfl
  | succ d ih =>
    intro i c hd hc
    have h : i < l.length := by omega
    have la := wayL_length a l
    have lb := wayL_length b l
    have q1 : (i : Int) < ((wayL a l).length : Int) := by omega
    have q2 : (i : Int) < ((wayL b l).length : Int) := by omega
    have q3 : ((i + 1 : Nat) : Int) < ((wayL a l).length : Int) := by omega
    have q4 : ((i + 1 : Nat) : Int) < ((wayL b l).length : Int) := by omega
    rw [impl_MeetingsOf.l0.v_eq, if_pos (cast_lt h), if_pos (Int.natCast_nonneg i), if_pos q1, succ_wrap h (by omega), if_pos (Int.natCast_nonneg _), if_pos q4, drop_rd l i h, meetGo, ← wayL_next a l i h, ← wayL_next b l i h]
    by_cases e1 : rd (wayL a l) (i : Int) = rd (wayL b l) ((i + 1 : Nat) : Int)
    · rw [if_pos e1, if_pos q2, if_pos q3]
      by_cases e2 : rd (wayL b l) (i : Int) = rd (wayL a l) ((i + 1 : Nat) : Int)
      · rw [if_pos e2, if_pos ⟨e2.symm, e1.symm⟩, wrap_id (x := (c : Int) + 1) (by omega) (by omega), show (c : Int) + 1 = ((c + 1 : Nat) : Int) by omega, ih (i + 1) (c + 1) (by omega) (by omega), Nat.add_assoc]
      · rw [if_neg e2, if_neg (fun z => e2 z.1.symm), ih (i + 1) c (by omega) (by omega), Nat.zero_add]
    · rw [if_neg e1, if_neg (fun z => e1 z.2.symm), ih (i + 1) c (by omega) (by omega), Nat.zero_add]
theorem impl_MeetingsOf.ok (n : Int) (l : List Int) (a b : Int) : impl_MeetingsOf.f.v n l a b = some (if hasW n l a = true ∧ hasW n l b = true ∧ a ≠ b then (((meetGo a b l : Nat) : Int), true) else (0, false)) := by
  rw [impl_MeetingsOf.f.v_eq, impl_hasWire.ok, Option.bind_some]
  simp only [impl_MeetingsOf.j0.v_eq]
  by_cases h : hasW n l a = true
  · rw [if_pos h, impl_hasWire.ok, Option.bind_some]
    by_cases h2 : hasW n l b = true
    · rw [if_pos h2]
      by_cases h3 : a = b
      · rw [if_pos (beq_iff_eq.2 h3), if_neg (fun z => z.2.2 h3)]
      · obtain ⟨hg, _⟩ := hasW_iff.1 h
        obtain ⟨w1, w2⟩ := good_wide' hg
        rw [if_neg (fun z => h3 (beq_iff_eq.1 z)), if_pos ⟨h, h2, h3⟩, impl_way.ok n l a w1 w2, impl_way.ok n l b w1 w2, Option.bind_some, Option.bind_some]
        have := impl_MeetingsOf.ok_l l a b w1 l.length 0 0 (by omega) (by omega)
        simpa [wayL, rd] using this
    · rw [if_neg h2, if_pos trivial, if_neg (fun z => h2 z.2.1)]
  · rw [if_neg h, if_pos trivial, if_neg (fun z => h z.1)]

theorem impl_result.ok_l (n : Int) (l : List Int) (hg : good n l = true) : ∀ (d i : Nat) (acc : List Int), i + d = n.toNat → acc.length ≤ i → impl_result.l0.v n l acc n i = some (acc ++ resGo l d i) := by
  obtain ⟨g1, g2, _, _⟩ := good_iff.1 hg
  obtain ⟨h1, h2⟩ := good_wide' hg
  intro d
  induction d with
  | zero =>
    intro i acc hd ha
    rw [impl_result.l0.v_eq, if_neg (by omega), resGo, List.append_nil]
  | succ d ih =>
    intro i acc hd ha
    rw [impl_result.l0.v_eq, if_pos (by omega), impl_way.ok n l _ h1 h2, Option.bind_some, wayL_length, wrap_id (x := ((l.length + 1 : Nat) : Int) - 1) (by omega) (by omega), show ((l.length + 1 : Nat) : Int) - 1 = (l.length : Int) by omega, if_pos (Int.natCast_nonneg _), if_pos (by omega), if_pos (by omega), wayL_last, succ_wrap (show i < n.toNat by omega) (by omega), ih (i + 1) _ (by omega) (by simp; omega), resGo, List.append_assoc]; rfl
theorem impl_result.ok (n : Int) (l : List Int) (hg : good n l = true) : impl_result.f.v n l = some (resL n l) := by
  rw [impl_result.f.v_eq]
  have := impl_result.ok_l n l hg n.toNat 0 [] (by omega) (by simp)
  simpa [resL] using this

theorem impl_ResultOf.ok (n : Int) (l : List Int) : impl_ResultOf.f.v n l = some (if good n l = true then (resL n l, true) else ([], false)) := by
  rw [impl_ResultOf.f.v_eq, impl_isLadder.ok, Option.bind_some]
  by_cases h : good n l = true
  · rw [if_pos h, if_pos h, impl_result.ok n l h]; rfl
  · rw [if_neg h, if_neg h]

theorem impl_RungsUsed.ok_l (ws : List Int) (m : Nat) (hm : m ≤ 1000) (hw : ws.length = m + 1) : ∀ (d i : Nat) (acc : List Int), i + d = m → acc.length ≤ i → impl_RungsUsed.l0.v ws acc m i = some (acc ++ usedGo ws d i, true) := by
  intro d
  induction d with
  | zero =>
    intro i acc hd ha
    rw [impl_RungsUsed.l0.v_eq, if_neg (cast_nlt (by omega)), usedGo, List.append_nil]
  | succ d ih =>
    intro i acc hd ha
    have h : i < m := by omega
    rw [impl_RungsUsed.l0.v_eq, if_pos (cast_lt h), if_pos (Int.natCast_nonneg i), if_pos (by omega), succ_wrap h (by omega), if_pos (Int.natCast_nonneg _), if_pos (by omega), usedGo]
    by_cases e : rd ws (i : Int) = rd ws ((i + 1 : Nat) : Int)
    · rw [if_pos e, if_pos e, ih (i + 1) _ (by omega) (by omega)]
    · rw [if_neg e, if_neg e, if_pos (by omega), ih (i + 1) _ (by omega) (by simp; omega), List.append_assoc]; rfl
theorem impl_RungsUsed.ok (n : Int) (l : List Int) (w : Int) : impl_RungsUsed.f.v n l w = some (if hasW n l w = true then (usedL w l, true) else ([], false)) := by
  rw [impl_RungsUsed.f.v_eq, impl_hasWire.ok, Option.bind_some]
  by_cases h : hasW n l w = true
  · obtain ⟨hg, _⟩ := hasW_iff.1 h
    obtain ⟨h1, h2⟩ := good_wide' hg
    rw [if_pos h, if_pos h, impl_way.ok n l w h1 h2, Option.bind_some]
    have := impl_RungsUsed.ok_l (wayL w l) l.length h1 (wayL_length w l) l.length 0 [] (by omega) (by simp)
    simpa [usedL] using this
  · rw [if_neg h, if_neg h]

theorem impl_then.ok_l (p q : List Int) (hp : p.length ≤ 8) (hb : ∀ x ∈ p, 0 ≤ x ∧ x < q.length) : ∀ (d i : Nat) (acc : List Int), i + d = p.length → acc.length ≤ i → impl_then.l0.v q acc p p.length i = some (acc ++ (p.drop i).map fun x => rd q x) := by
  intro d
  induction d with
  | zero =>
    intro i acc hd ha
    rw [impl_then.l0.v_eq, if_neg (cast_nlt (by omega)), List.drop_eq_nil_of_le (by omega), List.map_nil, List.append_nil]
  | succ d ih =>
    intro i acc hd ha
    have h : i < p.length := by omega
    obtain ⟨h1, h2⟩ := hb _ (rd_mem p i h)
    rw [impl_then.l0.v_eq, if_pos (cast_lt h), if_pos (Int.natCast_nonneg i), if_pos (cast_lt h), if_pos h1, if_pos h2, if_pos (by omega), succ_wrap h (by omega), ih (i + 1) _ (by omega) (by simp; omega), drop_rd p i h, List.map_cons, List.append_assoc]
    rfl
theorem impl_then.ok (p q : List Int) (hp : p.length ≤ 8) (hb : ∀ x ∈ p, 0 ≤ x ∧ x < q.length) : impl_then.f.v p q = some (thenL p q) := by
  rw [impl_then.f.v_eq]
  have := impl_then.ok_l p q hp hb p.length 0 [] (by omega) (by simp)
  simpa [thenL] using this

theorem impl_ThenOrder.ok (p q : List Int) : impl_ThenOrder.f.v p q = some (if isOrd p = true ∧ isOrd q = true ∧ p.length = q.length then (thenL p q, true) else ([], false)) := by
  rw [impl_ThenOrder.f.v_eq, impl_isOrder.ok, Option.bind_some]
  by_cases h : isOrd p = true
  · rw [if_pos h, impl_isOrder.ok, Option.bind_some]
    by_cases h2 : isOrd q = true
    · rw [if_pos h2]
      by_cases h3 : p.length = q.length
      · rw [if_pos (by omega), if_pos ⟨h, h2, h3⟩, impl_then.ok p q (isOrd_len h).2 (fun x hx => by have := (isOrd_all h).1 x hx; omega)]; rfl
      · rw [if_neg (by omega), if_neg (fun z => h3 z.2.2)]
    · rw [if_neg h2, if_neg (fun z => h2 z.2.1)]
  · rw [if_neg h, if_neg (fun z => h z.1)]

theorem impl_WayDown.ok (n : Int) (l : List Int) (w : Int) : impl_WayDown.f.v n l w = some (if hasW n l w = true then (wayL w l, true) else ([], false)) := by
  rw [impl_WayDown.f.v_eq, impl_hasWire.ok, Option.bind_some]
  by_cases h : hasW n l w = true
  · obtain ⟨hg, _⟩ := hasW_iff.1 h
    obtain ⟨h1, h2⟩ := good_wide' hg
    rw [if_pos h, if_pos h, impl_way.ok n l w h1 h2]; rfl
  · rw [if_neg h, if_neg h]

theorem laws_kHas.ok_l (l : List Int) (x : Int) (hl : l.length ≤ 1000) : ∀ (d i : Nat), i + d = l.length → laws_kHas.l0.v x l l.length i = some (decide (x ∈ l.drop i)) := by
  intro d
  induction d with
  | zero =>
    intro i hd
    rw [laws_kHas.l0.v_eq, if_neg (cast_nlt (by omega)), List.drop_eq_nil_of_le (by omega)]; simp
  | succ d ih =>
    intro i hd
    have h : i < l.length := by omega
    rw [laws_kHas.l0.v_eq, if_pos (cast_lt h), if_pos (Int.natCast_nonneg i), if_pos (cast_lt h), drop_rd l i h]
    by_cases e : rd l (i : Int) = x
    · rw [if_pos e, decide_eq_true (by rw [e]; exact List.mem_cons_self)]
    · rw [if_neg e, succ_wrap h (by omega), ih (i + 1) (by omega)]
      congr 1
      rw [decide_eq_decide, List.mem_cons]
      exact ⟨fun y => .inr y, fun y => y.resolve_left (fun z => e z.symm)⟩
theorem laws_kHas.ok (l : List Int) (x : Int) (hl : l.length ≤ 1000) : laws_kHas.f.v l x = some (decide (x ∈ l)) := by
  rw [laws_kHas.f.v_eq]
  have := laws_kHas.ok_l l x hl l.length 0 (by omega)
  simpa using this

theorem laws_kSame.ok_l (a b : List Int) (hab : a.length = b.length) (ha : a.length ≤ 1000) : ∀ (d i : Nat), i + d = a.length → laws_kSame.l0.v a b a.length i = some (decide (a.drop i = b.drop i)) := by
  intro d
  induction d with
  | zero =>
    intro i hd
    rw [laws_kSame.l0.v_eq, if_neg (cast_nlt (by omega)), List.drop_eq_nil_of_le (by omega), List.drop_eq_nil_of_le (by omega)]; rfl
  | succ d ih =>
    intro i hd
    have h : i < a.length := by omega
    rw [laws_kSame.l0.v_eq, if_pos (cast_lt h), if_pos (Int.natCast_nonneg i), if_pos (cast_lt h), if_pos (cast_lt (by omega)), succ_wrap h (by omega), ih (i + 1) (by omega), drop_rd a i h, drop_rd b i (by omega)]
    by_cases e : rd a (i : Int) = rd b (i : Int)
    · rw [if_pos e, e]
      congr 1
      rw [decide_eq_decide, List.cons.injEq]
      exact ⟨fun x => ⟨rfl, x⟩, fun x => x.2⟩
    · rw [if_neg e, decide_eq_false (fun x => e (List.cons.inj x).1)]
theorem laws_kSame.ok (a b : List Int) (hab : a.length = b.length) (ha : a.length ≤ 1000) : laws_kSame.f.v a b = some (decide (a = b)) := by
  rw [laws_kSame.f.v_eq, if_pos (by omega)]
  have := laws_kSame.ok_l a b hab ha a.length 0 (by omega)
  simpa using this
theorem laws_kSame.self (a : List Int) (ha : a.length ≤ 1000) : laws_kSame.f.v a a = some true := by
  rw [laws_kSame.ok a a rfl ha]; simp

theorem laws_kLadder.self (n : Int) (l : List Int) (h : l.length ≤ 1000) : laws_kLadder.f.v n l n l = some true := by
  rw [laws_kLadder.f.v_eq, if_pos rfl, laws_kSame.self l h]
  rfl

theorem laws_kResult.ok (n : Int) (l : List Int) : laws_kResult.f.v n l = some (if good n l = true then resL n l else []) := by
  rw [laws_kResult.f.v_eq, impl_ResultOf.ok, Option.bind_some]
  by_cases h : good n l = true
  · rw [if_pos h, if_pos h]; rfl
  · rw [if_neg h, if_neg h]; rfl

theorem spec_l1Own.ok (l : List Int) (h : l.length ≤ 1048576) : spec_l1Own.f l = some l := by
  unfold spec_l1Own.f
  rw [Option.bind_some, if_pos (by simp; omega)]; rfl

theorem spec_l1All.ok_l (a b : Int) (xs : List Int) (hn : xs.length ≤ 140737488355328) : ∀ (d i : Nat), i + d = xs.length → spec_l1All.l0.v a b xs xs.length i = some ((xs.drop i).all fun x => decide (a ≤ x) && decide (x ≤ b)) := by
  intro d
  induction d with
  | zero =>
    intro i hd
    rw [spec_l1All.l0.v_eq, if_neg (cast_nlt (by omega)), List.drop_eq_nil_of_le (by omega)]
    rfl
  | succ d ih =>
    intro i hd
    have h : i < xs.length := by omega
    rw [spec_l1All.l0.v_eq, if_pos (cast_lt h), if_pos (Int.natCast_nonneg i), if_pos (cast_lt h), succ_wrap h hn, ih (i + 1) (by omega), drop_rd xs i h, List.all_cons]
    unfold spec_l1In.f
    by_cases e : a ≤ rd xs (i : Int)
    · rw [if_pos (show rd xs (i : Int) ≥ a from e), Option.bind_some, decide_eq_true e, Bool.true_and]
      by_cases e2 : rd xs (i : Int) ≤ b
      · rw [decide_eq_true e2, if_pos rfl, Bool.true_and]
      · rw [decide_eq_false e2, if_neg (by simp), Bool.false_and]
    · rw [if_neg (show ¬ rd xs (i : Int) ≥ a from e), Option.bind_some, decide_eq_false e, if_neg (by simp), Bool.false_and, Bool.false_and]
theorem spec_l1All.ok (xs : List Int) (a b : Int) (hn : xs.length ≤ 140737488355328) : spec_l1All.f.v xs a b = some (xs.all fun x => decide (a ≤ x) && decide (x ≤ b)) := by
  rw [spec_l1All.f.v_eq]
  have := spec_l1All.ok_l a b xs hn xs.length 0 (by omega)
  simpa using this

theorem spec_laGood.ok (n : Int) (l : List Int) : spec_laGood.f.v n l = some (good n l) := by
  rw [spec_laGood.f.v_eq]
  unfold spec_l1In.f good
  by_cases h1 : 2 ≤ n
  · rw [if_pos (show n ≥ 2 from h1), Option.bind_some, decide_eq_true h1, Bool.true_and]
    by_cases h2 : n ≤ 8
    · rw [decide_eq_true h2, if_pos rfl, Bool.true_and]
      by_cases h3 : l.length ≤ 60
      · rw [if_pos (by omega), decide_eq_true h3, Bool.true_and, spec_l1All.ok l 0 _ (by omega), wrap_id (x := n - 2) (by omega) (by omega)]; rfl
      · rw [if_neg (by omega), decide_eq_false h3, Bool.false_and]
    · rw [decide_eq_false h2, if_neg (by simp), Bool.false_and, Bool.false_and]
  · rw [if_neg (show ¬ n ≥ 2 from h1), Option.bind_some, decide_eq_false h1, if_neg (by simp), Bool.false_and, Bool.false_and, Bool.false_and]

theorem spec_laIf.ok (n : Int) (l : List Int) : spec_laIf.f.v n l = some (if good n l = true then (n, l, true) else (0, [], false)) := by
  rw [spec_laIf.f.v_eq, spec_laGood.ok, Option.bind_some]
  by_cases h : good n l = true
  · rw [if_pos h, if_pos h]
  · rw [if_neg h, if_neg h]

theorem spec_BelowLadder.ok (n : Int) (l : List Int) (m : Int) (r : List Int) : spec_BelowLadder.f.v n l m r = some (if (good n l = true ∧ good m r = true ∧ n = m) ∧ good n (l ++ r) = true then (n, l ++ r, true) else (0, [], false)) := by
  rw [spec_BelowLadder.f.v_eq, spec_laGood.ok, Option.bind_some]
  by_cases h : good n l = true
  · have g := good_iff.1 h
    rw [if_pos h, spec_laGood.ok, Option.bind_some]
    by_cases h2 : good m r = true
    · have g2 := good_iff.1 h2
      rw [if_pos h2, spec_BelowLadder.j0.v_eq]
      by_cases e : n = m
      · rw [if_neg (by simp [e]), spec_l1Own.ok l (by omega), Option.bind_some, if_pos (by omega), spec_laIf.ok, Option.bind_some]
        by_cases h3 : good n (l ++ r) = true
        · rw [if_pos h3, if_pos ⟨⟨h, h2, e⟩, h3⟩]
        · rw [if_neg h3, if_neg (fun x => h3 x.2)]
      · rw [if_pos (by simp [e]), if_neg (fun x => e x.1.2.2)]
    · rw [if_neg h2, if_neg (fun x => h2 x.1.2.1), spec_BelowLadder.j0.v_eq, if_pos rfl]
  · rw [if_neg h, if_neg (fun x => h x.1.1), spec_BelowLadder.j0.v_eq, if_pos rfl]

theorem spec_l1Cur_next.ok (c : List Int) (hc : isCode c) (at_ s : Int) (h0 : 0 ≤ at_) (h1 : at_ ≤ 1000000000) : ∃ b s', spec_l1Cur_next.f c at_ s = some (b, at_ + 1, s') ∧ 0 ≤ b ∧ b ≤ 255 := by
  unfold spec_l1Cur_next.f
  rw [wrap_id (x := at_ + 1) (by omega) (by omega)]
  by_cases e : at_ < (c.length : Int)
  · have hb : 0 ≤ rd c at_ ∧ rd c at_ ≤ 255 := by
      have := rd_mem c at_.toNat (by omega)
      rw [Int.toNat_of_nonneg h0] at this
      exact hc.1 _ this
    rw [if_pos e, if_pos h0, if_pos (by omega), wrap_id (x := rd c at_) (by omega) (by omega)]
    exact ⟨_, _, rfl, hb.1, hb.2⟩
  · rw [if_neg e, if_neg (by omega)]
    exact ⟨_, _, rfl, (top_byte _).1, (top_byte _).2⟩

theorem spec_l1Cur_pick.ok (c : List Int) (hc : isCode c) (at_ s n : Int) (h0 : 0 ≤ at_) (h1 : at_ ≤ 100000000) (hn : 1 ≤ n) (hn2 : n ≤ 200) : ∃ x a' s', spec_l1Cur_pick.f c at_ s n = some (x, a', s') ∧ 0 ≤ x ∧ x < n ∧ 0 ≤ a' ∧ a' ≤ at_ + 1 := by
  unfold spec_l1Cur_pick.f
  by_cases e : n ≤ 1
  · rw [if_pos e]
    exact ⟨_, _, _, rfl, by omega, by omega, by omega, by omega⟩
  · obtain ⟨b, s', hf, hb0, hb1⟩ := spec_l1Cur_next.ok c hc at_ s h0 (by omega)
    rw [if_neg e, hf, Option.bind_some, if_neg (by omega), if_neg (by omega)]
    have := tmod_lt b n hb0 (by omega)
    exact ⟨_, _, _, rfl, this.1, this.2, by dsimp only; omega, by dsimp only; omega⟩

theorem spec_l1Cur_among.ok (c : List Int) (hc : isCode c) (at_ s : Int) (l : List Int) (h0 : 0 ≤ at_) (h1 : at_ ≤ 100000000) (hn : 1 ≤ l.length) (hn2 : l.length ≤ 200) : ∃ x a' s', spec_l1Cur_among.f c at_ s l = some (x, a', s') ∧ 0 ≤ a' ∧ a' ≤ at_ + 1 := by
  unfold spec_l1Cur_among.f
  obtain ⟨x, a', s', hf, x0, x1, a0, a1⟩ := spec_l1Cur_pick.ok c hc at_ s l.length h0 h1 (by omega) (by omega)
  rw [hf, Option.bind_some, if_pos x0, if_pos x1]
  exact ⟨_, _, _, rfl, a0, a1⟩

theorem spec_l1Cur_sureLadder.ok_l (c : List Int) (hc : isCode c) (n : Int) (h2 : 2 ≤ n) (h6 : n ≤ 100) : ∀ (k : Nat) (l : List Int) (at_ s : Int), k ≤ 100 → l.length + k ≤ 1000 → 0 ≤ at_ → at_ + k ≤ 100000000 →
    ∃ r a' s', spec_l1Cur_sureLadder.l0.v (k : Int) c at_ s n l = some (n, r, a', s') ∧ r.length = l.length + k ∧ 0 ≤ a' ∧ a' ≤ at_ + k ∧ (∀ x ∈ r, x ∈ l ∨ (0 ≤ x ∧ x ≤ n - 2)) := by
  intro k
  induction k with
  | zero =>
    intro l at_ s _ _ h0 h1
    rw [spec_l1Cur_sureLadder.l0.v_eq, if_neg (by omega)]
    exact ⟨_, _, _, rfl, by omega, h0, by omega, fun x hx => .inl hx⟩
  | succ k ih =>
    intro l at_ s hk hl h0 h1
    obtain ⟨x, a', s', hf, x0, x1, a0, a1⟩ := spec_l1Cur_pick.ok c hc at_ s (n - 1) h0 (by omega) (by omega) (by omega)
    rw [spec_l1Cur_sureLadder.l0.v_eq, if_pos (by omega), wrap_id (x := n - 1) (by omega) (by omega), hf, Option.bind_some]
    simp only []
    rw [if_pos (by omega), wrap_id (x := ((k + 1 : Nat) : Int) - 1) (by omega) (by omega), show ((k + 1 : Nat) : Int) - 1 = (k : Int) by omega]
    obtain ⟨r, a2, s2, hr, e1, e2, e3, e4⟩ := ih (l ++ [x]) a' s' (by omega) (by rw [List.length_append, List.length_singleton]; omega) a0 (by omega)
    refine ⟨r, a2, s2, hr, by rw [e1, List.length_append, List.length_singleton]; omega, e2, by omega, fun y hy => ?_⟩
    rcases e4 y hy with h | h
    · rcases List.mem_append.1 h with h | h
      · exact .inl h
      · obtain rfl := List.mem_singleton.1 h
        exact .inr ⟨x0, by omega⟩
    · exact .inr h
theorem spec_l1Cur_sureLadder.ok (c : List Int) (hc : isCode c) (at_ s : Int) (ws rs : Int) (w2 : 2 ≤ ws) (w8 : ws ≤ 50) (r0 : 0 ≤ rs) (r1 : rs ≤ 90) (a0 : 0 ≤ at_) (a1 : at_ ≤ 50000000) :
    ∃ n r a' s', spec_l1Cur_sureLadder.f.v c at_ s ws rs = some (n, r, a', s') ∧ 2 ≤ n ∧ n ≤ ws ∧ (r.length : Int) ≤ rs ∧ (∀ x ∈ r, 0 ≤ x ∧ x ≤ n - 2) ∧ 0 ≤ a' ∧ a' ≤ at_ + 100 := by
  obtain ⟨x, b, t, hf, x0, x1, b0, b1⟩ := spec_l1Cur_pick.ok c hc at_ s (ws - 1) a0 (by omega) (by omega) (by omega)
  rw [spec_l1Cur_sureLadder.f.v_eq, wrap_id (x := ws - 1) (by omega) (by omega), hf, Option.bind_some]
  simp only []
  obtain ⟨y, b2, t2, hf2, y0, y1, c0, c1⟩ := spec_l1Cur_pick.ok c hc b t (rs + 1) b0 (by omega) (by omega) (by omega)
  rw [wrap_id (x := rs + 1) (by omega) (by omega), hf2, Option.bind_some]
  simp only []
  rw [wrap_id (x := 2 + x) (by omega) (by omega)]
  obtain ⟨k, rfl⟩ := Int.eq_ofNat_of_zero_le y0
  obtain ⟨r, a2, s2, hr, e1, e2, e3, e4⟩ := spec_l1Cur_sureLadder.ok_l c hc (2 + x) (by omega) (by omega) k [] b2 t2 (by omega) (by simp; omega) c0 (by omega)
  refine ⟨_, r, a2, s2, hr, by omega, by omega, by rw [e1]; simp; omega, fun z hz => ?_, e2, by omega⟩
  rcases e4 z hz with h | h
  · cases h
  · exact h

theorem spec_l1Cur_ladder.ok (c : List Int) (hc : isCode c) (at_ s : Int) (a0 : 0 ≤ at_) (a1 : at_ ≤ 40000000) : ∃ n r a' s', spec_l1Cur_ladder.f.v c at_ s = some (n, r, a', s') ∧ r.length ≤ 61 ∧ 0 ≤ a' ∧ a' ≤ at_ + 200 := by
  obtain ⟨n, r, b, t, hf, n0, n1, r1, r2, b0, b1⟩ := spec_l1Cur_sureLadder.ok c hc at_ s 6 12 (by omega) (by omega) (by omega) (by omega) a0 (by omega)
  rw [spec_l1Cur_ladder.f.v_eq, hf, Option.bind_some]
  simp only []
  obtain ⟨x, b2, t2, hf2, x0, x1, c0, c1⟩ := spec_l1Cur_pick.ok c hc b t 16 b0 (by omega) (by omega) (by omega)
  rw [hf2, Option.bind_some]
  simp only []
  by_cases e0 : x = 0
  · obtain ⟨y, b3, t3, hf3, d0, d1⟩ := spec_l1Cur_among.ok c hc b2 t2 [-1, wrap64 (n - 1), 4611686018427387904] c0 (by omega) (by simp) (by simp)
    rw [if_pos e0, hf3, Option.bind_some]
    simp only []
    rw [if_pos (by omega)]
    exact ⟨_, _, _, _, rfl, by rw [List.length_append, List.length_singleton]; omega, d0, by omega⟩
  · rw [if_neg e0]
    by_cases e1 : x = 1
    · obtain ⟨y, b3, t3, hf3, d0, d1⟩ := spec_l1Cur_among.ok c hc b2 t2 [1, 2, 8, 9, -1] c0 (by omega) (by simp) (by simp)
      rw [if_pos e1, hf3, Option.bind_some]
      exact ⟨_, _, _, _, rfl, by first | omega | (dsimp only; omega), d0, by first | omega | (dsimp only; omega)⟩
    · rw [if_neg e1]
      by_cases e2 : x = 2
      · obtain ⟨y, b3, t3, hf3, y0, y1, d0, d1⟩ := spec_l1Cur_pick.ok c hc b2 t2 2 c0 (by omega) (by omega) (by omega)
        rw [if_pos e2, hf3, Option.bind_some]
        simp only []
        rw [wrap_id (x := 60 + y) (by omega) (by omega), if_pos (by omega), if_pos (by omega)]
        exact ⟨_, _, _, _, rfl, by rw [List.length_replicate]; omega, d0, by omega⟩
      · rw [if_neg e2]
        exact ⟨_, _, _, _, rfl, by omega, c0, by omega⟩

theorem spec_l1Cur_one.ok (c : List Int) (hc : isCode c) (at_ s n : Int) (h0 : 0 ≤ at_) (h1 : at_ ≤ 100000000) (hn : 1 ≤ n) (hn2 : n ≤ 200) : ∃ b a' s', spec_l1Cur_one.f c at_ s n = some (b, a', s') ∧ 0 ≤ a' ∧ a' ≤ at_ + 1 := by
  obtain ⟨x, a', s', h, _, _, h2, h3⟩ := spec_l1Cur_pick.ok c hc at_ s n h0 h1 hn hn2
  unfold spec_l1Cur_one.f
  rw [h]
  exact ⟨_, _, _, rfl, h2, h3⟩

theorem spec_l1Cur_twoLadders.ok_l (c : List Int) (at_ s : Int) (n m : Int) (l : List Int) (hn : 2 ≤ n) (hn8 : n ≤ 8) : ∀ (d i : Nat) (r : List Int), i + d = r.length → r.length ≤ 1000 → ∃ q, spec_l1Cur_twoLadders.l0.v (r.length : Int) (i : Int) c at_ s n l m r = some (n, l, m, q, at_, s) ∧ q.length = r.length := by
  intro d
  induction d with
  | zero =>
    intro i r h hr
    rw [spec_l1Cur_twoLadders.l0.v_eq, if_neg (by omega)]
    exact ⟨r, rfl, rfl⟩
  | succ d ih =>
    intro i r h hr
    have hi : i < r.length := by omega
    rw [spec_l1Cur_twoLadders.l0.v_eq, if_pos (by omega), if_pos (by omega), if_pos (by omega), wrap_id (x := n - 1) (by omega) (by omega), if_neg (by omega), succ_wrap hi (by omega)]
    obtain ⟨q, h1, h2⟩ := ih (i + 1) (r.set (i : Int).toNat (Int.tmod (rd r (i : Int)) (n - 1))) (by rw [List.length_set]; omega) (by rw [List.length_set]; omega)
    rw [List.length_set] at h1 h2
    exact ⟨q, h1, h2⟩
theorem spec_l1Cur_twoLadders.ok_j (c : List Int) (at_ s n m : Int) (l r : List Int) (b : Bool) (hb : b = true → 2 ≤ n ∧ n ≤ 8) (hr : r.length ≤ 1000) : ∃ m' q, spec_l1Cur_twoLadders.j0.v b c at_ s n l m r = some (n, l, m', q, at_, s) ∧ q.length = r.length := by
  rw [spec_l1Cur_twoLadders.j0.v_eq]
  cases b with
  | true =>
    have := hb rfl
    obtain ⟨q, h1, h2⟩ := spec_l1Cur_twoLadders.ok_l c at_ s n n l this.1 this.2 r.length 0 r (by omega) hr
    rw [if_pos rfl]
    exact ⟨n, q, h1, h2⟩
  | false =>
    rw [if_neg Bool.false_ne_true]
    exact ⟨m, r, rfl, rfl⟩
theorem spec_l1Cur_twoLadders.ok (c : List Int) (hc : isCode c) (at_ s : Int) (a0 : 0 ≤ at_) (a1 : at_ ≤ 30000000) : ∃ n l m r a' s', spec_l1Cur_twoLadders.f.v c at_ s = some (n, l, m, r, a', s') ∧ l.length ≤ 61 ∧ r.length ≤ 61 ∧ 0 ≤ a' ∧ a' ≤ at_ + 400 := by
  obtain ⟨n, l, b, t, hf, l1, b0, b1⟩ := spec_l1Cur_ladder.ok c hc at_ s a0 (by omega)
  rw [spec_l1Cur_twoLadders.f.v_eq, hf, Option.bind_some]
  simp only []
  obtain ⟨m, r, b2, t2, hf2, m0, m1, r1, r2, c0, c1⟩ := spec_l1Cur_sureLadder.ok c hc b t 6 12 (by omega) (by omega) (by omega) (by omega) b0 (by omega)
  rw [hf2, Option.bind_some]
  simp only []
  obtain ⟨o, b3, t3, hf3, d0, d1⟩ := spec_l1Cur_one.ok c hc b2 t2 5 c0 (by omega) (by omega) (by omega)
  rw [hf3, Option.bind_some]
  simp only []
  have hj : ∀ q : Bool, (q = true → 2 ≤ n ∧ n ≤ 8) → ∃ n' l' m' r' a' s', spec_l1Cur_twoLadders.j0.v q c b3 t3 n l m r = some (n', l', m', r', a', s') ∧ l'.length ≤ 61 ∧ r'.length ≤ 61 ∧ 0 ≤ a' ∧ a' ≤ at_ + 400 := fun q hq => by
    obtain ⟨m', r', h1, h2⟩ := spec_l1Cur_twoLadders.ok_j c b3 t3 n m l r q hq (by omega)
    exact ⟨n, l, m', r', b3, t3, h1, by omega, by omega, d0, by omega⟩
  by_cases ho : o = true
  · rw [if_pos ho]; exact hj false (fun h => by cases h)
  · rw [if_neg ho]
    by_cases h2 : n ≥ 2
    · rw [if_pos h2]; exact hj _ (fun h => ⟨h2, of_decide_eq_true h⟩)
    · rw [if_neg h2]; exact hj false (fun h => by cases h)

theorem spec_DrawBelowLadder.ok (c : List Int) (hc : isCode c) : ∃ n l m r, spec_DrawBelowLadder.f.v c = some (n, l, m, r) ∧ l.length ≤ 61 ∧ r.length ≤ 61 := by
  obtain ⟨n, l, m, r, b, t, hf, l1, r1, b0, b1⟩ := spec_l1Cur_twoLadders.ok c hc 0 0 (by omega) (by omega)
  rw [spec_DrawBelowLadder.f.v_eq, hf, Option.bind_some]
  exact ⟨n, l, m, r, rfl, l1, r1⟩

theorem spec_l1Cur_wire.ok_j (c : List Int) (hc : isCode c) (at_ s n : Int) (l : List Int) (b : Bool) (hb : b = false → 2 ≤ n ∧ n ≤ 8) (a0 : 0 ≤ at_) (a1 : at_ ≤ 50000000) : ∃ x a' s', spec_l1Cur_wire.j0.v b c at_ s n l = some (x, a', s') ∧ 0 ≤ a' ∧ a' ≤ at_ + 10 := by
  rw [spec_l1Cur_wire.j0.v_eq]
  cases b with
  | true =>
    obtain ⟨y, b3, t3, hf3, d0, d1⟩ := spec_l1Cur_among.ok c hc at_ s [-1, 0, n, 4611686018427387904] a0 (by omega) (by simp) (by simp)
    rw [if_pos rfl, hf3, Option.bind_some]
    exact ⟨_, _, _, rfl, d0, by dsimp only; omega⟩
  | false =>
    have := hb rfl
    obtain ⟨y, b3, t3, hf3, y0, y1, d0, d1⟩ := spec_l1Cur_pick.ok c hc at_ s n a0 (by omega) (by omega) (by omega)
    rw [if_neg Bool.false_ne_true, hf3, Option.bind_some]
    exact ⟨_, _, _, rfl, d0, by dsimp only; omega⟩
theorem spec_l1Cur_wire.ok (c : List Int) (hc : isCode c) (at_ s n : Int) (l : List Int) (a0 : 0 ≤ at_) (a1 : at_ ≤ 40000000) : ∃ x a' s', spec_l1Cur_wire.f.v c at_ s n l = some (x, a', s') ∧ 0 ≤ a' ∧ a' ≤ at_ + 20 := by
  rw [spec_l1Cur_wire.f.v_eq]
  by_cases h1 : n < 2
  · rw [if_pos h1]
    obtain ⟨x, a', s', h, h2, h3⟩ := spec_l1Cur_wire.ok_j c hc at_ s n l true (fun h => by cases h) a0 (by omega)
    exact ⟨x, a', s', h, h2, by omega⟩
  · rw [if_neg h1]
    by_cases h2 : n > 8
    · rw [if_pos h2]
      obtain ⟨x, a', s', h, h2, h3⟩ := spec_l1Cur_wire.ok_j c hc at_ s n l true (fun h => by cases h) a0 (by omega)
      exact ⟨x, a', s', h, h2, by omega⟩
    · obtain ⟨b, a', s', hf, d0, d1⟩ := spec_l1Cur_one.ok c hc at_ s 14 a0 (by omega) (by omega) (by omega)
      rw [if_neg h2, hf, Option.bind_some]
      obtain ⟨x, a2, s2, h, h2, h3⟩ := spec_l1Cur_wire.ok_j c hc a' s' n l b (fun _ => by omega) d0 (by omega)
      exact ⟨x, a2, s2, h, h2, by omega⟩

theorem spec_DrawMeetingsOf.ok (c : List Int) (hc : isCode c) : ∃ n l x y, spec_DrawMeetingsOf.f.v c = some (n, l, x, y) ∧ l.length ≤ 61 := by
  obtain ⟨n, l, b, t, hf, l1, b0, b1⟩ := spec_l1Cur_ladder.ok c hc 0 0 (by omega) (by omega)
  rw [spec_DrawMeetingsOf.f.v_eq, hf, Option.bind_some]
  simp only []
  obtain ⟨x, b2, t2, hf2, c0, c1⟩ := spec_l1Cur_wire.ok c hc b t n l b0 (by omega)
  rw [hf2, Option.bind_some]
  simp only []
  obtain ⟨y, b3, t3, hf3, d0, d1⟩ := spec_l1Cur_wire.ok c hc b2 t2 n l c0 (by omega)
  rw [hf3, Option.bind_some]
  exact ⟨n, l, x, y, rfl, l1⟩

theorem spec_DrawEndOf.ok (c : List Int) (hc : isCode c) : ∃ n l x, spec_DrawEndOf.f.v c = some (n, l, x) ∧ l.length ≤ 61 := by
  obtain ⟨n, l, b, t, hf, l1, b0, b1⟩ := spec_l1Cur_ladder.ok c hc 0 0 (by omega) (by omega)
  rw [spec_DrawEndOf.f.v_eq, hf, Option.bind_some]
  simp only []
  obtain ⟨x, b2, t2, hf2, c0, c1⟩ := spec_l1Cur_wire.ok c hc b t n l b0 (by omega)
  rw [hf2, Option.bind_some]
  exact ⟨n, l, x, rfl, l1⟩

theorem spec_DrawWayDown.ok (c : List Int) (hc : isCode c) : ∃ n l x, spec_DrawWayDown.f.v c = some (n, l, x) ∧ l.length ≤ 61 := by
  obtain ⟨n, l, x, hf, hl⟩ := spec_DrawEndOf.ok c hc
  rw [spec_DrawWayDown.f.v_eq, hf]
  exact ⟨n, l, x, rfl, hl⟩

theorem spec_laOver.ok (w r : Int) (h0 : -1000 ≤ r) (h1 : r ≤ 1000) : spec_laOver.f w r = some (over w r) := by
  unfold spec_laOver.f over
  rw [wrap_id (x := r + 1) (by omega) (by omega)]
  by_cases a : w = r
  · rw [if_pos a, if_pos a]
  · rw [if_neg a, if_neg a]
    by_cases b : w = r + 1
    · rw [if_pos b, if_pos b]
    · rw [if_neg b, if_neg b]

theorem spec_laDown.ok_l (xs : List Int) (hn : xs.length ≤ 1000) (hb : ∀ x ∈ xs, -1000 ≤ x ∧ x ≤ 1000) : ∀ (d i : Nat) (w : Int) (acc : List Int), i + d = xs.length → acc.length ≤ i + 1 → spec_laDown.l0.v w acc xs xs.length i = some (acc ++ wayT w (xs.drop i)) := by
  intro d
  induction d with
  | zero =>
    intro i w acc hd ha
    rw [spec_laDown.l0.v_eq, if_neg (cast_nlt (by omega)), List.drop_eq_nil_of_le (by omega), wayT, List.append_nil]
  | succ d ih =>
    intro i w acc hd ha
    have h : i < xs.length := by omega
    obtain ⟨h0, h1⟩ := hb _ (rd_mem xs i h)
    rw [spec_laDown.l0.v_eq, if_pos (cast_lt h), if_pos (Int.natCast_nonneg i), if_pos (cast_lt h), spec_laOver.ok w _ h0 h1, Option.bind_some, if_pos (by omega), succ_wrap h (by omega), ih (i + 1) _ _ (by omega) (by simp; omega), drop_rd xs i h, wayT, List.append_assoc]
    rfl
theorem spec_laDown.ok (xs : List Int) (w : Int) (hn : xs.length ≤ 1000) (hb : ∀ x ∈ xs, -1000 ≤ x ∧ x ≤ 1000) : spec_laDown.f.v xs w = some (wayL w xs) := by
  rw [spec_laDown.f.v_eq]
  have := spec_laDown.ok_l xs hn hb xs.length 0 w [w] (by omega) (by simp)
  simpa [wayL] using this
theorem good_wide {n : Int} {l : List Int} (h : good n l = true) : l.length ≤ 1000 ∧ ∀ x ∈ l, -1000 ≤ x ∧ x ≤ 1000 := by
  obtain ⟨_, h2, h3, h4⟩ := good_iff.1 h
  exact ⟨by omega, fun x hx => by have := h4 x hx; omega⟩

theorem spec_laWire.ok (n : Int) (l : List Int) (w : Int) : spec_laWire.f.v n l w = some (hasW n l w) := by
  rw [spec_laWire.f.v_eq, spec_laGood.ok, Option.bind_some]
  unfold hasW spec_l1In.f
  by_cases h : good n l = true
  · obtain ⟨h1, h2, _, _⟩ := good_iff.1 h
    rw [if_pos h, h, Bool.true_and, wrap_id (x := n - 1) (by omega) (by omega)]
    by_cases a : 0 ≤ w
    · rw [if_pos (show w ≥ 0 from a), decide_eq_true a, Bool.true_and]; rfl
    · rw [if_neg (show ¬ w ≥ 0 from a), decide_eq_false a, Bool.false_and]; rfl
  · rw [if_neg h, Bool.eq_false_iff.2 h, Bool.false_and]

theorem spec_EndOf.ok (n : Int) (l : List Int) (w : Int) : spec_EndOf.f.v n l w = some (if hasW n l w = true then (endL w l, true) else (0, false)) := by
  rw [spec_EndOf.f.v_eq, spec_laWire.ok, Option.bind_some]
  by_cases h : hasW n l w = true
  · obtain ⟨hg, _⟩ := hasW_iff.1 h
    obtain ⟨h1, h2⟩ := good_wide hg
    rw [if_pos h, if_pos h, spec_laDown.ok l w h1 h2, Option.bind_some, if_pos (Int.natCast_nonneg _), if_pos (by rw [wayL_length]; omega), wayL_last]
  · rw [if_neg h, if_neg h]

theorem spec_IsLadder.ok (n : Int) (l : List Int) : spec_IsLadder.f.v n l = some (good n l) := by
  rw [spec_IsLadder.f.v_eq, spec_laGood.ok]; rfl

theorem spec_laMeet.ok_l (xs : List Int) (hn : xs.length ≤ 1000) (hb : ∀ x ∈ xs, -1000 ≤ x ∧ x ≤ 1000) : ∀ (d i : Nat) (a b : Int) (c : Nat), i + d = xs.length → c ≤ i → spec_laMeet.l0.v a b c xs xs.length i = some ((c + meetGo a b (xs.drop i) : Nat) : Int) := by
  intro d
  induction d with
  | zero =>
    intro i a b c hd hc
    rw [spec_laMeet.l0.v_eq, if_neg (cast_nlt (by omega)), List.drop_eq_nil_of_le (by omega)]; rfl
  | succ d ih =>
    intro i a b c hd hc
    have h : i < xs.length := by omega
    obtain ⟨h0, h1⟩ := hb _ (rd_mem xs i h)
    rw [spec_laMeet.l0.v_eq, if_pos (cast_lt h), if_pos (Int.natCast_nonneg i), if_pos (cast_lt h), spec_laOver.ok a _ h0 h1, spec_laOver.ok b _ h0 h1, Option.bind_some, Option.bind_some, succ_wrap h (by omega), drop_rd xs i h, meetGo]
    by_cases e1 : over a (rd xs (i : Int)) = b
    · by_cases e2 : over b (rd xs (i : Int)) = a
      · rw [if_pos e1, if_pos e2, if_pos ⟨e1, e2⟩, wrap_id (x := (c : Int) + 1) (by omega) (by omega), show (c : Int) + 1 = ((c + 1 : Nat) : Int) by omega, ih (i + 1) _ _ (c + 1) (by omega) (by omega), Nat.add_assoc]
      · rw [if_pos e1, if_neg e2, if_neg (fun z => e2 z.2), ih (i + 1) _ _ c (by omega) (by omega), Nat.zero_add]
    · rw [if_neg e1, if_neg (fun z => e1 z.1), ih (i + 1) _ _ c (by omega) (by omega), Nat.zero_add]
theorem spec_laMeet.ok (xs : List Int) (a b : Int) (hn : xs.length ≤ 1000) (hb : ∀ x ∈ xs, -1000 ≤ x ∧ x ≤ 1000) : spec_laMeet.f.v xs a b = some ((meetGo a b xs : Nat) : Int) := by
  rw [spec_laMeet.f.v_eq]
  have := spec_laMeet.ok_l xs hn hb xs.length 0 a b 0 (by omega) (by omega)
  simpa using this
theorem good_wideM {n : Int} {l : List Int} (h : good n l = true) : l.length ≤ 1000 ∧ ∀ x ∈ l, -1000 ≤ x ∧ x ≤ 1000 := by
  obtain ⟨_, h2, h3, h4⟩ := good_iff.1 h
  exact ⟨by omega, fun x hx => by have := h4 x hx; omega⟩

theorem spec_MeetingsOf.ok (n : Int) (l : List Int) (a b : Int) : spec_MeetingsOf.f.v n l a b = some (if hasW n l a = true ∧ hasW n l b = true ∧ a ≠ b then (((meetGo a b l : Nat) : Int), true) else (0, false)) := by
  rw [spec_MeetingsOf.f.v_eq, spec_laWire.ok, Option.bind_some]
  by_cases h : hasW n l a = true
  · rw [if_pos h, spec_laWire.ok, Option.bind_some]
    by_cases h2 : hasW n l b = true
    · rw [if_pos h2]
      by_cases h3 : a = b
      · rw [if_pos h3, if_neg (fun z => z.2.2 h3)]
      · obtain ⟨hg, _⟩ := hasW_iff.1 h
        obtain ⟨w1, w2⟩ := good_wideM hg
        rw [if_neg h3, if_pos ⟨h, h2, h3⟩, spec_laMeet.ok l a b w1 w2]; rfl
    · rw [if_neg h2, if_neg (fun z => h2 z.2.1)]
  · rw [if_neg h, if_neg (fun z => h z.1)]

theorem spec_laResult.ok_l (n : Int) (l : List Int) (hg : good n l = true) : ∀ (d i : Nat) (acc : List Int), i + d = n.toNat → acc.length ≤ i → spec_laResult.l0.v n l acc i = some (acc ++ resGo l d i) := by
  obtain ⟨g1, g2, _, _⟩ := good_iff.1 hg
  obtain ⟨h1, h2⟩ := good_wide hg
  intro d
  induction d with
  | zero =>
    intro i acc hd ha
    rw [spec_laResult.l0.v_eq, if_neg (by omega), resGo, List.append_nil]
  | succ d ih =>
    intro i acc hd ha
    rw [spec_laResult.l0.v_eq, if_pos (by omega), spec_laDown.ok l _ h1 h2, Option.bind_some, if_pos (Int.natCast_nonneg _), if_pos (by rw [wayL_length]; omega), if_pos (by omega), wayL_last, succ_wrap (show i < n.toNat by omega) (by omega), ih (i + 1) _ (by omega) (by simp; omega), resGo, List.append_assoc]; rfl
theorem spec_laResult.ok (n : Int) (l : List Int) (hg : good n l = true) : spec_laResult.f.v n l = some (resL n l) := by
  rw [spec_laResult.f.v_eq]
  have := spec_laResult.ok_l n l hg n.toNat 0 [] (by omega) (by simp)
  simpa [resL] using this

theorem spec_ResultOf.ok (n : Int) (l : List Int) : spec_ResultOf.f.v n l = some (if good n l = true then (resL n l, true) else ([], false)) := by
  rw [spec_ResultOf.f.v_eq, spec_laGood.ok, Option.bind_some]
  by_cases h : good n l = true
  · rw [if_pos h, if_pos h, spec_laResult.ok n l h]; rfl
  · rw [if_neg h, if_neg h]

theorem spec_RungsUsed.ok_l (ws : List Int) (m : Nat) (hm : m ≤ 1000) (hw : ws.length = m + 1) : ∀ (d i : Nat) (acc : List Int), i + d = m → acc.length ≤ i → spec_RungsUsed.l0.v ws acc m i = some (acc ++ usedGo ws d i, true) := by
  intro d
  induction d with
  | zero =>
    intro i acc hd ha
    rw [spec_RungsUsed.l0.v_eq, if_neg (cast_nlt (by omega)), usedGo, List.append_nil]
  | succ d ih =>
    intro i acc hd ha
    have h : i < m := by omega
    rw [spec_RungsUsed.l0.v_eq, if_pos (cast_lt h), if_pos (Int.natCast_nonneg i), if_pos (by omega), succ_wrap h (by omega), if_pos (Int.natCast_nonneg _), if_pos (by omega), usedGo]
    by_cases e : rd ws (i : Int) = rd ws ((i + 1 : Nat) : Int)
    · rw [if_pos e, if_pos e, ih (i + 1) _ (by omega) (by omega)]
    · rw [if_neg e, if_neg e, if_pos (by omega), ih (i + 1) _ (by omega) (by simp; omega), List.append_assoc]; rfl
theorem spec_RungsUsed.ok (n : Int) (l : List Int) (w : Int) : spec_RungsUsed.f.v n l w = some (if hasW n l w = true then (usedL w l, true) else ([], false)) := by
  rw [spec_RungsUsed.f.v_eq, spec_laWire.ok, Option.bind_some]
  by_cases h : hasW n l w = true
  · obtain ⟨hg, _⟩ := hasW_iff.1 h
    obtain ⟨h1, h2⟩ := good_wide hg
    rw [if_pos h, if_pos h, spec_laDown.ok l w h1 h2, Option.bind_some]
    have := spec_RungsUsed.ok_l (wayL w l) l.length h1 (wayL_length w l) l.length 0 [] (by omega) (by simp)
    simpa [usedL] using this
  · rw [if_neg h, if_neg h]

theorem spec_WayDown.ok (n : Int) (l : List Int) (w : Int) : spec_WayDown.f.v n l w = some (if hasW n l w = true then (wayL w l, true) else ([], false)) := by
  rw [spec_WayDown.f.v_eq, spec_laWire.ok, Option.bind_some]
  by_cases h : hasW n l w = true
  · obtain ⟨hg, _⟩ := hasW_iff.1 h
    obtain ⟨h1, h2⟩ := good_wide hg
    rw [if_pos h, if_pos h, spec_laDown.ok l w h1 h2]; rfl
  · rw [if_neg h, if_neg h]

theorem gd_sum_ok (a : Int) (l : List Int) (d : Nat) : ∀ b : Nat, msum a l (d + 1) b = msum a l d b + (if ((b + d : Nat) : Int) = a then 0 else meetGo a ((b + d : Nat) : Int) l) := by
  induction d with
  | zero => intro b; rw [msum, msum, msum]; simp
  | succ d ih =>
    intro b
    rw [msum, ih (b + 1), msum, show b + 1 + d = b + (d + 1) by omega, Nat.add_assoc]
theorem gd_m_ok (st : Int) (l : List Int) (hl : l.length ≤ 1000) : ∀ n : Nat, n ≤ 1000 → gd_m (fun b => ((meetGo st (b : Int) l : Nat) : Int)) st n = ((msum st l n 0 : Nat) : Int) := by
  intro n
  induction n with
  | zero => intro _; rfl
  | succ n ih =>
    intro hn
    have hm := meetGo_le l st (n : Int)
    have hs := msum_le st l n 0
    have hs2 : n * l.length ≤ 1000 * 1000 := Nat.mul_le_mul (by omega) hl
    rw [gd_m, ih (by omega), gd_sum_ok]
    rw [Nat.zero_add]
    by_cases e : (n : Int) = st
    · rw [if_pos e, if_pos e]; rfl
    · rw [if_neg e, if_neg e, wrap_id (by omega) (by omega)]; omega
theorem gd_step_ok (n : Int) (l : List Int) (st : Int) (h : hasW n l st = true) (k : Nat) (hk : k < l.length) : GdStep l (wayL st l) (usedL st l) k := by
  obtain ⟨hg, s0, s1⟩ := hasW_iff.1 h
  have g := good_iff.1 hg
  have hr := good_rd hg k hk
  have hw : 0 ≤ rd (wayL st l) (k : Int) ∧ rd (wayL st l) (k : Int) ≤ n - 1 := by
    rw [wayL_rd st l k (by omega)]
    exact endL_bounds _ st ⟨s0, s1⟩ (fun x hx => g.2.2.2 x (List.mem_of_mem_take hx))
  have hn := wayL_next st l k hk
  have hw2 := over_bounds (n := n) hw hr
  have e1 : ((k : Int) + 1) = ((k + 1 : Nat) : Int) := by omega
  refine ⟨⟨hw.1, by omega, by rw [e1, hn]; exact hw2.1, by rw [e1, hn]; omega, hr.1, by omega⟩, ?_, fun h => by rw [e1, hn]; exact over_sum _ _ h, fun h => ?_⟩
  · refine laws_kHas.f.ends _ _ ?_
    rw [laws_kHas.ok _ _ (by have := usedL_length st l; omega)]
    congr 1
    rw [decide_eq_decide, usedL_mem st l k hk, over_ne]
  · rw [e1, hn]
    by_cases e : over (rd (wayL st l) (k : Int)) (rd l (k : Int)) = rd (wayL st l) (k : Int)
    · exact e.symm
    · exact absurd ((over_ne _ _).1 e) h
theorem gd_body (n : Int) (l : List Int) (st : Int) (h : hasW n l st = true) : GdBody n l st (wayL st l) (endL st l) (usedL st l) (resL n l) := by
  obtain ⟨hg, s0, s1⟩ := hasW_iff.1 h
  have g := good_iff.1 hg
  have hlen : ((resL n l).length : Int) = n := by rw [resL_length]; omega
  have hend := endL_bounds (n := n) l st ⟨s0, s1⟩ g.2.2.2
  obtain ⟨nn, rfl⟩ := Int.eq_ofNat_of_zero_le (show 0 ≤ n by omega)
  obtain ⟨sn, rfl⟩ := Int.eq_ofNat_of_zero_le s0
  refine ⟨nn, fun b => ((meetGo (sn : Int) (b : Int) l : Nat) : Int), rfl, by omega, wayL_length _ _, by omega, rfl, wayL_last _ _, by omega, by omega, resL_rd _ _ sn (by omega), by have := usedL_length (sn : Int) l; omega, by rw [resL_length]; omega, fun k hk => gd_step_ok _ _ _ h k hk, fun b hb hne => ⟨?_, ?_⟩, ?_, ?_⟩
  · refine impl_MeetingsOf.f.ends _ _ _ _ ?_
    rw [impl_MeetingsOf.ok, if_pos ⟨h, hasW_iff.2 ⟨hg, by omega, by omega⟩, fun e => hne e.symm⟩]
  · refine impl_MeetingsOf.f.ends _ _ _ _ ?_
    rw [impl_MeetingsOf.ok, if_pos ⟨hasW_iff.2 ⟨hg, by omega, by omega⟩, h, hne⟩, meet_comm]
  · rw [gd_m_ok _ _ (by omega) _ (by omega), msum_used nn (sn : Int) l (fun x hx => by have := g.2.2.2 x hx; omega) (by omega) (by omega)]
  · refine impl_IsOrder.f.ends _ ?_
    rw [impl_IsOrder.ok, isOrd_resL hg]
theorem gd_head_ok (l0 : List Int) (c0 : isCode l0) : GdHead l0 GdBody := by
  obtain ⟨n, l, st, hf, hl⟩ := spec_DrawWayDown.ok l0 c0
  obtain ⟨kd, hkd⟩ := spec_DrawWayDown.f.ends l0 hf
  by_cases hg : good n l = true
  · have g := good_iff.1 hg
    by_cases h : hasW n l st = true
    · exact ⟨n, l, st, wayL st l, true, endL st l, usedL st l, resL n l, true, ⟨kd, hkd⟩, impl_WayDown.f.ends _ _ _ (by rw [impl_WayDown.ok, if_pos h]), spec_WayDown.f.ends _ _ _ (by rw [spec_WayDown.ok, if_pos h]), impl_EndOf.f.ends _ _ _ (by rw [impl_EndOf.ok, if_pos h]), spec_EndOf.f.ends _ _ _ (by rw [spec_EndOf.ok, if_pos h]), impl_RungsUsed.f.ends _ _ _ (by rw [impl_RungsUsed.ok, if_pos h]), spec_RungsUsed.f.ends _ _ _ (by rw [spec_RungsUsed.ok, if_pos h]), impl_ResultOf.f.ends _ _ (by rw [impl_ResultOf.ok, if_pos hg]), spec_ResultOf.f.ends _ _ (by rw [spec_ResultOf.ok, if_pos hg]), laws_kSame.f.ends _ _ (laws_kSame.self _ (by rw [wayL_length]; omega)), laws_kSame.f.ends _ _ (laws_kSame.self _ (by have := usedL_length st l; omega)), laws_kSame.f.ends _ _ (laws_kSame.self _ (by rw [resL_length]; omega)), by rw [impl_IsLadder.ok, hg], spec_IsLadder.f.ends _ _ (by rw [spec_IsLadder.ok, hg]), fun _ => rfl, fun _ => gd_body n l st h⟩
    · exact ⟨n, l, st, [], false, 0, [], resL n l, true, ⟨kd, hkd⟩, impl_WayDown.f.ends _ _ _ (by rw [impl_WayDown.ok, if_neg h]), spec_WayDown.f.ends _ _ _ (by rw [spec_WayDown.ok, if_neg h]), impl_EndOf.f.ends _ _ _ (by rw [impl_EndOf.ok, if_neg h]), spec_EndOf.f.ends _ _ _ (by rw [spec_EndOf.ok, if_neg h]), impl_RungsUsed.f.ends _ _ _ (by rw [impl_RungsUsed.ok, if_neg h]), spec_RungsUsed.f.ends _ _ _ (by rw [spec_RungsUsed.ok, if_neg h]), impl_ResultOf.f.ends _ _ (by rw [impl_ResultOf.ok, if_pos hg]), spec_ResultOf.f.ends _ _ (by rw [spec_ResultOf.ok, if_pos hg]), laws_kSame.f.ends _ _ (laws_kSame.self [] (by simp)), laws_kSame.f.ends _ _ (laws_kSame.self [] (by simp)), laws_kSame.f.ends _ _ (laws_kSame.self _ (by rw [resL_length]; omega)), by rw [impl_IsLadder.ok, hg], spec_IsLadder.f.ends _ _ (by rw [spec_IsLadder.ok, hg]), fun _ => rfl, fun h => (by cases h)⟩
  · have h : ¬ hasW n l st = true := fun h => hg (hasW_iff.1 h).1
    have hf' : good n l = false := by simpa using hg
    exact ⟨n, l, st, [], false, 0, [], [], false, ⟨kd, hkd⟩, impl_WayDown.f.ends _ _ _ (by rw [impl_WayDown.ok, if_neg h]), spec_WayDown.f.ends _ _ _ (by rw [spec_WayDown.ok, if_neg h]), impl_EndOf.f.ends _ _ _ (by rw [impl_EndOf.ok, if_neg h]), spec_EndOf.f.ends _ _ _ (by rw [spec_EndOf.ok, if_neg h]), impl_RungsUsed.f.ends _ _ _ (by rw [impl_RungsUsed.ok, if_neg h]), spec_RungsUsed.f.ends _ _ _ (by rw [spec_RungsUsed.ok, if_neg h]), impl_ResultOf.f.ends _ _ (by rw [impl_ResultOf.ok, if_neg hg]), spec_ResultOf.f.ends _ _ (by rw [spec_ResultOf.ok, if_neg hg]), laws_kSame.f.ends _ _ (laws_kSame.self [] (by simp)), laws_kSame.f.ends _ _ (laws_kSame.self [] (by simp)), laws_kSame.f.ends _ _ (laws_kSame.self [] (by simp)), by rw [impl_IsLadder.ok, hf'], spec_IsLadder.f.ends _ _ (by rw [spec_IsLadder.ok, hf']), fun h => (by cases h), fun h => (by cases h)⟩
theorem gd_tail_ok (l1 : List Int) (c1 : isCode l1) : GdTail l1 := by
  obtain ⟨n, l, m, r, hf, hl, hr⟩ := spec_DrawBelowLadder.ok l1 c1
  obtain ⟨kd, hkd⟩ := spec_DrawBelowLadder.f.ends l1 hf
  obtain ⟨xn, xl, y, z, hf2, hl2⟩ := spec_DrawMeetingsOf.ok l1 c1
  obtain ⟨kd2, hkd2⟩ := spec_DrawMeetingsOf.f.ends l1 hf2
  obtain ⟨q, ni, hq⟩ : ∃ q ni, (if hasW xn xl y = true ∧ hasW xn xl z = true ∧ y ≠ z then (((meetGo y z xl : Nat) : Int), true) else (0, false)) = (q, ni) := ⟨_, _, rfl⟩
  have hm1 := impl_MeetingsOf.f.ends xn xl y z (r := (q, ni)) (by rw [impl_MeetingsOf.ok, hq])
  have hm2 := spec_MeetingsOf.f.ends xn xl y z (r := (q, ni)) (by rw [spec_MeetingsOf.ok, hq])
  by_cases h : (good n l = true ∧ good m r = true ∧ n = m) ∧ good n (l ++ r) = true
  · obtain ⟨⟨h1, h2, rfl⟩, h4⟩ := h
    have g1 := good_iff.1 h1
    have ha := resL_append n l r h1
    refine ⟨n, l, n, r, n, l ++ r, true, xn, xl, y, z, q, ni, ⟨kd, hkd⟩, impl_BelowLadder.f.ends _ _ _ _ (by rw [impl_BelowLadder.ok, if_pos ⟨⟨h1, h2, rfl⟩, h4⟩]), spec_BelowLadder.f.ends _ _ _ _ (by rw [spec_BelowLadder.ok, if_pos ⟨⟨h1, h2, rfl⟩, h4⟩]), laws_kLadder.f.ends _ _ _ _ (laws_kLadder.self n (l ++ r) (by rw [List.length_append]; omega)), fun _ => ⟨resL n (l ++ r), resL n l, resL n r, impl_ResultOf.f.ends _ _ (by rw [impl_ResultOf.ok, if_pos h4]), laws_kResult.f.ends _ _ (by rw [laws_kResult.ok, if_pos h1]), laws_kResult.f.ends _ _ (by rw [laws_kResult.ok, if_pos h2]), impl_ThenOrder.f.ends _ _ (by rw [impl_ThenOrder.ok, if_pos ⟨isOrd_resL h1, isOrd_resL h2, by rw [resL_length, resL_length]⟩, ha]), laws_kSame.f.ends _ _ (laws_kSame.self _ (by rw [resL_length]; omega)), List.length_append, by omega, by omega⟩, ⟨kd2, hkd2⟩, hm1, hm2⟩
  · exact ⟨n, l, m, r, 0, [], false, xn, xl, y, z, q, ni, ⟨kd, hkd⟩, impl_BelowLadder.f.ends _ _ _ _ (by rw [impl_BelowLadder.ok, if_neg h]), spec_BelowLadder.f.ends _ _ _ _ (by rw [spec_BelowLadder.ok, if_neg h]), laws_kLadder.f.ends _ _ _ _ (laws_kLadder.self 0 [] (by simp)), fun h => (by cases h), ⟨kd2, hkd2⟩, hm1, hm2⟩
theorem FnLaddersGoneDown : laws_FnLaddersGoneDown.Pure := by
  intro l0 l1 _ _ h0 _ _ h1
  unfold laws_FnLaddersGoneDown.Ok laws_big.f
  by_cases e0 : (l0.length : Int) > 1048576
  · rw [if_pos e0]; exact Or.inl rfl
  · rw [if_neg e0, wrap_id (x := 1048576 - (l0.length : Int)) (by omega) (by omega)]
    by_cases e1 : (l1.length : Int) > 1048576 - (l0.length : Int)
    · rw [decide_eq_true e1]; exact Or.inl rfl
    · rw [decide_eq_false e1]
      exact Or.inr ⟨rfl, gd_head_ok l0 ⟨fun x hx => u8_bounds (h0 x hx), by omega⟩, gd_tail_ok l1 ⟨fun x hx => u8_bounds (h1 x hx), by omega⟩⟩

end Go.Proofs.Ytaheijeojbimeaa.Pure
