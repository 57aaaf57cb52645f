/- Proved: for every input the law FnExactMeetingsOf returns true (its plain statement, over numbers and lists). No condition. -/
import Derived.Test.YtldolihoffcomaaPAllx9
import Derived.Test.YtldolihoffcomaaVAllx1
import Derived.Test.YtldolihoffcomaaVAllx2
import Derived.Test.YtldolihoffcomaaVAllx3
import Derived.Test.YtldolihoffcomaaVAllx5
import Derived.Test.YtldolihoffcomaaVAllx6
import Derived.Test.YtldolihoffcomaaVAllx7
import Derived.Test.YtldolihoffcomaaVAllx8
import Derived.Test.YtldolihoffcomaaVAllx9
import Derived.Test.YtldolihoffcomaaLadders
import Derived.Test.YtldolihoffcomaaPlain
namespace Go.Proofs.Ytldolihoffcomaa.Pure
open Go.RowKit Go.Proofs.Ytldolihoffcomaa.PAll Go.Proofs.YtldolihoffcomaaW.PrintWords Go.Proofs.YtldolihoffcomaaW.PrintLast Go.Proofs.YtldolihoffcomaaW.PrintMore Go.Proofs.YtldolihoffcomaaL
set_option linter.unusedVariables false
set_option linter.unusedSimpArgs false

theorem impl_isLadder.ok (n : Int) (l : List Int) : impl_isLadder.f n l = some (good n l) := by
  unfold impl_isLadder.f good
  have h : (!(l.any (impl_isLadder.bad n))) = l.all (inB n) := by
    rw [List.not_any_eq_all_not]
    congr 1; funext x
    unfold impl_isLadder.bad inB
    exact Bool.not_not _
  rw [h]

theorem impl_hasWire.ok (n : Int) (l : List Int) (w : Int) : impl_hasWire.f n l w = some (hasW n l w) := by
  unfold impl_hasWire.f
  rw [impl_isLadder.ok, Option.bind_some]
  unfold hasW impl_between.f
  by_cases h : good n l = true
  · obtain ⟨h1, h2, _, _⟩ := good_iff.1 h
    rw [if_pos h, h, Bool.true_and, wrap_id (x := n - 1) (by omega) (by omega)]
    by_cases a : 0 ≤ w
    · rw [if_pos (show w ≥ 0 from a), decide_eq_true a, Bool.true_and]; rfl
    · rw [if_neg (show ¬ w ≥ 0 from a), decide_eq_false a, Bool.false_and]; rfl
  · rw [if_neg h, Bool.eq_false_iff.2 h, Bool.false_and]

theorem impl_over.ok (w r : Int) (h0 : -1000 ≤ r) (h1 : r ≤ 1000) : impl_over.f w r = some (over w r) := by
  unfold impl_over.f over
  rw [wrap_id (x := r + 1) (by omega) (by omega)]
  by_cases a : w = r
  · rw [if_pos a, if_pos a]
  · rw [if_neg a, if_neg a]
    by_cases b : w = r + 1
    · rw [if_pos b, if_pos b]
    · rw [if_neg b, if_neg b]

theorem impl_way.ok_l (xs : List Int) (hn : xs.length ≤ 1000) (hb : ∀ x ∈ xs, -1000 ≤ x ∧ x ≤ 1000) : ∀ (d i : Nat) (w : Int) (acc : List Int), i + d = xs.length → acc.length ≤ i + 1 → impl_way.l0.v w acc xs xs.length i = some (acc ++ wayT w (xs.drop i)) := by
  intro d
  induction d with
  | zero =>
    intro i w acc hd ha
    rw [impl_way.l0.v_eq, if_neg (cast_nlt (by omega)), List.drop_eq_nil_of_le (by omega), wayT, List.append_nil]
  | succ d ih =>
    intro i w acc hd ha
    have h : i < xs.length := by omega
    obtain ⟨h0, h1⟩ := hb _ (rd_mem xs i h)
    rw [impl_way.l0.v_eq, if_pos (cast_lt h), if_pos (Int.natCast_nonneg i), if_pos (cast_lt h), impl_over.ok w _ h0 h1, Option.bind_some, if_pos (by omega), succ_wrap h (by omega), ih (i + 1) _ _ (by omega) (by simp; omega), drop_rd xs i h, wayT, List.append_assoc]
    rfl
theorem impl_way.ok (n : Int) (xs : List Int) (w : Int) (hn : xs.length ≤ 1000) (hb : ∀ x ∈ xs, -1000 ≤ x ∧ x ≤ 1000) : impl_way.f.v n xs w = some (wayL w xs) := by
  rw [impl_way.f.v_eq]
  have := impl_way.ok_l xs hn hb xs.length 0 w [w] (by omega) (by simp)
  simpa [wayL] using this
theorem good_wide' {n : Int} {l : List Int} (h : good n l = true) : l.length ≤ 1000 ∧ ∀ x ∈ l, -1000 ≤ x ∧ x ≤ 1000 := by
  obtain ⟨_, h2, h3, h4⟩ := good_iff.1 h
  exact ⟨by omega, fun x hx => by have := h4 x hx; omega⟩

theorem impl_MeetingsOf.ok_l (l : List Int) (a b : Int) (hn : l.length ≤ 1000) : ∀ (d i c : Nat), i + d = l.length → c ≤ i → impl_MeetingsOf.l0.v (wayL a l) (wayL b l) c l.length i = some (((c + meetGo (rd (wayL a l) (i : Int)) (rd (wayL b l) (i : Int)) (l.drop i) : Nat) : Int), true) := by
  intro d
  induction d with
  | zero =>
    intro i c hd hc
    rw [impl_MeetingsOf.l0.v_eq, if_neg (cast_nlt (by omega)), List.drop_eq_nil_of_le (by omega)]; rfl
  | succ d ih =>
    intro i c hd hc
    have h : i < l.length := by omega
    have la := wayL_length a l
    have lb := wayL_length b l
    have q1 : (i : Int) < ((wayL a l).length : Int) := by omega
    have q2 : (i : Int) < ((wayL b l).length : Int) := by omega
    have q3 : ((i + 1 : Nat) : Int) < ((wayL a l).length : Int) := by omega
    have q4 : ((i + 1 : Nat) : Int) < ((wayL b l).length : Int) := by omega
    rw [impl_MeetingsOf.l0.v_eq, if_pos (cast_lt h), if_pos (Int.natCast_nonneg i), if_pos q1, succ_wrap h (by omega), if_pos (Int.natCast_nonneg _), if_pos q4, drop_rd l i h, meetGo, ← wayL_next a l i h, ← wayL_next b l i h]
    by_cases e1 : rd (wayL a l) (i : Int) = rd (wayL b l) ((i + 1 : Nat) : Int)
    · rw [if_pos e1, if_pos q2, if_pos q3]
      by_cases e2 : rd (wayL b l) (i : Int) = rd (wayL a l) ((i + 1 : Nat) : Int)
      · rw [if_pos e2, if_pos ⟨e2.symm, e1.symm⟩, wrap_id (x := (c : Int) + 1) (by omega) (by omega), show (c : Int) + 1 = ((c + 1 : Nat) : Int) by omega, ih (i + 1) (c + 1) (by omega) (by omega), Nat.add_assoc]
      · rw [if_neg e2, if_neg (fun z => e2 z.1.symm), ih (i + 1) c (by omega) (by omega), Nat.zero_add]
    · rw [if_neg e1, if_neg (fun z => e1 z.2.symm), ih (i + 1) c (by omega) (by omega), Nat.zero_add]
theorem impl_MeetingsOf.ok (n : Int) (l : List Int) (a b : Int) : impl_MeetingsOf.f.v n l a b = some (if hasW n l a = true ∧ hasW n l b = true ∧ a ≠ b then (((meetGo a b l : Nat) : Int), true) else (0, false)) := by
  rw [impl_MeetingsOf.f.v_eq, impl_hasWire.ok, Option.bind_some]
  simp only [impl_MeetingsOf.j0.v_eq]
  by_cases h : hasW n l a = true
  · rw [if_pos h, impl_hasWire.ok, Option.bind_some]
    by_cases h2 : hasW n l b = true
    · rw [if_pos h2]
      by_cases h3 : a = b
      · rw [if_pos (beq_iff_eq.2 h3), if_neg (fun z => z.2.2 h3)]
      · obtain ⟨hg, _⟩ := hasW_iff.1 h
        obtain ⟨w1, w2⟩ := good_wide' hg
        rw [if_neg (fun z => h3 (beq_iff_eq.1 z)), if_pos ⟨h, h2, h3⟩, impl_way.ok n l a w1 w2, impl_way.ok n l b w1 w2, Option.bind_some, Option.bind_some]
        have := impl_MeetingsOf.ok_l l a b w1 l.length 0 0 (by omega) (by omega)
        simpa [wayL, rd] using this
    · rw [if_neg h2, if_pos trivial, if_neg (fun z => h2 z.2.1)]
  · rw [if_neg h, if_pos trivial, if_neg (fun z => h z.1)]

theorem laws_eqIntS.ok_l (xs : List Int) (hn : xs.length ≤ 140737488355328) : ∀ (d i : Nat), xs.length - i = d → laws_eqIntS.l0.v xs xs i = some true := by
  intro d
  induction d with
  | zero =>
    intro i hd
    rw [laws_eqIntS.l0.v_eq, if_neg (cast_nlt (by omega))]
  | succ d ih =>
    intro i hd
    have h : i < xs.length := by omega
    rw [laws_eqIntS.l0.v_eq, if_pos (cast_lt h), if_pos (Int.natCast_nonneg i), if_pos (cast_lt h), if_pos rfl, succ_wrap h hn]
    exact ih (i + 1) (by omega)
theorem laws_eqIntS.ok (xs : List Int) (hn : xs.length ≤ 140737488355328) : laws_eqIntS.f.v xs xs = some true := by
  rw [laws_eqIntS.f.v_eq, if_pos rfl]
  exact laws_eqIntS.ok_l xs hn xs.length 0 (by omega)

theorem laws_eqLadder.ok (n : Int) (l : List Int) (h : l.length ≤ 140737488355328) : laws_eqLadder.f.v n l n l = some true := by
  rw [laws_eqLadder.f.v_eq, if_pos rfl, laws_eqIntS.ok l h]; rfl

theorem laws_szLadder.ok (n : Int) (l : List Int) (h : l.length ≤ 1048576) : laws_szLadder.f n l 1048576 = some (1048576 - (l.length : Int)) := by
  unfold laws_szLadder.f laws_szIntS.f
  rw [wrap_id (by omega) (by omega), if_neg (by omega), Option.bind_some, if_neg (by omega)]
theorem laws_szLadder.no (n : Int) (l : List Int) (h : ¬ l.length ≤ 1048576) (h2 : l.length * 8 ≤ 140737488351232) : laws_szLadder.f n l 1048576 = some (-1) := by
  unfold laws_szLadder.f laws_szIntS.f
  rw [wrap_id (by omega) (by omega), if_pos (by omega), Option.bind_some, if_pos (by omega)]

theorem laws_toIntS.ok_l (xs : List Int) (hn : xs.length ≤ 140737488355328) : ∀ (d i : Nat) (ys : List Int), xs.length - i = d → ys.length = xs.length → ys.take i = xs.take i → laws_toIntS.l0.v xs ys i = some xs := by
  intro d
  induction d with
  | zero =>
    intro i ys hd hl ht
    rw [laws_toIntS.l0.v_eq, if_neg (cast_nlt (by omega))]
    rw [List.take_of_length_le (by omega), List.take_of_length_le (by omega)] at ht
    rw [ht]
  | succ d ih =>
    intro i ys hd hl ht
    have h : i < xs.length := by omega
    rw [laws_toIntS.l0.v_eq, if_pos (cast_lt h), if_pos (Int.natCast_nonneg i), if_pos (cast_lt (by omega)), succ_wrap h hn, toNat_cast]
    refine ih (i + 1) _ (by omega) (by rw [List.length_set]; exact hl) ?_
    rw [take_rd xs i h, ← ht, rd_lt xs i h, List.take_succ_eq_append_getElem (by rw [List.length_set]; omega), List.getElem_set_self, List.take_set_of_le (Nat.le_refl i)]
theorem laws_toIntS.ok (xs : List Int) (hn : xs.length ≤ 1048576) : laws_toIntS.f.v xs = some xs := by
  rw [laws_toIntS.f.v_eq, if_pos (Int.natCast_nonneg _), toNat_cast, if_pos (by omega)]
  exact laws_toIntS.ok_l xs (by omega) xs.length 0 _ (by omega) (by simp) (by simp)

theorem laws_toLadder.ok (n : Int) (l : List Int) (h : l.length ≤ 1048576) : laws_toLadder.f.v n l = some (n, l) := by
  rw [laws_toLadder.f.v_eq, laws_toIntS.ok l h]; rfl

theorem spec_laOver.ok (w r : Int) (h0 : -1000 ≤ r) (h1 : r ≤ 1000) : spec_laOver.f w r = some (over w r) := by
  unfold spec_laOver.f over
  rw [wrap_id (x := r + 1) (by omega) (by omega)]
  by_cases a : w = r
  · rw [if_pos a, if_pos a]
  · rw [if_neg a, if_neg a]
    by_cases b : w = r + 1
    · rw [if_pos b, if_pos b]
    · rw [if_neg b, if_neg b]

theorem spec_laMeet.ok_l (xs : List Int) (hn : xs.length ≤ 1000) (hb : ∀ x ∈ xs, -1000 ≤ x ∧ x ≤ 1000) : ∀ (d i : Nat) (a b : Int) (c : Nat), i + d = xs.length → c ≤ i → spec_laMeet.l0.v a b c xs xs.length i = some ((c + meetGo a b (xs.drop i) : Nat) : Int) := by
  intro d
  induction d with
  | zero =>
    intro i a b c hd hc
    rw [spec_laMeet.l0.v_eq, if_neg (cast_nlt (by omega)), List.drop_eq_nil_of_le (by omega)]; rfl
  | succ d ih =>
    intro i a b c hd hc
    have h : i < xs.length := by omega
    obtain ⟨h0, h1⟩ := hb _ (rd_mem xs i h)
    rw [spec_laMeet.l0.v_eq, if_pos (cast_lt h), if_pos (Int.natCast_nonneg i), if_pos (cast_lt h), spec_laOver.ok a _ h0 h1, spec_laOver.ok b _ h0 h1, Option.bind_some, Option.bind_some, succ_wrap h (by omega), drop_rd xs i h, meetGo]
    by_cases e1 : over a (rd xs (i : Int)) = b
    · by_cases e2 : over b (rd xs (i : Int)) = a
      · rw [if_pos e1, if_pos e2, if_pos ⟨e1, e2⟩, wrap_id (x := (c : Int) + 1) (by omega) (by omega), show (c : Int) + 1 = ((c + 1 : Nat) : Int) by omega, ih (i + 1) _ _ (c + 1) (by omega) (by omega), Nat.add_assoc]
      · rw [if_pos e1, if_neg e2, if_neg (fun z => e2 z.2), ih (i + 1) _ _ c (by omega) (by omega), Nat.zero_add]
    · rw [if_neg e1, if_neg (fun z => e1 z.1), ih (i + 1) _ _ c (by omega) (by omega), Nat.zero_add]
theorem spec_laMeet.ok (xs : List Int) (a b : Int) (hn : xs.length ≤ 1000) (hb : ∀ x ∈ xs, -1000 ≤ x ∧ x ≤ 1000) : spec_laMeet.f.v xs a b = some ((meetGo a b xs : Nat) : Int) := by
  rw [spec_laMeet.f.v_eq]
  have := spec_laMeet.ok_l xs hn hb xs.length 0 a b 0 (by omega) (by omega)
  simpa using this
theorem good_wideM {n : Int} {l : List Int} (h : good n l = true) : l.length ≤ 1000 ∧ ∀ x ∈ l, -1000 ≤ x ∧ x ≤ 1000 := by
  obtain ⟨_, h2, h3, h4⟩ := good_iff.1 h
  exact ⟨by omega, fun x hx => by have := h4 x hx; omega⟩

theorem spec_l1All.ok_l (a b : Int) (xs : List Int) (hn : xs.length ≤ 140737488355328) : ∀ (d i : Nat), i + d = xs.length → spec_l1All.l0.v a b xs xs.length i = some ((xs.drop i).all fun x => decide (a ≤ x) && decide (x ≤ b)) := by
  intro d
  induction d with
  | zero =>
    intro i hd
    rw [spec_l1All.l0.v_eq, if_neg (cast_nlt (by omega)), List.drop_eq_nil_of_le (by omega)]
    rfl
  | succ d ih =>
    intro i hd
    have h : i < xs.length := by omega
    rw [spec_l1All.l0.v_eq, if_pos (cast_lt h), if_pos (Int.natCast_nonneg i), if_pos (cast_lt h), succ_wrap h hn, ih (i + 1) (by omega), drop_rd xs i h, List.all_cons]
    unfold spec_l1In.f
    by_cases e : a ≤ rd xs (i : Int)
    · rw [if_pos (show rd xs (i : Int) ≥ a from e), Option.bind_some, decide_eq_true e, Bool.true_and]
      by_cases e2 : rd xs (i : Int) ≤ b
      · rw [decide_eq_true e2, if_pos rfl, Bool.true_and]
      · rw [decide_eq_false e2, if_neg (by simp), Bool.false_and]
    · rw [if_neg (show ¬ rd xs (i : Int) ≥ a from e), Option.bind_some, decide_eq_false e, if_neg (by simp), Bool.false_and, Bool.false_and]
theorem spec_l1All.ok (xs : List Int) (a b : Int) (hn : xs.length ≤ 140737488355328) : spec_l1All.f.v xs a b = some (xs.all fun x => decide (a ≤ x) && decide (x ≤ b)) := by
  rw [spec_l1All.f.v_eq]
  have := spec_l1All.ok_l a b xs hn xs.length 0 (by omega)
  simpa using this

theorem spec_laGood.ok (n : Int) (l : List Int) : spec_laGood.f.v n l = some (good n l) := by
  rw [spec_laGood.f.v_eq]
  unfold spec_l1In.f good
  by_cases h1 : 2 ≤ n
  · rw [if_pos (show n ≥ 2 from h1), Option.bind_some, decide_eq_true h1, Bool.true_and]
    by_cases h2 : n ≤ 8
    · rw [decide_eq_true h2, if_pos rfl, Bool.true_and]
      by_cases h3 : l.length ≤ 60
      · rw [if_pos (by omega), decide_eq_true h3, Bool.true_and, spec_l1All.ok l 0 _ (by omega), wrap_id (x := n - 2) (by omega) (by omega)]; rfl
      · rw [if_neg (by omega), decide_eq_false h3, Bool.false_and]
    · rw [decide_eq_false h2, if_neg (by simp), Bool.false_and, Bool.false_and]
  · rw [if_neg (show ¬ n ≥ 2 from h1), Option.bind_some, decide_eq_false h1, if_neg (by simp), Bool.false_and, Bool.false_and, Bool.false_and]

theorem spec_laWire.ok (n : Int) (l : List Int) (w : Int) : spec_laWire.f.v n l w = some (hasW n l w) := by
  rw [spec_laWire.f.v_eq, spec_laGood.ok, Option.bind_some]
  unfold hasW spec_l1In.f
  by_cases h : good n l = true
  · obtain ⟨h1, h2, _, _⟩ := good_iff.1 h
    rw [if_pos h, h, Bool.true_and, wrap_id (x := n - 1) (by omega) (by omega)]
    by_cases a : 0 ≤ w
    · rw [if_pos (show w ≥ 0 from a), decide_eq_true a, Bool.true_and]; rfl
    · rw [if_neg (show ¬ w ≥ 0 from a), decide_eq_false a, Bool.false_and]; rfl
  · rw [if_neg h, Bool.eq_false_iff.2 h, Bool.false_and]

theorem spec_MeetingsOf.ok (n : Int) (l : List Int) (a b : Int) : spec_MeetingsOf.f.v n l a b = some (if hasW n l a = true ∧ hasW n l b = true ∧ a ≠ b then (((meetGo a b l : Nat) : Int), true) else (0, false)) := by
  rw [spec_MeetingsOf.f.v_eq, spec_laWire.ok, Option.bind_some]
  by_cases h : hasW n l a = true
  · rw [if_pos h, spec_laWire.ok, Option.bind_some]
    by_cases h2 : hasW n l b = true
    · rw [if_pos h2]
      by_cases h3 : a = b
      · rw [if_pos h3, if_neg (fun z => z.2.2 h3)]
      · obtain ⟨hg, _⟩ := hasW_iff.1 h
        obtain ⟨w1, w2⟩ := good_wideM hg
        rw [if_neg h3, if_pos ⟨h, h2, h3⟩, spec_laMeet.ok l a b w1 w2]; rfl
    · rw [if_neg h2, if_neg (fun z => h2 z.2.1)]
  · rw [if_neg h, if_neg (fun z => h z.1)]

theorem FnExactMeetingsOf : laws_FnExactMeetingsOf.Pure := by
  intro n l a b _ _ hb _ _ _
  refine laws_FnExactMeetingsOf.f.ends n l a b ?_
  rw [laws_FnExactMeetingsOf.f.v_eq]
  by_cases h : l.length ≤ 1048576
  · obtain ⟨r, t, hs, hi⟩ : ∃ r t, spec_MeetingsOf.f.v n l a b = some (r, t) ∧ impl_MeetingsOf.f.v n l a b = some (r, t) := by
      rw [spec_MeetingsOf.ok, impl_MeetingsOf.ok]
      split
      · exact ⟨_, _, rfl, rfl⟩
      · exact ⟨_, _, rfl, rfl⟩
    have e0 := laws_toLadder.ok n l h
    have e1 := laws_eqLadder.ok n l (by omega)
    have n0 : ¬ ((1048576 : Int) - (l.length : Int) < 0) := by omega
    simp only [laws_szLadder.ok n l h, e0, e1, hs, hi, if_neg n0, laws_FnExactMeetingsOf.j0.v_eq, Option.bind_some, bne_self_eq_false, Bool.false_eq_true, if_false, if_true]
  · rw [laws_szLadder.no n l h hb, Option.bind_some, if_pos (by omega)]

end Go.Proofs.Ytldolihoffcomaa.Pure
