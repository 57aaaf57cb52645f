/- Proved: for every input the law FnExactBelowLadder returns true (its plain statement, over numbers and lists). No condition. -/
import Derived.Test.YtciboaihodoglaaPBlx6
import Derived.Test.YtciboaihodoglaaVBlx1
import Derived.Test.YtciboaihodoglaaVBlx2
import Derived.Test.YtciboaihodoglaaVBlx3
import Derived.Test.YtciboaihodoglaaVBlx4
import Derived.Test.YtciboaihodoglaaVBlx5
import Derived.Test.YtciboaihodoglaaVBlx6
import Derived.Test.YtciboaihodoglaaLadders
import Derived.Test.YtciboaihodoglaaPlain
namespace Go.Proofs.Ytciboaihodoglaa.Pure
open Go.RowKit Go.Proofs.Ytciboaihodoglaa.PBl Go.Proofs.YtciboaihodoglaaW.PrintWords Go.Proofs.YtciboaihodoglaaW.PrintLast Go.Proofs.YtciboaihodoglaaW.PrintMore Go.Proofs.YtciboaihodoglaaL
set_option linter.unusedVariables false
set_option linter.unusedSimpArgs false

theorem impl_isLadder.ok (n : Int) (l : List Int) : impl_isLadder.f n l = some (good n l) := by
  unfold impl_isLadder.f good
  have h : (!(l.any (impl_isLadder.bad n))) = l.all (inB n) := by
    rw [List.not_any_eq_all_not]
    congr 1; funext x
    unfold impl_isLadder.bad inB
    exact Bool.not_not _
  rw [h]

theorem impl_checked.ok (n : Int) (l : List Int) : impl_checked.f n l = some (if good n l = true then (n, l, true) else (0, [], false)) := by
  unfold impl_checked.f
  rw [impl_isLadder.ok, Option.bind_some]
  by_cases h : good n l = true
  · rw [if_pos h, if_pos h]
  · rw [if_neg h, if_neg h]

theorem slices_Concat_int_int.ok (a b : List Int) (ha : a.length ≤ 1000) (hb : b.length ≤ 1000) : slices_Concat_int_int.f [a, b] = some (a ++ b) := by
  unfold slices_Concat_int_int.f
  have e : ([a, b] : List (List Int)).flatten = a ++ b := by simp
  rw [e, if_pos ⟨by rw [List.length_append]; omega, show 2 ≤ 1000 by omega⟩]

theorem impl_BelowLadder.ok (n : Int) (l : List Int) (m : Int) (r : List Int) : impl_BelowLadder.f.v n l m r = some (if (good n l = true ∧ good m r = true ∧ n = m) ∧ good n (l ++ r) = true then (n, l ++ r, true) else (0, [], false)) := by
  rw [impl_BelowLadder.f.v_eq, impl_isLadder.ok, Option.bind_some]
  by_cases h : good n l = true
  · have g := good_iff.1 h
    rw [if_pos h, impl_isLadder.ok, Option.bind_some]
    by_cases h2 : good m r = true
    · have g2 := good_iff.1 h2
      rw [if_pos h2, impl_BelowLadder.j0.v_eq]
      by_cases e : n = m
      · rw [if_neg (by simp [e]), slices_Concat_int_int.ok l r (by omega) (by omega), Option.bind_some, impl_checked.ok, Option.bind_some]
        by_cases h3 : good n (l ++ r) = true
        · rw [if_pos h3, if_pos ⟨⟨h, h2, e⟩, h3⟩]
        · rw [if_neg h3, if_neg (fun x => h3 x.2)]
      · rw [if_pos (by simp [e]), if_neg (fun x => e x.1.2.2)]
    · rw [if_neg h2, if_neg (fun x => h2 x.1.2.1), impl_BelowLadder.j0.v_eq, if_pos rfl]
  · rw [if_neg h, if_neg (fun x => h x.1.1), impl_BelowLadder.j0.v_eq, if_pos rfl]

theorem laws_eqIntS.ok_l (xs : List Int) (hn : xs.length ≤ 140737488355328) : ∀ (d i : Nat), xs.length - i = d → laws_eqIntS.l0.v xs xs i = some true := by
  intro d
  induction d with
  | zero =>
    intro i hd
    rw [laws_eqIntS.l0.v_eq, if_neg (cast_nlt (by omega))]
  | succ d ih =>
    intro i hd
    have h : i < xs.length := by omega
    rw [laws_eqIntS.l0.v_eq, if_pos (cast_lt h), if_pos (Int.natCast_nonneg i), if_pos (cast_lt h), if_pos rfl, succ_wrap h hn]
    exact ih (i + 1) (by omega)
theorem laws_eqIntS.ok (xs : List Int) (hn : xs.length ≤ 140737488355328) : laws_eqIntS.f.v xs xs = some true := by
  rw [laws_eqIntS.f.v_eq, if_pos rfl]
  exact laws_eqIntS.ok_l xs hn xs.length 0 (by omega)

theorem laws_eqLadder.ok (n : Int) (l : List Int) (h : l.length ≤ 140737488355328) : laws_eqLadder.f.v n l n l = some true := by
  rw [laws_eqLadder.f.v_eq, if_pos rfl, laws_eqIntS.ok l h]; rfl

theorem rd_fromOn (k : Int) : ∀ (n i : Nat), i < n → rd (fromOn k n) (i : Int) = k + i := by
  intro n i h
  induction n generalizing k i with
  | zero => omega
  | succ n ih =>
    cases i with
    | zero => show k = k + ((0 : Nat) : Int); simp
    | succ i =>
      have := ih (k + 1) i (by omega)
      rw [rd_cast] at this ⊢
      rw [fromOn, List.getD_cons_succ, this]; omega
theorem laws_heldIntS.ok_l (n : Nat) (k : Int) (hn : n ≤ 1099511627776) (h0 : 0 ≤ k) (h1 : k ≤ 4398046511104) : ∀ (d i : Nat), i + d = n → laws_heldIntS.l0.v (fromOn k n) (k + i) i = some (k + n) := by
  intro d
  induction d with
  | zero =>
    intro i hd
    rw [laws_heldIntS.l0.v_eq, fromOn_length, if_neg (cast_nlt (by omega)), show i = n by omega]
  | succ d ih =>
    intro i hd
    have h : i < n := by omega
    rw [laws_heldIntS.l0.v_eq, fromOn_length, if_pos (cast_lt h), if_pos (Int.natCast_nonneg i), if_pos (rd_fromOn k n i h), succ_wrap h (by omega), wrap_id (x := k + (i : Int) + 1) (by omega) (by omega), show k + (i : Int) + 1 = k + ((i + 1 : Nat) : Int) by omega]
    exact ih (i + 1) (by omega)
theorem laws_heldIntS.ok (n : Nat) (k : Int) (hn : n ≤ 1099511627776) (h0 : 0 ≤ k) (h1 : k ≤ 4398046511104) : laws_heldIntS.f.v (fromOn k n) k = some (k + n) := by
  rw [laws_heldIntS.f.v_eq]
  have := laws_heldIntS.ok_l n k hn h0 h1 n 0 (by omega)
  simpa using this

theorem laws_markIntS.ok_l : ∀ (d i : Nat) (xs : List Int) (k : Int), i + d = xs.length → xs.length ≤ 1099511627776 → 0 ≤ k → k ≤ 4398046511104 → laws_markIntS.l0.v xs (k + i) i = some (k + (xs.length : Int), xs.take i ++ fromOn (k + i) d) := by
  intro d
  induction d with
  | zero =>
    intro i xs k hd hn h0 h1
    rw [laws_markIntS.l0.v_eq, if_neg (cast_nlt (by omega)), List.take_of_length_le (by omega), show i = xs.length by omega]
    simp [fromOn]
  | succ d ih =>
    intro i xs k hd hn h0 h1
    have h : i < xs.length := by omega
    rw [laws_markIntS.l0.v_eq, if_pos (cast_lt h), if_pos (Int.natCast_nonneg i), succ_wrap h (by omega), toNat_cast, wrap_id (x := k + (i : Int) + 1) (by omega) (by omega), show k + (i : Int) + 1 = k + ((i + 1 : Nat) : Int) by omega, ih (i + 1) _ k (by rw [List.length_set]; omega) (by rw [List.length_set]; omega) h0 h1, List.length_set, fromOn, List.take_succ_eq_append_getElem (by rw [List.length_set]; omega), List.getElem_set_self, List.take_set_of_le (Nat.le_refl i), List.append_assoc, show k + (i : Int) + 1 = k + ((i + 1 : Nat) : Int) by omega]
    rfl
theorem laws_markIntS.ok (xs : List Int) (k : Int) (hn : xs.length ≤ 1099511627776) (h0 : 0 ≤ k) (h1 : k ≤ 4398046511104) : laws_markIntS.f.v xs k = some (k + (xs.length : Int), fromOn k xs.length) := by
  rw [laws_markIntS.f.v_eq]
  have := laws_markIntS.ok_l xs.length 0 xs k (by omega) hn h0 h1
  simpa using this

theorem laws_szLadder.ok (n : Int) (l : List Int) (h : l.length ≤ 1048576) : laws_szLadder.f n l 1048576 = some (1048576 - (l.length : Int)) := by
  unfold laws_szLadder.f laws_szIntS.f
  rw [wrap_id (by omega) (by omega), if_neg (by omega), Option.bind_some, if_neg (by omega)]
theorem laws_szLadder.no (n : Int) (l : List Int) (h : ¬ l.length ≤ 1048576) (h2 : l.length * 8 ≤ 140737488351232) : laws_szLadder.f n l 1048576 = some (-1) := by
  unfold laws_szLadder.f laws_szIntS.f
  rw [wrap_id (by omega) (by omega), if_pos (by omega), Option.bind_some, if_pos (by omega)]
theorem laws_szLadder.ok' (n : Int) (l : List Int) (t : Int) (ht : 0 ≤ t ∧ t ≤ 1048576) (h : (l.length : Int) ≤ t) : laws_szLadder.f n l t = some (t - (l.length : Int)) := by
  unfold laws_szLadder.f laws_szIntS.f
  rw [wrap_id (by omega) (by omega), if_neg (by omega), Option.bind_some, if_neg (by omega)]
theorem laws_szLadder.no' (n : Int) (l : List Int) (t : Int) (ht : 0 ≤ t ∧ t ≤ 1048576) (h : ¬ (l.length : Int) ≤ t) (h2 : l.length * 8 ≤ 140737488351232) : laws_szLadder.f n l t = some (-1) := by
  unfold laws_szLadder.f laws_szIntS.f
  rw [wrap_id (by omega) (by omega), if_pos (by omega), Option.bind_some, if_pos (by omega)]

theorem laws_toIntS.ok_l (xs : List Int) (hn : xs.length ≤ 140737488355328) : ∀ (d i : Nat) (ys : List Int), xs.length - i = d → ys.length = xs.length → ys.take i = xs.take i → laws_toIntS.l0.v xs ys i = some xs := by
  intro d
  induction d with
  | zero =>
    intro i ys hd hl ht
    rw [laws_toIntS.l0.v_eq, if_neg (cast_nlt (by omega))]
    rw [List.take_of_length_le (by omega), List.take_of_length_le (by omega)] at ht
    rw [ht]
  | succ d ih =>
    intro i ys hd hl ht
    have h : i < xs.length := by omega
    rw [laws_toIntS.l0.v_eq, if_pos (cast_lt h), if_pos (Int.natCast_nonneg i), if_pos (cast_lt (by omega)), succ_wrap h hn, toNat_cast]
    refine ih (i + 1) _ (by omega) (by rw [List.length_set]; exact hl) ?_
    rw [take_rd xs i h, ← ht, rd_lt xs i h, List.take_succ_eq_append_getElem (by rw [List.length_set]; omega), List.getElem_set_self, List.take_set_of_le (Nat.le_refl i)]
theorem laws_toIntS.ok (xs : List Int) (hn : xs.length ≤ 1048576) : laws_toIntS.f.v xs = some xs := by
  rw [laws_toIntS.f.v_eq, if_pos (Int.natCast_nonneg _), toNat_cast, if_pos (by omega)]
  exact laws_toIntS.ok_l xs (by omega) xs.length 0 _ (by omega) (by simp) (by simp)

theorem laws_toLadder.ok (n : Int) (l : List Int) (h : l.length ≤ 1048576) : laws_toLadder.f.v n l = some (n, l) := by
  rw [laws_toLadder.f.v_eq, laws_toIntS.ok l h]; rfl

theorem spec_l1Own.ok (l : List Int) (h : l.length ≤ 1048576) : spec_l1Own.f l = some l := by
  unfold spec_l1Own.f
  rw [Option.bind_some, if_pos (by simp; omega)]; rfl

theorem spec_l1All.ok_l (a b : Int) (xs : List Int) (hn : xs.length ≤ 140737488355328) : ∀ (d i : Nat), i + d = xs.length → spec_l1All.l0.v a b xs xs.length i = some ((xs.drop i).all fun x => decide (a ≤ x) && decide (x ≤ b)) := by
  intro d
  induction d with
  | zero =>
    intro i hd
    rw [spec_l1All.l0.v_eq, if_neg (cast_nlt (by omega)), List.drop_eq_nil_of_le (by omega)]
    rfl
  | succ d ih =>
    intro i hd
    have h : i < xs.length := by omega
    rw [spec_l1All.l0.v_eq, if_pos (cast_lt h), if_pos (Int.natCast_nonneg i), if_pos (cast_lt h), succ_wrap h hn, ih (i + 1) (by omega), drop_rd xs i h, List.all_cons]
    unfold spec_l1In.f
    by_cases e : a ≤ rd xs (i : Int)
    · rw [if_pos (show rd xs (i : Int) ≥ a from e), Option.bind_some, decide_eq_true e, Bool.true_and]
      by_cases e2 : rd xs (i : Int) ≤ b
      · rw [decide_eq_true e2, if_pos rfl, Bool.true_and]
      · rw [decide_eq_false e2, if_neg (by simp), Bool.false_and]
    · rw [if_neg (show ¬ rd xs (i : Int) ≥ a from e), Option.bind_some, decide_eq_false e, if_neg (by simp), Bool.false_and, Bool.false_and]
theorem spec_l1All.ok (xs : List Int) (a b : Int) (hn : xs.length ≤ 140737488355328) : spec_l1All.f.v xs a b = some (xs.all fun x => decide (a ≤ x) && decide (x ≤ b)) := by
  rw [spec_l1All.f.v_eq]
  have := spec_l1All.ok_l a b xs hn xs.length 0 (by omega)
  simpa using this

theorem spec_laGood.ok (n : Int) (l : List Int) : spec_laGood.f.v n l = some (good n l) := by
  rw [spec_laGood.f.v_eq]
  unfold spec_l1In.f good
  by_cases h1 : 2 ≤ n
  · rw [if_pos (show n ≥ 2 from h1), Option.bind_some, decide_eq_true h1, Bool.true_and]
    by_cases h2 : n ≤ 8
    · rw [decide_eq_true h2, if_pos rfl, Bool.true_and]
      by_cases h3 : l.length ≤ 60
      · rw [if_pos (by omega), decide_eq_true h3, Bool.true_and, spec_l1All.ok l 0 _ (by omega), wrap_id (x := n - 2) (by omega) (by omega)]; rfl
      · rw [if_neg (by omega), decide_eq_false h3, Bool.false_and]
    · rw [decide_eq_false h2, if_neg (by simp), Bool.false_and, Bool.false_and]
  · rw [if_neg (show ¬ n ≥ 2 from h1), Option.bind_some, decide_eq_false h1, if_neg (by simp), Bool.false_and, Bool.false_and, Bool.false_and]

theorem spec_laIf.ok (n : Int) (l : List Int) : spec_laIf.f.v n l = some (if good n l = true then (n, l, true) else (0, [], false)) := by
  rw [spec_laIf.f.v_eq, spec_laGood.ok, Option.bind_some]
  by_cases h : good n l = true
  · rw [if_pos h, if_pos h]
  · rw [if_neg h, if_neg h]

theorem spec_BelowLadder.ok (n : Int) (l : List Int) (m : Int) (r : List Int) : spec_BelowLadder.f.v n l m r = some (if (good n l = true ∧ good m r = true ∧ n = m) ∧ good n (l ++ r) = true then (n, l ++ r, true) else (0, [], false)) := by
  rw [spec_BelowLadder.f.v_eq, spec_laGood.ok, Option.bind_some]
  by_cases h : good n l = true
  · have g := good_iff.1 h
    rw [if_pos h, spec_laGood.ok, Option.bind_some]
    by_cases h2 : good m r = true
    · have g2 := good_iff.1 h2
      rw [if_pos h2, spec_BelowLadder.j0.v_eq]
      by_cases e : n = m
      · rw [if_neg (by simp [e]), spec_l1Own.ok l (by omega), Option.bind_some, if_pos (by omega), spec_laIf.ok, Option.bind_some]
        by_cases h3 : good n (l ++ r) = true
        · rw [if_pos h3, if_pos ⟨⟨h, h2, e⟩, h3⟩]
        · rw [if_neg h3, if_neg (fun x => h3 x.2)]
      · rw [if_pos (by simp [e]), if_neg (fun x => e x.1.2.2)]
    · rw [if_neg h2, if_neg (fun x => h2 x.1.2.1), spec_BelowLadder.j0.v_eq, if_pos rfl]
  · rw [if_neg h, if_neg (fun x => h x.1.1), spec_BelowLadder.j0.v_eq, if_pos rfl]

theorem FnExactBelowLadder : laws_FnExactBelowLadder.Pure := by
  intro n l m r _ _ hb _ _ _ hb2 _
  refine laws_FnExactBelowLadder.f.ends n l m r ?_
  rw [laws_FnExactBelowLadder.f.v_eq]
  by_cases h : l.length ≤ 1048576
  · rw [laws_szLadder.ok n l h, Option.bind_some, if_neg (by omega)]
    by_cases h2 : (r.length : Int) ≤ 1048576 - (l.length : Int)
    · obtain ⟨x, y, z, hs, hi, hy⟩ : ∃ x y z, spec_BelowLadder.f.v n l m r = some (x, y, z) ∧ impl_BelowLadder.f.v n l m r = some (x, y, z) ∧ y.length ≤ 1048576 := by
        rw [spec_BelowLadder.ok, impl_BelowLadder.ok]
        split
        · rename_i hh
          have g := good_iff.1 hh.2
          exact ⟨_, _, _, rfl, rfl, by omega⟩
        · exact ⟨_, _, _, rfl, rfl, by simp⟩
      have hr : r.length ≤ 1048576 := by omega
      have e0 := laws_toLadder.ok n l h
      have e1 := laws_toLadder.ok m r hr
      have e2 := laws_eqLadder.ok n l (by omega)
      have e3 := laws_eqLadder.ok m r (by omega)
      have e4 := laws_eqLadder.ok x y (by omega)
      have e5 := laws_markIntS.ok l 1 (by omega) (by omega) (by omega)
      have e6 := laws_markIntS.ok r (1 + (l.length : Int)) (by omega) (by omega) (by omega)
      have e7 := laws_markIntS.ok y 1 (by omega) (by omega) (by omega)
      have e8 := laws_heldIntS.ok y.length 1 (by omega) (by omega) (by omega)
      have n1 : ¬ ((1 : Int) + (l.length : Int) + (r.length : Int) < 0) := by omega
      have n2 : ¬ ((1 : Int) + (y.length : Int) < 0) := by omega
      rw [laws_szLadder.ok' m r _ (by omega) h2, Option.bind_some, if_neg (by omega)]
      simp only [e0, e1, e2, e3, e4, hs, hi, laws_markLadder.f.v_eq, laws_heldLadder.f.v_eq, e5, e6, e7, e8, if_neg n1, if_neg n2, laws_FnExactBelowLadder.j0.v_eq, laws_FnExactBelowLadder.j1.v_eq, laws_FnExactBelowLadder.j2.v_eq, Option.bind_some, bne_self_eq_false, Bool.false_eq_true, if_false, if_true]
    · rw [laws_szLadder.no' m r _ (by omega) h2 hb2, Option.bind_some, if_pos (by omega)]
  · rw [laws_szLadder.no n l h hb, Option.bind_some, if_pos (by omega)]

end Go.Proofs.Ytciboaihodoglaa.Pure
