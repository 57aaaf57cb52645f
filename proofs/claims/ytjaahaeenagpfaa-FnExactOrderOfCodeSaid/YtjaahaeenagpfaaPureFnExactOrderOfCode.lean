/- Proved: for every input the law FnExactOrderOfCode returns true (its plain statement, over numbers and lists). No condition. -/
import Derived.Test.YtjaahaeenagpfaaPAllx10
import Derived.Test.YtjaahaeenagpfaaVAllx1
import Derived.Test.YtjaahaeenagpfaaVAllx10
import Derived.Test.YtjaahaeenagpfaaVAllx2
import Derived.Test.YtjaahaeenagpfaaVAllx3
import Derived.Test.YtjaahaeenagpfaaVAllx7
import Derived.Test.YtjaahaeenagpfaaVAllx8
import Derived.Test.YtjaahaeenagpfaaVAllx9
import Derived.Test.YtjaahaeenagpfaaOrders
import Derived.Test.YtjaahaeenagpfaaPlain
namespace Go.Proofs.Ytjaahaeenagpfaa.Pure
open Go.RowKit Go.Proofs.Ytjaahaeenagpfaa.PAll Go.Proofs.YtjaahaeenagpfaaW.PrintWords Go.Proofs.YtjaahaeenagpfaaW.PrintLast Go.Proofs.YtjaahaeenagpfaaW.PrintMore Go.Proofs.YtjaahaeenagpfaaL
set_option linter.unusedVariables false
set_option linter.unusedSimpArgs false

theorem impl_identity.ok_l (n : Nat) (hn : n ≤ 1000) : ∀ (d i : Nat) (acc : List Int), i + d = n → acc.length ≤ i → impl_identity.l0.v acc n i = some (acc ++ upFrom d i) := by
  intro d
  induction d with
  | zero =>
    intro i acc hd ha
    rw [impl_identity.l0.v_eq, if_neg (cast_nlt (by omega)), upFrom, List.append_nil]
  | succ d ih =>
    intro i acc hd ha
    have h : i < n := by omega
    rw [impl_identity.l0.v_eq, if_pos (cast_lt h), if_pos (by omega), succ_wrap h (by omega), ih (i + 1) _ (by omega) (by simp; omega), upFrom, List.append_assoc]; rfl
theorem impl_identity.ok (n : Nat) (hn : n ≤ 1000) : impl_identity.f.v n = some (ident n) := by
  rw [impl_identity.f.v_eq]
  have := impl_identity.ok_l n hn n 0 [] (by omega) (by simp)
  simpa [ident] using this

theorem slices_Clone_int_int.ok (l : List Int) (h : l.length ≤ 1048576) : slices_Clone_int_int.f l = some l := by
  unfold slices_Clone_int_int.f
  rw [if_pos (by omega)]

theorem slices_Delete_int_int.ok (l : List Int) (a b : Int) (h0 : 0 ≤ a) (h1 : a ≤ b) (h2 : b ≤ l.length) : slices_Delete_int_int.f l a b = some (l.take a.toNat ++ l.drop b.toNat) := by
  unfold slices_Delete_int_int.f
  rw [if_pos h0, if_pos h1, if_pos h2]

theorem impl_without.ok (l : List Int) (i : Int) (h : l.length ≤ 1048576) (h0 : 0 ≤ i) (h1 : i < l.length) : impl_without.f l i = some (woL l i) := by
  unfold impl_without.f
  rw [slices_Clone_int_int.ok l h, Option.bind_some, wrap_id (x := i + 1) (by omega) (by omega), slices_Delete_int_int.ok l i (i + 1) h0 (by omega) (by omega), Option.bind_some, show (i + 1).toNat = i.toNat + 1 by omega]
  rfl

theorem impl_OrderOfCode.ok_l (c : List Int) (hc : c.length ≤ 8) : ∀ (d i : Nat) (left acc : List Int), i + d = c.length → left.length + i = c.length → acc.length ≤ i → impl_OrderOfCode.l0.v left acc c c.length i = some (match ocGo left acc (c.drop i) with | some p => (p, true) | none => ([], false)) := by
  intro d
  induction d with
  | zero =>
    intro i left acc hd hl ha
    rw [impl_OrderOfCode.l0.v_eq, if_neg (cast_nlt (by omega)), List.drop_eq_nil_of_le (by omega)]; rfl
  | succ d ih =>
    intro i left acc hd hl ha
    have h : i < c.length := by omega
    rw [impl_OrderOfCode.l0.v_eq, if_pos (cast_lt h), if_pos (Int.natCast_nonneg i), if_pos (cast_lt h), succ_wrap h (by omega), wrap_id (x := (left.length : Int) - 1) (by omega) (by omega), drop_rd c i h, ocGo]
    unfold impl_between.f
    by_cases e : 0 ≤ rd c (i : Int)
    · by_cases e2 : rd c (i : Int) ≤ (left.length : Int) - 1
      · rw [if_pos (show rd c (i : Int) ≥ 0 from e), decide_eq_true e2, Option.bind_some, if_pos rfl, if_pos e, if_pos (by omega), if_pos (by omega), impl_without.ok left _ (by omega) e (by omega), Option.bind_some, if_pos ⟨e, e2⟩, ih (i + 1) _ _ (by omega) (by rw [woL_length _ _ e (by omega)]; omega) (by simp; omega)]
      · rw [if_pos (show rd c (i : Int) ≥ 0 from e), decide_eq_false e2, Option.bind_some, if_neg (by simp), if_neg (fun z => e2 z.2)]
    · rw [if_neg (show ¬ rd c (i : Int) ≥ 0 from e), Option.bind_some, if_neg (by simp), if_neg (fun z => e z.1)]
theorem impl_OrderOfCode.ok (c : List Int) : impl_OrderOfCode.f.v c = some (if 1 ≤ c.length ∧ c.length ≤ 8 then (match ocL c with | some p => (p, true) | none => ([], false)) else ([], false)) := by
  rw [impl_OrderOfCode.f.v_eq]
  unfold impl_between.f
  by_cases h1 : 1 ≤ c.length
  · by_cases h2 : c.length ≤ 8
    · rw [if_pos (by omega), decide_eq_true (by omega), Option.bind_some, if_pos rfl, if_pos ⟨h1, h2⟩, impl_identity.ok _ (by omega), Option.bind_some]
      have := impl_OrderOfCode.ok_l c h2 c.length 0 (ident c.length) [] (by omega) (by rw [ident_length]; omega) (by simp)
      simpa [ocL] using this
    · rw [if_pos (by omega), decide_eq_false (by omega), Option.bind_some, if_neg (by simp), if_neg (fun z => h2 z.2)]
  · rw [if_neg (by omega), Option.bind_some, if_neg (by simp), if_neg (fun z => h1 z.1)]

theorem laws_eqIntS.ok_l (xs : List Int) (hn : xs.length ≤ 140737488355328) : ∀ (d i : Nat), xs.length - i = d → laws_eqIntS.l0.v xs xs i = some true := by
  intro d
  induction d with
  | zero =>
    intro i hd
    rw [laws_eqIntS.l0.v_eq, if_neg (cast_nlt (by omega))]
  | succ d ih =>
    intro i hd
    have h : i < xs.length := by omega
    rw [laws_eqIntS.l0.v_eq, if_pos (cast_lt h), if_pos (Int.natCast_nonneg i), if_pos (cast_lt h), if_pos rfl, succ_wrap h hn]
    exact ih (i + 1) (by omega)
theorem laws_eqIntS.ok (xs : List Int) (hn : xs.length ≤ 140737488355328) : laws_eqIntS.f.v xs xs = some true := by
  rw [laws_eqIntS.f.v_eq, if_pos rfl]
  exact laws_eqIntS.ok_l xs hn xs.length 0 (by omega)

theorem rd_fromOn (k : Int) : ∀ (n i : Nat), i < n → rd (fromOn k n) (i : Int) = k + i := by
  intro n i h
  induction n generalizing k i with
  | zero => omega
  | succ n ih =>
    cases i with
    | zero => show k = k + ((0 : Nat) : Int); simp
    | succ i =>
      have := ih (k + 1) i (by omega)
      rw [rd_cast] at this ⊢
      rw [fromOn, List.getD_cons_succ, this]; omega
theorem laws_heldIntS.ok_l (n : Nat) (k : Int) (hn : n ≤ 1099511627776) (h0 : 0 ≤ k) (h1 : k ≤ 4398046511104) : ∀ (d i : Nat), i + d = n → laws_heldIntS.l0.v (fromOn k n) (k + i) i = some (k + n) := by
  intro d
  induction d with
  | zero =>
    intro i hd
    rw [laws_heldIntS.l0.v_eq, fromOn_length, if_neg (cast_nlt (by omega)), show i = n by omega]
  | succ d ih =>
    intro i hd
    have h : i < n := by omega
    rw [laws_heldIntS.l0.v_eq, fromOn_length, if_pos (cast_lt h), if_pos (Int.natCast_nonneg i), if_pos (rd_fromOn k n i h), succ_wrap h (by omega), wrap_id (x := k + (i : Int) + 1) (by omega) (by omega), show k + (i : Int) + 1 = k + ((i + 1 : Nat) : Int) by omega]
    exact ih (i + 1) (by omega)
theorem laws_heldIntS.ok (n : Nat) (k : Int) (hn : n ≤ 1099511627776) (h0 : 0 ≤ k) (h1 : k ≤ 4398046511104) : laws_heldIntS.f.v (fromOn k n) k = some (k + n) := by
  rw [laws_heldIntS.f.v_eq]
  have := laws_heldIntS.ok_l n k hn h0 h1 n 0 (by omega)
  simpa using this

theorem laws_markIntS.ok_l : ∀ (d i : Nat) (xs : List Int) (k : Int), i + d = xs.length → xs.length ≤ 1099511627776 → 0 ≤ k → k ≤ 4398046511104 → laws_markIntS.l0.v xs (k + i) i = some (k + (xs.length : Int), xs.take i ++ fromOn (k + i) d) := by
  intro d
  induction d with
  | zero =>
    intro i xs k hd hn h0 h1
    rw [laws_markIntS.l0.v_eq, if_neg (cast_nlt (by omega)), List.take_of_length_le (by omega), show i = xs.length by omega]
    simp [fromOn]
  | succ d ih =>
    intro i xs k hd hn h0 h1
    have h : i < xs.length := by omega
    rw [laws_markIntS.l0.v_eq, if_pos (cast_lt h), if_pos (Int.natCast_nonneg i), succ_wrap h (by omega), toNat_cast, wrap_id (x := k + (i : Int) + 1) (by omega) (by omega), show k + (i : Int) + 1 = k + ((i + 1 : Nat) : Int) by omega, ih (i + 1) _ k (by rw [List.length_set]; omega) (by rw [List.length_set]; omega) h0 h1, List.length_set, fromOn, List.take_succ_eq_append_getElem (by rw [List.length_set]; omega), List.getElem_set_self, List.take_set_of_le (Nat.le_refl i), List.append_assoc, show k + (i : Int) + 1 = k + ((i + 1 : Nat) : Int) by omega]
    rfl
theorem laws_markIntS.ok (xs : List Int) (k : Int) (hn : xs.length ≤ 1099511627776) (h0 : 0 ≤ k) (h1 : k ≤ 4398046511104) : laws_markIntS.f.v xs k = some (k + (xs.length : Int), fromOn k xs.length) := by
  rw [laws_markIntS.f.v_eq]
  have := laws_markIntS.ok_l xs.length 0 xs k (by omega) hn h0 h1
  simpa using this

theorem laws_toIntS.ok_l (xs : List Int) (hn : xs.length ≤ 140737488355328) : ∀ (d i : Nat) (ys : List Int), xs.length - i = d → ys.length = xs.length → ys.take i = xs.take i → laws_toIntS.l0.v xs ys i = some xs := by
  intro d
  induction d with
  | zero =>
    intro i ys hd hl ht
    rw [laws_toIntS.l0.v_eq, if_neg (cast_nlt (by omega))]
    rw [List.take_of_length_le (by omega), List.take_of_length_le (by omega)] at ht
    rw [ht]
  | succ d ih =>
    intro i ys hd hl ht
    have h : i < xs.length := by omega
    rw [laws_toIntS.l0.v_eq, if_pos (cast_lt h), if_pos (Int.natCast_nonneg i), if_pos (cast_lt (by omega)), succ_wrap h hn, toNat_cast]
    refine ih (i + 1) _ (by omega) (by rw [List.length_set]; exact hl) ?_
    rw [take_rd xs i h, ← ht, rd_lt xs i h, List.take_succ_eq_append_getElem (by rw [List.length_set]; omega), List.getElem_set_self, List.take_set_of_le (Nat.le_refl i)]
theorem laws_toIntS.ok (xs : List Int) (hn : xs.length ≤ 1048576) : laws_toIntS.f.v xs = some xs := by
  rw [laws_toIntS.f.v_eq, if_pos (Int.natCast_nonneg _), toNat_cast, if_pos (by omega)]
  exact laws_toIntS.ok_l xs (by omega) xs.length 0 _ (by omega) (by simp) (by simp)

theorem spec_l1Own.ok (l : List Int) (h : l.length ≤ 1048576) : spec_l1Own.f l = some l := by
  unfold spec_l1Own.f
  rw [Option.bind_some, if_pos (by simp; omega)]; rfl

theorem spec_OrderOfCode.ok_i (c : List Int) (hc : c.length ≤ 8) : ∀ (d i : Nat) (left acc : List Int), i + d = c.length → left.length + i = c.length → acc.length ≤ i → spec_OrderOfCode.l1.v c left acc c c.length i = some (match ocGo left acc (c.drop i) with | some p => (p, true) | none => ([], false)) := by
  intro d
  induction d with
  | zero =>
    intro i left acc hd hl ha
    rw [spec_OrderOfCode.l1.v_eq, if_neg (cast_nlt (by omega)), List.drop_eq_nil_of_le (by omega)]; rfl
  | succ d ih =>
    intro i left acc hd hl ha
    have h : i < c.length := by omega
    rw [spec_OrderOfCode.l1.v_eq, if_pos (cast_lt h), if_pos (Int.natCast_nonneg i), if_pos (cast_lt h), succ_wrap h (by omega), wrap_id (x := (c.length : Int) - 1) (by omega) (by omega), wrap_id (x := (c.length : Int) - 1 - (i : Int)) (by omega) (by omega), show (c.length : Int) - 1 - (i : Int) = (left.length : Int) - 1 by omega, drop_rd c i h, ocGo]
    unfold spec_l1In.f
    by_cases e : 0 ≤ rd c (i : Int)
    · by_cases e2 : rd c (i : Int) ≤ (left.length : Int) - 1
      · have q1 : rd c (i : Int) < (left.length : Int) := by omega
        have q2 : rd c (i : Int) ≤ (left.length : Int) := by omega
        have q3 : wrap64 (rd c (i : Int) + 1) = rd c (i : Int) + 1 := wrap_id (by omega) (by omega)
        rw [if_pos (show rd c (i : Int) ≥ 0 from e), decide_eq_true e2, Option.bind_some, if_pos rfl, if_pos e, if_pos q1, if_pos (by omega), if_pos q2, spec_l1Own.ok _ (by rw [List.length_take]; omega), Option.bind_some, q3, if_pos (by omega), if_pos (by omega), Option.bind_some, if_pos (by rw [List.length_take, List.length_drop]; omega), if_pos ⟨e, e2⟩, show (rd c (i : Int) + 1).toNat = (rd c (i : Int)).toNat + 1 by omega]
        have hw : left.take (rd c (i : Int)).toNat ++ left.drop ((rd c (i : Int)).toNat + 1) = woL left (rd c (i : Int)) := rfl
        rw [hw, ih (i + 1) _ _ (by omega) (by rw [woL_length _ _ e q1]; omega) (by simp; omega)]
      · rw [if_pos (show rd c (i : Int) ≥ 0 from e), decide_eq_false e2, Option.bind_some, if_neg (by simp), if_neg (fun z => e2 z.2)]
    · rw [if_neg (show ¬ rd c (i : Int) ≥ 0 from e), Option.bind_some, if_neg (by simp), if_neg (fun z => e z.1)]
theorem spec_OrderOfCode.ok_o (c : List Int) (hc : c.length ≤ 8) : ∀ (d i : Nat) (left : List Int), i + d = c.length → left.length = i → spec_OrderOfCode.l0.v c left c.length i = spec_OrderOfCode.l1.v c (left ++ upFrom d i) [] c c.length ((0 : Nat) : Int) := by
  intro d
  induction d with
  | zero =>
    intro i left hd hl
    rw [spec_OrderOfCode.l0.v_eq, if_neg (cast_nlt (by omega)), upFrom, List.append_nil]; rfl
  | succ d ih =>
    intro i left hd hl
    have h : i < c.length := by omega
    rw [spec_OrderOfCode.l0.v_eq, if_pos (cast_lt h), if_pos (by omega), succ_wrap h (by omega), ih (i + 1) _ (by omega) (by simp; omega), upFrom, List.append_assoc]; rfl
theorem spec_OrderOfCode.ok (c : List Int) : spec_OrderOfCode.f.v c = some (if 1 ≤ c.length ∧ c.length ≤ 8 then (match ocL c with | some p => (p, true) | none => ([], false)) else ([], false)) := by
  rw [spec_OrderOfCode.f.v_eq]
  unfold spec_l1In.f
  by_cases h1 : 1 ≤ c.length
  · by_cases h2 : c.length ≤ 8
    · rw [if_pos (by omega), decide_eq_true (by omega), Option.bind_some, if_pos rfl, if_pos ⟨h1, h2⟩]
      have h0 := spec_OrderOfCode.ok_o c h2 c.length 0 [] (by omega) rfl
      rw [show ((0 : Nat) : Int) = 0 from rfl] at h0
      rw [h0]
      have := spec_OrderOfCode.ok_i c h2 c.length 0 (ident c.length) [] (by omega) (by rw [ident_length]; omega) (by simp)
      simpa [ocL, ident] using this
    · rw [if_pos (by omega), decide_eq_false (by omega), Option.bind_some, if_neg (by simp), if_neg (fun z => h2 z.2)]
  · rw [if_neg (by omega), Option.bind_some, if_neg (by simp), if_neg (fun z => h1 z.1)]

theorem FnExactOrderOfCode : laws_FnExactOrderOfCode.Pure := by
  intro l _ _ _
  refine laws_FnExactOrderOfCode.f.ends l ?_
  rw [laws_FnExactOrderOfCode.f.v_eq]
  by_cases h : (l.length : Int) > 1048576
  · rw [if_pos h]
  · have hl : l.length ≤ 1048576 := by omega
    rw [if_neg h]
    obtain ⟨r, b, hs, hi, hr⟩ : ∃ r b, spec_OrderOfCode.f.v l = some (r, b) ∧ impl_OrderOfCode.f.v l = some (r, b) ∧ r.length ≤ 1048576 := by
      rw [spec_OrderOfCode.ok, impl_OrderOfCode.ok]
      split
      · exact ⟨_, _, rfl, rfl, by
          cases e : ocL l with
          | some p => show p.length ≤ _; have := ocL_length e; omega
          | none => exact Nat.zero_le _⟩
      · exact ⟨_, _, rfl, rfl, by simp⟩
    have e0 := laws_toIntS.ok l hl
    have e1 := laws_eqIntS.ok l (by omega)
    have e2 := laws_eqIntS.ok r (by omega)
    have e3 := laws_markIntS.ok l 1 (by omega) (by omega) (by omega)
    have e4 := laws_markIntS.ok r 1 (by omega) (by omega) (by omega)
    have e5 := laws_heldIntS.ok r.length 1 (by omega) (by omega) (by omega)
    have n1 : ¬ ((1 : Int) + (l.length : Int) < 0) := by omega
    have n2 : ¬ ((1 : Int) + (r.length : Int) < 0) := by omega
    simp only [e0, hs, hi, e1, e2, e3, e4, e5, if_neg n1, if_neg n2, laws_FnExactOrderOfCode.j0.v_eq, laws_FnExactOrderOfCode.j1.v_eq, laws_FnExactOrderOfCode.j2.v_eq, Option.bind_some, bne_self_eq_false, Bool.false_eq_true, if_false, if_true]

end Go.Proofs.Ytjaahaeenagpfaa.Pure
