/- Proved: for every input the law FnExactLongestLadder returns true (its plain statement, over numbers and lists). No condition. -/
import Derived.Test.YtmoobmeihckaiaaPAllx11
import Derived.Test.YtmoobmeihckaiaaPAllx3
import Derived.Test.YtmoobmeihckaiaaVAllx1
import Derived.Test.YtmoobmeihckaiaaVAllx10
import Derived.Test.YtmoobmeihckaiaaVAllx11
import Derived.Test.YtmoobmeihckaiaaVAllx2
import Derived.Test.YtmoobmeihckaiaaVAllx4
import Derived.Test.YtmoobmeihckaiaaVAllx5
import Derived.Test.YtmoobmeihckaiaaVAllx7
import Derived.Test.YtmoobmeihckaiaaVAllx8
import Derived.Test.YtmoobmeihckaiaaVAllx9
import Derived.Test.YtmoobmeihckaiaaLeasts
import Derived.Test.YtmoobmeihckaiaaOrders
import Derived.Test.YtmoobmeihckaiaaPerms
import Derived.Test.YtmoobmeihckaiaaPlain
namespace Go.Proofs.Ytmoobmeihckaiaa.Pure
open Go.RowKit Go.Proofs.Ytmoobmeihckaiaa.PAll Go.Proofs.YtmoobmeihckaiaaW.PrintWords Go.Proofs.YtmoobmeihckaiaaW.PrintLast Go.Proofs.YtmoobmeihckaiaaW.PrintMore Go.Proofs.YtmoobmeihckaiaaL
set_option linter.unusedVariables false
set_option linter.unusedSimpArgs false

theorem impl_identity.ok_l (n : Nat) (hn : n ≤ 1000) : ∀ (d i : Nat) (acc : List Int), i + d = n → acc.length ≤ i → impl_identity.l0.v acc n i = some (acc ++ upFrom d i) := by
  intro d
  induction d with
  | zero =>
    intro i acc hd ha
    rw [impl_identity.l0.v_eq, if_neg (cast_nlt (by omega)), upFrom, List.append_nil]
  | succ d ih =>
    intro i acc hd ha
    have h : i < n := by omega
    rw [impl_identity.l0.v_eq, if_pos (cast_lt h), if_pos (by omega), succ_wrap h (by omega), ih (i + 1) _ (by omega) (by simp; omega), upFrom, List.append_assoc]; rfl
theorem impl_identity.ok (n : Nat) (hn : n ≤ 1000) : impl_identity.f.v n = some (ident n) := by
  rw [impl_identity.f.v_eq]
  have := impl_identity.ok_l n hn n 0 [] (by omega) (by simp)
  simpa [ident] using this

theorem impl_descents.ok_l (p : List Int) (h1 : 1 ≤ p.length) (hp : p.length ≤ 1000) : ∀ (d i : Nat) (acc : List Int), i + 1 + d = p.length → acc.length ≤ i → impl_descents.l0.v p acc i = some (acc ++ descGo p d i) := by
  intro d
  induction d with
  | zero =>
    intro i acc hd ha
    rw [impl_descents.l0.v_eq, succ_wrap (show i < p.length by omega) (by omega), if_neg (cast_nlt (by omega)), descGo, List.append_nil]
  | succ d ih =>
    intro i acc hd ha
    rw [impl_descents.l0.v_eq, succ_wrap (show i < p.length by omega) (by omega), if_pos (cast_lt (by omega)), if_pos (Int.natCast_nonneg i), if_pos (cast_lt (by omega)), if_pos (Int.natCast_nonneg _), descGo]
    by_cases e : rd p (i : Int) > rd p ((i : Int) + 1)
    · have e' : rd p (i : Int) > rd p ((i + 1 : Nat) : Int) := e
      rw [if_pos e', if_pos e, if_pos (by omega), ih (i + 1) _ (by omega) (by simp; omega), List.append_assoc]; rfl
    · have e' : ¬ rd p (i : Int) > rd p ((i + 1 : Nat) : Int) := e
      rw [if_neg e', if_neg e, ih (i + 1) _ (by omega) (by omega)]
theorem impl_descents.ok (p : List Int) (h1 : 1 ≤ p.length) (hp : p.length ≤ 1000) : impl_descents.f.v p = some (desc p) := by
  rw [impl_descents.f.v_eq]
  have := impl_descents.ok_l p h1 hp (p.length - 1) 0 [] (by omega) (by simp)
  simpa [desc] using this

theorem slices_Clone_int_int.ok (l : List Int) (h : l.length ≤ 1048576) : slices_Clone_int_int.f l = some l := by
  unfold slices_Clone_int_int.f
  rw [if_pos (by omega)]

theorem impl_exchanged.ok (p : List Int) (j : Nat) (hj : j + 1 < p.length) (hp : p.length ≤ 1048576) : impl_exchanged.f p (j : Int) = some (swp p j (j + 1)) := by
  have e : wrap64 ((j : Int) + 1) = ((j + 1 : Nat) : Int) := succ_wrap (show j < p.length by omega) (by omega)
  unfold impl_exchanged.f
  rw [slices_Clone_int_int.ok p hp, Option.bind_some, e, if_pos (Int.natCast_nonneg _), if_pos (cast_lt hj), if_pos (Int.natCast_nonneg _), if_pos (cast_lt (by omega)), toNat_cast, toNat_cast]
  rfl

theorem impl_least.ok_l (n : Int) : ∀ (k : Nat) (p acc : List Int), invC p = k → 1 ≤ p.length → p.length ≤ 8 → acc.length + k ≤ 1000 → impl_least.l0.v p (desc p) n acc = some (n, acc ++ leastL p) := by
  intro k
  induction k with
  | zero =>
    intro p acc hk h1 h8 ha
    cases e : desc p with
    | nil => rw [impl_least.l0.v_eq, if_neg (by simp), leastL_nil e, List.append_nil]
    | cons a r => obtain ⟨j, _, _, _, hc⟩ := desc_head e; omega
  | succ k ih =>
    intro p acc hk h1 h8 ha
    cases e : desc p with
    | nil => rw [impl_least.l0.v_eq, if_neg (by simp), leastL_nil e, List.append_nil]
    | cons a r =>
      rw [leastL_cons e]
      obtain ⟨j, rfl, hj, hr, hc⟩ := desc_head e
      have e0 : rd ((j : Int) :: r) 0 = (j : Int) := rfl
      rw [impl_least.l0.v_eq, if_pos (by simp), if_pos (by simp), if_pos (by omega), e0, impl_exchanged.ok p j hj (by omega), Option.bind_some, impl_descents.ok _ (by rw [swp_length]; omega) (by rw [swp_length]; omega), Option.bind_some, ih _ _ (by omega) (by rw [swp_length]; omega) (by rw [swp_length]; omega) (by simp; omega), List.append_assoc, toNat_cast]
      rfl
theorem impl_least.ok (p : List Int) (h1 : 1 ≤ p.length) (h8 : p.length ≤ 8) : impl_least.f.v p = some ((p.length : Int), leastL p) := by
  have := invC_le p h8
  rw [impl_least.f.v_eq, impl_descents.ok p h1 (by omega), Option.bind_some, impl_least.ok_l _ _ p [] rfl h1 h8 (by simp; omega), List.nil_append]

theorem slices_Reverse_int_int.ok_l (l : List Int) (hn : l.length ≤ 1048576) : ∀ (d i : Nat) (xs : List Int), l.length ≤ 2 * i + d → i ≤ l.length → xs.length = l.length → (∀ q, q < l.length → xs.getD q 0 = if q < i ∨ l.length < q + i + 1 then l.getD (l.length - 1 - q) 0 else l.getD q 0) → slices_Reverse_int_int.l0.v xs i ((l.length : Int) - 1 - (i : Int)) = some l.reverse := by
  intro d
  induction d with
  | zero =>
    intro i xs hd hi hx hq
    rw [slices_Reverse_int_int.l0.v_eq, if_neg (by omega)]
    congr 1
    refine List.ext_getElem (by simp [hx]) (fun q h1 h2 => ?_)
    have h3 := hq q (by omega)
    rw [List.getD_eq_getElem?_getD, List.getElem?_eq_getElem h1] at h3
    rw [List.getElem_reverse, show xs[q] = (some xs[q]).getD 0 from rfl, h3]
    by_cases hc : q < i ∨ l.length < q + i + 1
    · rw [if_pos hc, List.getD_eq_getElem?_getD, List.getElem?_eq_getElem (by omega)]; rfl
    · rw [if_neg hc, List.getD_eq_getElem?_getD, List.getElem?_eq_getElem (by omega)]
      have : l.length - 1 - q = q := by omega
      simp only [this]; rfl
  | succ d ih =>
    intro i xs hd hi hx hq
    by_cases h : 2 * i + 1 < l.length
    · obtain ⟨j, hj⟩ : ∃ j : Nat, j = l.length - 1 - i := ⟨_, rfl⟩
      have hj' : (l.length : Int) - 1 - (i : Int) = (j : Int) := by omega
      have hrj := hq j (by omega)
      have hri := hq i (by omega)
      rw [if_neg (by omega)] at hrj hri
      rw [hj', slices_Reverse_int_int.l0.v_eq, if_pos (by omega), if_pos (Int.natCast_nonneg j), if_pos (by omega), if_pos (Int.natCast_nonneg i), if_pos (by omega), toNat_cast, toNat_cast, wrap_id (x := (i : Int) + 1) (by omega) (by omega), wrap_id (x := (j : Int) - 1) (by omega) (by omega), show (j : Int) - 1 = (l.length : Int) - 1 - ((i + 1 : Nat) : Int) by omega, show (i : Int) + 1 = ((i + 1 : Nat) : Int) by omega]
      refine ih (i + 1) _ (by omega) (by omega) (by rw [List.length_set, List.length_set]; exact hx) (fun q hq' => ?_)
      have hold := hq q hq'
      rw [List.getD_eq_getElem?_getD, List.getElem?_set, List.getElem?_set]
      by_cases e1 : j = q
      · subst e1
        rw [if_pos rfl, if_pos (by rw [List.length_set]; omega), if_pos (by omega), show l.length - 1 - j = i by omega, ← hri]; rfl
      · rw [if_neg e1]
        by_cases e2 : i = q
        · subst e2
          rw [if_pos rfl, if_pos (by omega), if_pos (by omega), ← hj, ← hrj]; rfl
        · rw [if_neg e2, ← List.getD_eq_getElem?_getD, hold]
          by_cases hc : q < i ∨ l.length < q + i + 1
          · rw [if_pos hc, if_pos (by omega)]
          · rw [if_neg hc, if_neg (by omega)]
    · refine (?_ : slices_Reverse_int_int.l0.v xs i ((l.length : Int) - 1 - (i : Int)) = some l.reverse)
      rw [slices_Reverse_int_int.l0.v_eq, if_neg (by omega)]
      congr 1
      refine List.ext_getElem (by simp [hx]) (fun q h1 h2 => ?_)
      have h3 := hq q (by omega)
      rw [List.getD_eq_getElem?_getD, List.getElem?_eq_getElem h1] at h3
      rw [List.getElem_reverse, show xs[q] = (some xs[q]).getD 0 from rfl, h3]
      by_cases hc : q < i ∨ l.length < q + i + 1
      · rw [if_pos hc, List.getD_eq_getElem?_getD, List.getElem?_eq_getElem (by omega)]; rfl
      · rw [if_neg hc, List.getD_eq_getElem?_getD, List.getElem?_eq_getElem (by omega)]
        have : l.length - 1 - q = q := by omega
        simp only [this]; rfl
theorem slices_Reverse_int_int.ok (l : List Int) (hn : l.length ≤ 1048576) : slices_Reverse_int_int.f.v l = some l.reverse := by
  rw [slices_Reverse_int_int.f.v_eq, wrap_id (by omega) (by omega)]
  have := slices_Reverse_int_int.ok_l l hn l.length 0 l (by omega) (by omega) rfl (fun q hq => by rw [if_neg (by omega)])
  simpa using this

theorem impl_LongestLadder.ok (n : Int) : impl_LongestLadder.f.v n = some (if 2 ≤ n ∧ n ≤ 8 then (n, leastL (ident n.toNat).reverse, true) else (0, [], false)) := by
  rw [impl_LongestLadder.f.v_eq]
  unfold impl_between.f
  by_cases h0 : 2 ≤ n
  · rw [if_pos h0, Option.bind_some]
    by_cases h1 : n ≤ 8
    · have e : impl_identity.f.v n = some (ident n.toNat) := by
        have := impl_identity.ok n.toNat (by omega)
        rwa [Int.toNat_of_nonneg (by omega)] at this
      rw [decide_eq_true h1, if_pos rfl, if_pos ⟨h0, h1⟩, e, Option.bind_some, slices_Reverse_int_int.ok _ (by rw [ident_length]; omega), Option.bind_some, impl_least.ok _ (by rw [List.length_reverse, ident_length]; omega) (by rw [List.length_reverse, ident_length]; omega), List.length_reverse, ident_length, Int.toNat_of_nonneg (by omega)]; rfl
    · rw [decide_eq_false h1, if_neg (by simp), if_neg (fun x => h1 x.2)]
  · rw [if_neg h0, Option.bind_some, if_neg (by simp), if_neg (fun x => h0 x.1)]

theorem laws_eqIntS.ok_l (xs : List Int) (hn : xs.length ≤ 140737488355328) : ∀ (d i : Nat), xs.length - i = d → laws_eqIntS.l0.v xs xs i = some true := by
  intro d
  induction d with
  | zero =>
    intro i hd
    rw [laws_eqIntS.l0.v_eq, if_neg (cast_nlt (by omega))]
  | succ d ih =>
    intro i hd
    have h : i < xs.length := by omega
    rw [laws_eqIntS.l0.v_eq, if_pos (cast_lt h), if_pos (Int.natCast_nonneg i), if_pos (cast_lt h), if_pos rfl, succ_wrap h hn]
    exact ih (i + 1) (by omega)
theorem laws_eqIntS.ok (xs : List Int) (hn : xs.length ≤ 140737488355328) : laws_eqIntS.f.v xs xs = some true := by
  rw [laws_eqIntS.f.v_eq, if_pos rfl]
  exact laws_eqIntS.ok_l xs hn xs.length 0 (by omega)

theorem laws_eqLadder.ok (n : Int) (l : List Int) (h : l.length ≤ 140737488355328) : laws_eqLadder.f.v n l n l = some true := by
  rw [laws_eqLadder.f.v_eq, if_pos rfl, laws_eqIntS.ok l h]; rfl

theorem rd_fromOn (k : Int) : ∀ (n i : Nat), i < n → rd (fromOn k n) (i : Int) = k + i := by
  intro n i h
  induction n generalizing k i with
  | zero => omega
  | succ n ih =>
    cases i with
    | zero => show k = k + ((0 : Nat) : Int); simp
    | succ i =>
      have := ih (k + 1) i (by omega)
      rw [rd_cast] at this ⊢
      rw [fromOn, List.getD_cons_succ, this]; omega
theorem laws_heldIntS.ok_l (n : Nat) (k : Int) (hn : n ≤ 1099511627776) (h0 : 0 ≤ k) (h1 : k ≤ 4398046511104) : ∀ (d i : Nat), i + d = n → laws_heldIntS.l0.v (fromOn k n) (k + i) i = some (k + n) := by
  intro d
  induction d with
  | zero =>
    intro i hd
    rw [laws_heldIntS.l0.v_eq, fromOn_length, if_neg (cast_nlt (by omega)), show i = n by omega]
  | succ d ih =>
    intro i hd
    have h : i < n := by omega
    rw [laws_heldIntS.l0.v_eq, fromOn_length, if_pos (cast_lt h), if_pos (Int.natCast_nonneg i), if_pos (rd_fromOn k n i h), succ_wrap h (by omega), wrap_id (x := k + (i : Int) + 1) (by omega) (by omega), show k + (i : Int) + 1 = k + ((i + 1 : Nat) : Int) by omega]
    exact ih (i + 1) (by omega)
theorem laws_heldIntS.ok (n : Nat) (k : Int) (hn : n ≤ 1099511627776) (h0 : 0 ≤ k) (h1 : k ≤ 4398046511104) : laws_heldIntS.f.v (fromOn k n) k = some (k + n) := by
  rw [laws_heldIntS.f.v_eq]
  have := laws_heldIntS.ok_l n k hn h0 h1 n 0 (by omega)
  simpa using this

theorem laws_markIntS.ok_l : ∀ (d i : Nat) (xs : List Int) (k : Int), i + d = xs.length → xs.length ≤ 1099511627776 → 0 ≤ k → k ≤ 4398046511104 → laws_markIntS.l0.v xs (k + i) i = some (k + (xs.length : Int), xs.take i ++ fromOn (k + i) d) := by
  intro d
  induction d with
  | zero =>
    intro i xs k hd hn h0 h1
    rw [laws_markIntS.l0.v_eq, if_neg (cast_nlt (by omega)), List.take_of_length_le (by omega), show i = xs.length by omega]
    simp [fromOn]
  | succ d ih =>
    intro i xs k hd hn h0 h1
    have h : i < xs.length := by omega
    rw [laws_markIntS.l0.v_eq, if_pos (cast_lt h), if_pos (Int.natCast_nonneg i), succ_wrap h (by omega), toNat_cast, wrap_id (x := k + (i : Int) + 1) (by omega) (by omega), show k + (i : Int) + 1 = k + ((i + 1 : Nat) : Int) by omega, ih (i + 1) _ k (by rw [List.length_set]; omega) (by rw [List.length_set]; omega) h0 h1, List.length_set, fromOn, List.take_succ_eq_append_getElem (by rw [List.length_set]; omega), List.getElem_set_self, List.take_set_of_le (Nat.le_refl i), List.append_assoc, show k + (i : Int) + 1 = k + ((i + 1 : Nat) : Int) by omega]
    rfl
theorem laws_markIntS.ok (xs : List Int) (k : Int) (hn : xs.length ≤ 1099511627776) (h0 : 0 ≤ k) (h1 : k ≤ 4398046511104) : laws_markIntS.f.v xs k = some (k + (xs.length : Int), fromOn k xs.length) := by
  rw [laws_markIntS.f.v_eq]
  have := laws_markIntS.ok_l xs.length 0 xs k (by omega) hn h0 h1
  simpa using this

theorem spec_l1Own.ok (l : List Int) (h : l.length ≤ 1048576) : spec_l1Own.f l = some l := by
  unfold spec_l1Own.f
  rw [Option.bind_some, if_pos (by simp; omega)]; rfl

theorem spec_lsFirst.ok_j (p acc : List Int) (j : Nat) (i : Int) (hj : j + 1 < p.length) (hp : p.length ≤ 1000) (ha : acc.length ≤ 1000) : spec_lsFirst.j2.v p acc (j : Int) i false = spec_lsFirst.l0.v (swp p j (j + 1)) (acc ++ [(j : Int)]) := by
  have e : wrap64 ((j : Int) + 1) = ((j + 1 : Nat) : Int) := succ_wrap (show j < p.length by omega) (by omega)
  rw [spec_lsFirst.j2.v_eq, if_neg (by simp), if_neg (by omega), if_pos (Int.natCast_nonneg _), if_pos (cast_lt (by omega)), e, if_pos (Int.natCast_nonneg _), if_pos (cast_lt hj), if_pos (by omega), toNat_cast, toNat_cast]
  rfl
theorem spec_lsFirst.ok_1 (p acc : List Int) (h1 : 1 ≤ p.length) (hp : p.length ≤ 1000) (ha : acc.length ≤ 1000) : ∀ (d i : Nat), i + 1 + d = p.length → spec_lsFirst.l1.v p acc (-1) (i : Int) = (match descGo p d i with | [] => some acc | a :: _ => spec_lsFirst.l0.v (swp p a.toNat (a.toNat + 1)) (acc ++ [a])) := by
  intro d
  induction d with
  | zero =>
    intro i hd
    rw [spec_lsFirst.l1.v_eq, succ_wrap (show i < p.length by omega) (by omega), if_neg (cast_nlt (by omega)), descGo, spec_lsFirst.j2.v_eq, if_neg (by simp), if_pos (by omega)]
  | succ d ih =>
    intro i hd
    have e : wrap64 ((i : Int) + 1) = ((i + 1 : Nat) : Int) := succ_wrap (show i < p.length by omega) (by omega)
    rw [spec_lsFirst.l1.v_eq, e, if_pos (cast_lt (by omega)), show decide ((-1 : Int) < 0) = true from rfl, spec_lsFirst.j2.v_eq, if_pos rfl, if_pos (Int.natCast_nonneg i), if_pos (cast_lt (by omega)), e, if_pos (Int.natCast_nonneg _), if_pos (cast_lt (by omega)), descGo]
    by_cases c : rd p (i : Int) > rd p ((i : Int) + 1)
    · have c' : rd p (i : Int) > rd p ((i + 1 : Nat) : Int) := c
      rw [if_pos c', if_pos c, spec_lsFirst.l1.v_eq]
      have n0 : decide (((i : Int)) < 0) = false := decide_eq_false (by omega)
      rw [n0, spec_lsFirst.ok_j p acc i _ (by omega) hp ha, ite_self]
      simp only [toNat_cast]
    · have c' : ¬ rd p (i : Int) > rd p ((i + 1 : Nat) : Int) := c
      rw [if_neg c', if_neg c, ih (i + 1) (by omega)]
theorem spec_lsFirst.ok_0 : ∀ (k : Nat) (p acc : List Int), invC p = k → 1 ≤ p.length → p.length ≤ 8 → acc.length + k ≤ 1000 → spec_lsFirst.l0.v p acc = some (acc ++ leastL p) := by
  intro k
  induction k with
  | zero =>
    intro p acc hk h1 h8 ha
    rw [spec_lsFirst.l0.v_eq]
    have s := spec_lsFirst.ok_1 p acc h1 (by omega) (by omega) (p.length - 1) 0 (by omega)
    refine Eq.trans s ?_
    cases e : desc p with
    | nil => unfold desc at e; simp only [e]; rw [leastL_nil (by unfold desc; exact e), List.append_nil]
    | cons a r => obtain ⟨j, _, _, _, hc⟩ := desc_head e; omega
  | succ k ih =>
    intro p acc hk h1 h8 ha
    rw [spec_lsFirst.l0.v_eq]
    have s := spec_lsFirst.ok_1 p acc h1 (by omega) (by omega) (p.length - 1) 0 (by omega)
    refine Eq.trans s ?_
    cases e : desc p with
    | nil => unfold desc at e; simp only [e]; rw [leastL_nil (by unfold desc; exact e), List.append_nil]
    | cons a r =>
      rw [leastL_cons e]
      obtain ⟨j, rfl, hj, hr, hc⟩ := desc_head e
      unfold desc at e
      simp only [e, toNat_cast]
      rw [ih _ _ (by omega) (by rw [swp_length]; omega) (by rw [swp_length]; omega) (by simp; omega), List.append_assoc]
      rfl
theorem spec_lsFirst.ok (p : List Int) (h1 : 1 ≤ p.length) (h8 : p.length ≤ 8) : spec_lsFirst.f.v p = some (leastL p) := by
  have := invC_le p h8
  rw [spec_lsFirst.f.v_eq, spec_l1Own.ok p (by omega), Option.bind_some, spec_lsFirst.ok_0 _ p [] rfl h1 h8 (by simp; omega), List.nil_append]

theorem spec_LongestLadder.ok_l (n : Int) : ∀ (k : Nat) (acc : List Int), acc.length + k ≤ 1000 → spec_LongestLadder.l0.v n acc ((k : Int) - 1) = (spec_lsFirst.f.v (acc ++ (ident k).reverse)).bind fun t => some (n, t, true) := by
  intro k
  induction k with
  | zero =>
    intro acc ha
    rw [spec_LongestLadder.l0.v_eq, if_neg (by omega), show ident 0 = [] from rfl, List.reverse_nil, List.append_nil]
  | succ k ih =>
    intro acc ha
    rw [show ((k + 1 : Nat) : Int) - 1 = (k : Int) by omega, spec_LongestLadder.l0.v_eq, if_pos (by omega), if_pos (by omega), wrap_id (x := (k : Int) - 1) (by omega) (by omega), ih _ (by simp; omega), ident_succ, List.reverse_append, List.append_assoc]
    rfl
theorem spec_LongestLadder.ok (n : Int) : spec_LongestLadder.f.v n = some (if 2 ≤ n ∧ n ≤ 8 then (n, leastL (ident n.toNat).reverse, true) else (0, [], false)) := by
  rw [spec_LongestLadder.f.v_eq]
  unfold spec_l1In.f
  by_cases h0 : 2 ≤ n
  · rw [if_pos h0, Option.bind_some]
    by_cases h1 : n ≤ 8
    · rw [decide_eq_true h1, if_pos rfl, if_pos ⟨h0, h1⟩, wrap_id (x := n - 1) (by omega) (by omega)]
      have e : n - 1 = ((n.toNat : Nat) : Int) - 1 := by omega
      rw [e, spec_LongestLadder.ok_l n n.toNat [] (by simp; omega), List.nil_append, spec_lsFirst.ok _ (by rw [List.length_reverse, ident_length]; omega) (by rw [List.length_reverse, ident_length]; omega)]; rfl
    · rw [decide_eq_false h1, if_neg (by simp), if_neg (fun x => h1 x.2)]
  · rw [if_neg h0, Option.bind_some, if_neg (by simp), if_neg (fun x => h0 x.1)]

theorem FnExactLongestLadder : laws_FnExactLongestLadder.Pure := by
  intro n _
  refine laws_FnExactLongestLadder.f.ends n ?_
  rw [laws_FnExactLongestLadder.f.v_eq]
  obtain ⟨m, r, t, hs, hi, hr⟩ : ∃ m r t, spec_LongestLadder.f.v n = some (m, r, t) ∧ impl_LongestLadder.f.v n = some (m, r, t) ∧ r.length ≤ 1048576 := by
    rw [spec_LongestLadder.ok, impl_LongestLadder.ok]
    split
    · rename_i hh
      exact ⟨_, _, _, rfl, rfl, by have := leastL_length (ident n.toNat).reverse (by rw [List.length_reverse, ident_length]; omega); omega⟩
    · exact ⟨_, _, _, rfl, rfl, by simp⟩
  have n2 : ¬ ((1 : Int) + (r.length : Int) < 0) := by omega
  have e4 := laws_markIntS.ok r 1 (by omega) (by omega) (by omega)
  have e5 := laws_heldIntS.ok r.length 1 (by omega) (by omega) (by omega)
  have e2 := laws_eqLadder.ok m r (by omega)
  simp only [hs, hi, laws_markLadder.f.v_eq, e4, e5, if_neg n2, e2, laws_heldLadder.f.v_eq, laws_FnExactLongestLadder.j0.v_eq, laws_FnExactLongestLadder.j1.v_eq, Option.bind_some, bne_self_eq_false, Bool.false_eq_true, if_false, if_true]

end Go.Proofs.Ytmoobmeihckaiaa.Pure
