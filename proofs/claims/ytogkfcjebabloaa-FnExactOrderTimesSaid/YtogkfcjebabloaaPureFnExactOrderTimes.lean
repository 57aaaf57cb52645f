/- Proved: for every input the law FnExactOrderTimes returns true (its plain statement, over numbers and lists). No condition. -/
import Derived.Test.YtogkfcjebabloaaPAllx15
import Derived.Test.YtogkfcjebabloaaVAllx1
import Derived.Test.YtogkfcjebabloaaVAllx14
import Derived.Test.YtogkfcjebabloaaVAllx15
import Derived.Test.YtogkfcjebabloaaVAllx2
import Derived.Test.YtogkfcjebabloaaVAllx3
import Derived.Test.YtogkfcjebabloaaVAllx5
import Derived.Test.YtogkfcjebabloaaVAllx9
import Derived.Test.YtogkfcjebabloaaCycles
import Derived.Test.YtogkfcjebabloaaOrders
import Derived.Test.YtogkfcjebabloaaPlain
import Derived.Test.YtogkfcjebabloaaPowers
namespace Go.Proofs.Ytogkfcjebabloaa.Pure
open Go.RowKit Go.Proofs.Ytogkfcjebabloaa.PAll Go.Proofs.YtogkfcjebabloaaW.PrintWords Go.Proofs.YtogkfcjebabloaaW.PrintLast Go.Proofs.YtogkfcjebabloaaW.PrintMore Go.Proofs.YtogkfcjebabloaaL
set_option linter.unusedVariables false
set_option linter.unusedSimpArgs false

theorem impl_identity.ok_l (n : Nat) (hn : n ≤ 1000) : ∀ (d i : Nat) (acc : List Int), i + d = n → acc.length ≤ i → impl_identity.l0.v acc n i = some (acc ++ upFrom d i) := by
  intro d
  induction d with
  | zero =>
    intro i acc hd ha
    rw [impl_identity.l0.v_eq, if_neg (cast_nlt (by omega)), upFrom, List.append_nil]
  | succ d ih =>
    intro i acc hd ha
    have h : i < n := by omega
    rw [impl_identity.l0.v_eq, if_pos (cast_lt h), if_pos (by omega), succ_wrap h (by omega), ih (i + 1) _ (by omega) (by simp; omega), upFrom, List.append_assoc]; rfl
theorem impl_identity.ok (n : Nat) (hn : n ≤ 1000) : impl_identity.f.v n = some (ident n) := by
  rw [impl_identity.f.v_eq]
  have := impl_identity.ok_l n hn n 0 [] (by omega) (by simp)
  simpa [ident] using this

theorem slices_Index_int_int.ok_l (v : Int) (xs : List Int) (hn : xs.length ≤ 140737488355328) : ∀ (d i : Nat), xs.length - i = d → ∃ r, slices_Index_int_int.l0.v xs v xs.length i = some r ∧ decide (r ≥ 0) = decide (v ∈ xs.drop i) := by
  intro d
  induction d with
  | zero =>
    intro i hd
    refine ⟨-1, ?_, ?_⟩
    · rw [slices_Index_int_int.l0.v_eq, if_neg (cast_nlt (by omega))]
    · rw [List.drop_eq_nil_of_le (by omega)]; simp
  | succ d ih =>
    intro i hd
    have h : i < xs.length := by omega
    obtain ⟨r, hr, hr'⟩ := ih (i + 1) (by omega)
    rw [slices_Index_int_int.l0.v_eq, if_pos (cast_lt h), if_pos (Int.natCast_nonneg i), if_pos (cast_lt h), succ_wrap h hn, hr, drop_rd xs i h]
    by_cases e : v = rd xs (i : Int)
    · rw [if_pos e]; exact ⟨i, rfl, by simp [e, Int.natCast_nonneg]⟩
    · rw [if_neg e]; exact ⟨r, rfl, by rw [hr']; simp [e]⟩

theorem slices_Contains_int_int.ok (v : Int) (xs : List Int) (hn : xs.length ≤ 140737488355328) : slices_Contains_int_int.f.v xs v = some (decide (v ∈ xs)) := by
  obtain ⟨r, hr, hr'⟩ := slices_Index_int_int.ok_l v xs hn xs.length 0 (by omega)
  have e : slices_Index_int_int.f.v xs v = some r := by rw [slices_Index_int_int.f.v_eq]; exact hr
  rw [slices_Contains_int_int.f.v_eq, e, Option.bind_some, hr', List.drop_zero]

theorem impl_isOrder.ok_l (p : List Int) (hn : p.length ≤ 8) : ∀ (d i : Nat), p.length - i = d → impl_isOrder.l0.v p p p.length i = some (ordGo p.length (p.take i) (p.drop i)) := by
  intro d
  induction d with
  | zero =>
    intro i hd
    rw [impl_isOrder.l0.v_eq, if_neg (cast_nlt (by omega)), List.drop_eq_nil_of_le (by omega)]
    rfl
  | succ d ih =>
    intro i hd
    have h : i < p.length := by omega
    rw [impl_isOrder.l0.v_eq, if_pos (cast_lt h), if_pos (Int.natCast_nonneg i), if_pos (cast_lt h), succ_wrap h (by omega), ih (i + 1) (by omega), drop_rd p i h, take_rd p i h]
    rw [wrap_id (x := (p.length : Int) - 1) (by omega) (by omega), toNat_cast, slices_Contains_int_int.ok _ _ (by rw [List.length_take]; omega)]
    unfold impl_between.f
    rw [ordGo_cons]
    by_cases a : 0 ≤ rd p (i : Int)
    · by_cases b : rd p (i : Int) ≤ (p.length : Int) - 1
      · have hi : (i : Int) ≤ (p.length : Int) := by omega
        by_cases c : rd p (i : Int) ∈ p.take i
        · simp only [ge_iff_le, a, b, c, hi, decide_true, decide_false, if_true, if_false, Option.bind_some, true_and, and_true, and_self, Bool.false_eq_true]
        · simp only [ge_iff_le, a, b, c, hi, decide_true, decide_false, if_true, if_false, Option.bind_some, true_and, and_true, and_self, Bool.false_eq_true]
      · simp [a, b]
    · simp [a]
theorem impl_isOrder.ok (p : List Int) : impl_isOrder.f.v p = some (isOrd p) := by
  rw [impl_isOrder.f.v_eq]
  unfold impl_between.f isOrd
  by_cases h : 1 ≤ p.length ∧ p.length ≤ 8
  · have := impl_isOrder.ok_l p h.2 p.length 0 (by omega)
    have h1 : (p.length : Int) ≥ 1 := by omega
    have h2 : (p.length : Int) ≤ 8 := by omega
    rw [if_pos h1, if_pos h, decide_eq_true h2]
    simpa using this
  · rw [if_neg h]
    by_cases h1 : (p.length : Int) ≥ 1
    · have h2 : ¬ (p.length : Int) ≤ 8 := by omega
      rw [if_pos h1, decide_eq_false h2]; rfl
    · rw [if_neg h1]; rfl

theorem impl_then.ok_l (p q : List Int) (hp : p.length ≤ 8) (hb : ∀ x ∈ p, 0 ≤ x ∧ x < q.length) : ∀ (d i : Nat) (acc : List Int), i + d = p.length → acc.length ≤ i → impl_then.l0.v q acc p p.length i = some (acc ++ (p.drop i).map fun x => rd q x) := by
  intro d
  induction d with
  | zero =>
    intro i acc hd ha
    rw [impl_then.l0.v_eq, if_neg (cast_nlt (by omega)), List.drop_eq_nil_of_le (by omega), List.map_nil, List.append_nil]
  | succ d ih =>
    intro i acc hd ha
    have h : i < p.length := by omega
    obtain ⟨h1, h2⟩ := hb _ (rd_mem p i h)
    rw [impl_then.l0.v_eq, if_pos (cast_lt h), if_pos (Int.natCast_nonneg i), if_pos (cast_lt h), if_pos h1, if_pos h2, if_pos (by omega), succ_wrap h (by omega), ih (i + 1) _ (by omega) (by simp; omega), drop_rd p i h, List.map_cons, List.append_assoc]
    rfl
theorem impl_then.ok (p q : List Int) (hp : p.length ≤ 8) (hb : ∀ x ∈ p, 0 ≤ x ∧ x < q.length) : impl_then.f.v p q = some (thenL p q) := by
  rw [impl_then.f.v_eq]
  have := impl_then.ok_l p q hp hb p.length 0 [] (by omega) (by simp)
  simpa [thenL] using this

theorem slices_Equal_int_int.ok_l (a b : List Int) (hab : a.length = b.length) (ha : a.length ≤ 1000) : ∀ (d i : Nat), i + d = a.length → slices_Equal_int_int.l0.v a b a.length i = some (decide (a.drop i = b.drop i)) := by
  intro d
  induction d with
  | zero =>
    intro i hd
    rw [slices_Equal_int_int.l0.v_eq, if_neg (cast_nlt (by omega)), List.drop_eq_nil_of_le (by omega), List.drop_eq_nil_of_le (by omega)]; rfl
  | succ d ih =>
    intro i hd
    have h : i < a.length := by omega
    rw [slices_Equal_int_int.l0.v_eq, if_pos (cast_lt h), if_pos (Int.natCast_nonneg i), if_pos (cast_lt h), if_pos (cast_lt (by omega)), succ_wrap h (by omega), ih (i + 1) (by omega), drop_rd a i h, drop_rd b i (by omega)]
    by_cases e : rd a (i : Int) = rd b (i : Int)
    · rw [if_pos e, e]
      congr 1
      rw [decide_eq_decide, List.cons.injEq]
      exact ⟨fun x => ⟨rfl, x⟩, fun x => x.2⟩
    · rw [if_neg e, decide_eq_false (fun x => e (List.cons.inj x).1)]
theorem slices_Equal_int_int.ok (a b : List Int) (hab : a.length = b.length) (ha : a.length ≤ 1000) : slices_Equal_int_int.f.v a b = some (decide (a = b)) := by
  rw [slices_Equal_int_int.f.v_eq, if_pos (by omega)]
  have := slices_Equal_int_int.ok_l a b hab ha a.length 0 (by omega)
  simpa using this

theorem impl_OrderTimes.ok_l (p : List Int) (h : isOrd p = true) (C : List (List Int)) (hd : IsDec p C) (L : Nat) (hL : L = lc 1 C) (h9 : L ≤ 1000000000) : ∀ (d t : Nat), t + 1 + d = L → impl_OrderTimes.l0.v p ((t + 1 : Nat) : Int) (pw p t) = some ((L : Int), true) := by
  have h8 := (isOrd_len h).2
  intro d
  induction d with
  | zero =>
    intro t ht
    have e : pw p t = ident p.length := (pw_ident hd t).2 (fun c hc => Nat.mod_eq_zero_of_dvd (by rw [show t + 1 = L by omega, hL]; exact lc_dvd C 1 c hc))
    rw [impl_OrderTimes.l0.v_eq, impl_identity.ok p.length (by omega), Option.bind_some, slices_Equal_int_int.ok _ _ (by rw [pw_length, ident_length]) (by rw [pw_length]; omega), Option.bind_some, decide_eq_true e, if_pos rfl, show t + 1 = L by omega]
  | succ d ih =>
    intro t ht
    have e : ¬ pw p t = ident p.length := fun e => by
      have h1 := (pw_ident hd t).1 e
      have h2 := lc_least C 1 (t + 1) (Nat.one_dvd _) (fun c hc => Nat.dvd_of_mod_eq_zero (h1 c hc))
      have := Nat.le_of_dvd (by omega) h2
      omega
    rw [impl_OrderTimes.l0.v_eq, impl_identity.ok p.length (by omega), Option.bind_some, slices_Equal_int_int.ok _ _ (by rw [pw_length, ident_length]) (by rw [pw_length]; omega), Option.bind_some, decide_eq_false e, if_neg (by simp), impl_then.ok _ _ (by rw [pw_length]; omega) (pw_all p (isOrd_all h).1 t), Option.bind_some, succ_wrap (show t + 1 < L by omega) (by omega)]
    exact ih (t + 1) (by omega)
theorem impl_OrderTimes.yes (p : List Int) (h : isOrd p = true) (C : List (List Int)) (hC : cyclesM p = some C) (hd : IsDec p C) : impl_OrderTimes.f.v p = some (((lc 1 C : Nat) : Int), true) := by
  have hl := cyclesM_length hC
  have h8 := (isOrd_len h).2
  have b1 := lc_le C 1 hl.2
  have b2 : 9 ^ C.length ≤ 9 ^ 8 := Nat.pow_le_pow_right (by omega) (by omega)
  have b3 := lc_pos C 1 (by omega) (pos_len hd)
  rw [impl_OrderTimes.f.v_eq, impl_isOrder.ok, Option.bind_some, if_pos h]
  exact impl_OrderTimes.ok_l p h C hd (lc 1 C) rfl (by omega) (lc 1 C - 1) 0 (by omega)
theorem impl_OrderTimes.no (p : List Int) (h : ¬ isOrd p = true) : impl_OrderTimes.f.v p = some (0, false) := by
  rw [impl_OrderTimes.f.v_eq, impl_isOrder.ok, Option.bind_some, if_neg h]

theorem laws_eqIntS.ok_l (xs : List Int) (hn : xs.length ≤ 140737488355328) : ∀ (d i : Nat), xs.length - i = d → laws_eqIntS.l0.v xs xs i = some true := by
  intro d
  induction d with
  | zero =>
    intro i hd
    rw [laws_eqIntS.l0.v_eq, if_neg (cast_nlt (by omega))]
  | succ d ih =>
    intro i hd
    have h : i < xs.length := by omega
    rw [laws_eqIntS.l0.v_eq, if_pos (cast_lt h), if_pos (Int.natCast_nonneg i), if_pos (cast_lt h), if_pos rfl, succ_wrap h hn]
    exact ih (i + 1) (by omega)
theorem laws_eqIntS.ok (xs : List Int) (hn : xs.length ≤ 140737488355328) : laws_eqIntS.f.v xs xs = some true := by
  rw [laws_eqIntS.f.v_eq, if_pos rfl]
  exact laws_eqIntS.ok_l xs hn xs.length 0 (by omega)

theorem laws_toIntS.ok_l (xs : List Int) (hn : xs.length ≤ 140737488355328) : ∀ (d i : Nat) (ys : List Int), xs.length - i = d → ys.length = xs.length → ys.take i = xs.take i → laws_toIntS.l0.v xs ys i = some xs := by
  intro d
  induction d with
  | zero =>
    intro i ys hd hl ht
    rw [laws_toIntS.l0.v_eq, if_neg (cast_nlt (by omega))]
    rw [List.take_of_length_le (by omega), List.take_of_length_le (by omega)] at ht
    rw [ht]
  | succ d ih =>
    intro i ys hd hl ht
    have h : i < xs.length := by omega
    rw [laws_toIntS.l0.v_eq, if_pos (cast_lt h), if_pos (Int.natCast_nonneg i), if_pos (cast_lt (by omega)), succ_wrap h hn, toNat_cast]
    refine ih (i + 1) _ (by omega) (by rw [List.length_set]; exact hl) ?_
    rw [take_rd xs i h, ← ht, rd_lt xs i h, List.take_succ_eq_append_getElem (by rw [List.length_set]; omega), List.getElem_set_self, List.take_set_of_le (Nat.le_refl i)]
theorem laws_toIntS.ok (xs : List Int) (hn : xs.length ≤ 1048576) : laws_toIntS.f.v xs = some xs := by
  rw [laws_toIntS.f.v_eq, if_pos (Int.natCast_nonneg _), toNat_cast, if_pos (by omega)]
  exact laws_toIntS.ok_l xs (by omega) xs.length 0 _ (by omega) (by simp) (by simp)

theorem spec_laCommon.ok_l : ∀ (k b a : Nat), b ≤ k → spec_laCommon.l0.v a b = some ((Nat.gcd a b : Nat) : Int) := by
  intro k
  induction k with
  | zero =>
    intro b a h
    obtain rfl : b = 0 := by omega
    rw [spec_laCommon.l0.v_eq, if_neg (by simp), Nat.gcd_zero_right]
  | succ k ih =>
    intro b a h
    by_cases hb : b = 0
    · subst hb
      rw [spec_laCommon.l0.v_eq, if_neg (by simp), Nat.gcd_zero_right]
    · have := Nat.mod_lt a (show b > 0 by omega)
      rw [spec_laCommon.l0.v_eq, if_pos (by omega), if_neg (by omega), ← Int.ofNat_tmod, ih _ b (by omega), Nat.gcd_comm a b, Nat.gcd_rec b a, Nat.gcd_comm]
theorem spec_laCommon.ok (a b : Nat) : spec_laCommon.f.v a b = some ((Nat.gcd a b : Nat) : Int) := by
  rw [spec_laCommon.f.v_eq, spec_laCommon.ok_l b b a (Nat.le_refl b)]

theorem spec_laCycles.ok_1 (p : List Int) (hb : ∀ x ∈ p, 0 ≤ x ∧ x < p.length) (C : List (List Int)) (hC : C.length ≤ 100) (m i : Int) : ∀ (f : Nat) (seen : List Bool) (acc : List Int) (j : Int) (s : List Bool) (c : List Int), walkM p f seen acc j = some (s, c) → seen.length = p.length → 0 ≤ j → j < p.length → acc.length + f ≤ 100 → spec_laCycles.l1.v p C seen acc j m i = spec_laCycles.l0.v p (if c.length > 0 then C ++ [c] else C) s m (wrap64 (i + 1)) := by
  intro f
  induction f with
  | zero => intro seen acc j s c h; cases h
  | succ f ih =>
    intro seen acc j s c h hs h0 h1 ha
    rw [walkM] at h
    rw [spec_laCycles.l1.v_eq, if_pos h0, if_pos (by omega)]
    by_cases e : rdOf false seen j = true
    · rw [if_pos e] at h
      cases h
      rw [if_pos e]
      by_cases l : acc.length > 0
      · rw [if_pos (by omega), if_pos (by omega), if_pos l]
      · rw [if_neg (by omega), if_neg l]
    · rw [if_neg e] at h
      have hj := rd_mem p j.toNat (by omega)
      rw [Int.toNat_of_nonneg h0] at hj
      rw [if_neg e, if_pos (by omega), if_pos h1]
      exact ih _ _ _ s c h (by simp [hs]) (hb _ hj).1 (hb _ hj).2 (by simp; omega)
theorem spec_laCycles.ok_0 (p : List Int) (hb : ∀ x ∈ p, 0 ≤ x ∧ x < p.length) (h8 : p.length ≤ 8) : ∀ (d i : Nat) (seen : List Bool) (C R : List (List Int)), cycM p d i seen C = some R → i + d = p.length → seen.length = p.length → C.length ≤ i → spec_laCycles.l0.v p C seen p.length i = some R := by
  intro d
  induction d with
  | zero =>
    intro i seen C R h hd hs hC
    cases h
    rw [spec_laCycles.l0.v_eq, if_neg (cast_nlt (by omega))]
  | succ d ih =>
    intro i seen C R h hd hs hC
    have hi : i < p.length := by omega
    rw [cycM] at h
    split at h
    · cases h
    · rename_i s c hw
      have hl := (walkM_length p 9 seen [] _ s c hw).1
      rw [spec_laCycles.l0.v_eq, if_pos (cast_lt hi), spec_laCycles.ok_1 p hb C (by omega) _ _ 9 seen [] i s c hw hs (Int.natCast_nonneg i) (cast_lt hi) (by simp), succ_wrap hi (by omega)]
      exact ih (i + 1) s _ R h (by omega) (by omega) (by split <;> (try simp) <;> omega)
theorem spec_laCycles.ok (p : List Int) (h : isOrd p = true) : spec_laCycles.f.v p = cyclesM p := by
  obtain ⟨C, hC, _⟩ := cyclesM_ok p h
  rw [hC]
  rw [spec_laCycles.f.v_eq, if_pos (Int.natCast_nonneg _), toNat_cast, if_pos (by have := isOrd_len h; omega)]
  exact spec_laCycles.ok_0 p (isOrd_all h).1 (isOrd_len h).2 p.length 0 _ [] C hC (by omega) (by simp) (by simp)

theorem spec_l1Has.ok_l (v : Int) (xs : List Int) (hn : xs.length ≤ 140737488355328) : ∀ (d i : Nat), xs.length - i = d → spec_l1Has.l0.v v xs xs.length i = some (decide (v ∈ xs.drop i)) := by
  intro d
  induction d with
  | zero =>
    intro i hd
    rw [spec_l1Has.l0.v_eq, if_neg (cast_nlt (by omega)), List.drop_eq_nil_of_le (by omega)]
    simp
  | succ d ih =>
    intro i hd
    have h : i < xs.length := by omega
    rw [spec_l1Has.l0.v_eq, if_pos (cast_lt h), if_pos (Int.natCast_nonneg i), if_pos (cast_lt h), succ_wrap h hn, ih (i + 1) (by omega), drop_rd xs i h]
    by_cases e : rd xs (i : Int) = v
    · rw [if_pos e]; simp [e]
    · have e' : ¬ v = rd xs (i : Int) := fun h => e h.symm
      rw [if_neg e]; simp [e']
theorem spec_l1Has.ok (v : Int) (xs : List Int) (hn : xs.length ≤ 140737488355328) : spec_l1Has.f.v xs v = some (decide (v ∈ xs)) := by
  rw [spec_l1Has.f.v_eq]
  have := spec_l1Has.ok_l v xs hn xs.length 0 (by omega)
  simpa using this

theorem spec_laOrder.ok_l (p : List Int) (hn : p.length ≤ 8) : ∀ (d i : Nat), p.length - i = d → spec_laOrder.l0.v p p p.length i = some (ordGo p.length (p.take i) (p.drop i)) := by
  intro d
  induction d with
  | zero =>
    intro i hd
    rw [spec_laOrder.l0.v_eq, if_neg (cast_nlt (by omega)), List.drop_eq_nil_of_le (by omega)]
    rfl
  | succ d ih =>
    intro i hd
    have h : i < p.length := by omega
    rw [spec_laOrder.l0.v_eq, if_pos (cast_lt h), if_pos (Int.natCast_nonneg i), if_pos (cast_lt h), succ_wrap h (by omega), ih (i + 1) (by omega), drop_rd p i h, take_rd p i h]
    rw [wrap_id (x := (p.length : Int) - 1) (by omega) (by omega), toNat_cast, spec_l1Has.ok _ _ (by rw [List.length_take]; omega)]
    unfold spec_l1In.f
    rw [ordGo_cons]
    by_cases a : 0 ≤ rd p (i : Int)
    · by_cases b : rd p (i : Int) ≤ (p.length : Int) - 1
      · have hi : (i : Int) ≤ (p.length : Int) := by omega
        by_cases c : rd p (i : Int) ∈ p.take i
        · simp only [ge_iff_le, a, b, c, hi, decide_true, decide_false, if_true, if_false, Option.bind_some, true_and, and_true, and_self, Bool.false_eq_true]
        · simp only [ge_iff_le, a, b, c, hi, decide_true, decide_false, if_true, if_false, Option.bind_some, true_and, and_true, and_self, Bool.false_eq_true]
      · simp [a, b]
    · simp [a]
theorem spec_laOrder.ok (p : List Int) : spec_laOrder.f.v p = some (isOrd p) := by
  rw [spec_laOrder.f.v_eq]
  unfold spec_l1In.f isOrd
  by_cases h : 1 ≤ p.length ∧ p.length ≤ 8
  · have := spec_laOrder.ok_l p h.2 p.length 0 (by omega)
    have h1 : (p.length : Int) ≥ 1 := by omega
    have h2 : (p.length : Int) ≤ 8 := by omega
    rw [if_pos h1, if_pos h, decide_eq_true h2]
    simpa using this
  · rw [if_neg h]
    by_cases h1 : (p.length : Int) ≥ 1
    · have h2 : ¬ (p.length : Int) ≤ 8 := by omega
      rw [if_pos h1, decide_eq_false h2]; rfl
    · rw [if_neg h1]; rfl

theorem spec_OrderTimes.ok_l (C : List (List Int)) (hC : C.length ≤ 8) (h9 : ∀ c ∈ C, c.length ≤ 9) (h0 : ∀ c ∈ C, 0 < c.length) : ∀ (d i a : Nat), i + d = C.length → 0 < a → a ≤ 9 ^ i → spec_OrderTimes.l0.v a C C.length i = some (((lc a (C.drop i) : Nat) : Int), true) := by
  intro d
  induction d with
  | zero =>
    intro i a hd ha h
    rw [spec_OrderTimes.l0.v_eq, if_neg (cast_nlt (by omega)), List.drop_eq_nil_of_le (by omega)]; rfl
  | succ d ih =>
    intro i a hd ha h
    have hi : i < C.length := by omega
    have e : rd_L1 C (i : Int) = C[i] := by
      unfold rd_L1
      rw [toNat_cast, List.getD_eq_getElem?_getD, List.getElem?_eq_getElem hi]; rfl
    have m0 := h0 _ (List.getElem_mem hi)
    have m9 := h9 _ (List.getElem_mem hi)
    have p8 : 9 ^ i ≤ 9 ^ 8 := Nat.pow_le_pow_right (by omega) (by omega)
    have g0 : 0 < Nat.gcd a C[i].length := Nat.gcd_pos_of_pos_left _ ha
    have l9 : Nat.lcm a C[i].length ≤ 9 ^ (i + 1) := by
      refine Nat.le_trans (lcm_le _ _) ?_
      rw [Nat.pow_succ]
      exact Nat.mul_le_mul h m9
    have q8 : 9 ^ (i + 1) ≤ 9 ^ 9 := Nat.pow_le_pow_right (by omega) (by omega)
    have e1 : (a / Nat.gcd a C[i].length) * C[i].length = Nat.lcm a C[i].length := by
      unfold Nat.lcm
      rw [Nat.mul_comm, Nat.mul_comm a, Nat.mul_div_assoc _ (Nat.gcd_dvd_left a _)]
    have d1 : a / Nat.gcd a C[i].length ≤ a := Nat.div_le_self _ _
    obtain ⟨q, hq⟩ : ∃ q : Nat, q = a / Nat.gcd a C[i].length := ⟨_, rfl⟩
    rw [← hq] at e1 d1
    have e2 : (q : Int) * ((C[i].length : Nat) : Int) = ((Nat.lcm a C[i].length : Nat) : Int) := by
      rw [← e1]; exact (Int.natCast_mul _ _).symm
    rw [spec_OrderTimes.l0.v_eq, if_pos (cast_lt hi), if_pos (Int.natCast_nonneg i), if_pos (cast_lt hi), e, spec_laCommon.ok, Option.bind_some, if_neg (by omega), ← Int.ofNat_tdiv, ← hq, wrap_id (x := (q : Int)) (by omega) (by omega), e2, wrap_id (x := ((Nat.lcm a C[i].length : Nat) : Int)) (by omega) (by omega), succ_wrap hi (by omega), ih (i + 1) _ (by omega) (Nat.lcm_pos ha m0) l9, List.drop_eq_getElem_cons hi, lc]
theorem spec_OrderTimes.yes (p : List Int) (h : isOrd p = true) (C : List (List Int)) (hC : cyclesM p = some C) (hd : IsDec p C) : spec_OrderTimes.f.v p = some (((lc 1 C : Nat) : Int), true) := by
  have hl := cyclesM_length hC
  have h8 := (isOrd_len h).2
  rw [spec_OrderTimes.f.v_eq, spec_laOrder.ok, Option.bind_some, if_pos h, spec_laCycles.ok p h, hC, Option.bind_some]
  have := spec_OrderTimes.ok_l C (by omega) hl.2 (pos_len hd) C.length 0 1 (by omega) (by omega) (by omega)
  simpa using this
theorem spec_OrderTimes.no (p : List Int) (h : ¬ isOrd p = true) : spec_OrderTimes.f.v p = some (0, false) := by
  rw [spec_OrderTimes.f.v_eq, spec_laOrder.ok, Option.bind_some, if_neg h]

theorem FnExactOrderTimes : laws_FnExactOrderTimes.Pure := by
  intro l _ _ _
  refine laws_FnExactOrderTimes.f.ends l ?_
  rw [laws_FnExactOrderTimes.f.v_eq]
  by_cases h : (l.length : Int) > 1048576
  · rw [if_pos h]
  · have hl : l.length ≤ 1048576 := by omega
    rw [if_neg h]
    obtain ⟨r, b, hs, hi⟩ : ∃ r b, spec_OrderTimes.f.v l = some (r, b) ∧ impl_OrderTimes.f.v l = some (r, b) := by
      by_cases ho : isOrd l = true
      · obtain ⟨C, hC, hd⟩ := cyclesM_ok l ho
        exact ⟨_, _, spec_OrderTimes.yes l ho C hC hd, impl_OrderTimes.yes l ho C hC hd⟩
      · exact ⟨_, _, spec_OrderTimes.no l ho, impl_OrderTimes.no l ho⟩
    simp only [laws_toIntS.ok l hl, hs, hi, laws_eqIntS.ok l (by omega), laws_FnExactOrderTimes.j0.v_eq, Option.bind_some, bne_self_eq_false, Bool.false_eq_true, if_false, if_true]

end Go.Proofs.Ytogkfcjebabloaa.Pure
