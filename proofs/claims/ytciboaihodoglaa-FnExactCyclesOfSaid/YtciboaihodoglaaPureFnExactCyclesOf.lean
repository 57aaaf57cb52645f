/- Proved: for every input the law FnExactCyclesOf returns true (its plain statement, over numbers and lists). No condition. -/
import Derived.Test.YtciboaihodoglaaPAllx8
import Derived.Test.YtciboaihodoglaaVAllx1
import Derived.Test.YtciboaihodoglaaVAllx2
import Derived.Test.YtciboaihodoglaaVAllx3
import Derived.Test.YtciboaihodoglaaVAllx4
import Derived.Test.YtciboaihodoglaaVAllx5
import Derived.Test.YtciboaihodoglaaVAllx6
import Derived.Test.YtciboaihodoglaaVAllx7
import Derived.Test.YtciboaihodoglaaVAllx8
import Derived.Test.YtciboaihodoglaaCycles
import Derived.Test.YtciboaihodoglaaMarks
import Derived.Test.YtciboaihodoglaaPlain
namespace Go.Proofs.Ytciboaihodoglaa.Pure
open Go.RowKit Go.Proofs.Ytciboaihodoglaa.PAll Go.Proofs.YtciboaihodoglaaW.PrintWords Go.Proofs.YtciboaihodoglaaW.PrintLast Go.Proofs.YtciboaihodoglaaW.PrintMore Go.Proofs.YtciboaihodoglaaL
set_option linter.unusedVariables false
set_option linter.unusedSimpArgs false

theorem slices_Index_int_int.ok_l (v : Int) (xs : List Int) (hn : xs.length ≤ 140737488355328) : ∀ (d i : Nat), xs.length - i = d → ∃ r, slices_Index_int_int.l0.v xs v xs.length i = some r ∧ decide (r ≥ 0) = decide (v ∈ xs.drop i) := by
  intro d
  induction d with
  | zero =>
    intro i hd
    refine ⟨-1, ?_, ?_⟩
    · rw [slices_Index_int_int.l0.v_eq, if_neg (cast_nlt (by omega))]
    · rw [List.drop_eq_nil_of_le (by omega)]; simp
  | succ d ih =>
    intro i hd
    have h : i < xs.length := by omega
    obtain ⟨r, hr, hr'⟩ := ih (i + 1) (by omega)
    rw [slices_Index_int_int.l0.v_eq, if_pos (cast_lt h), if_pos (Int.natCast_nonneg i), if_pos (cast_lt h), succ_wrap h hn, hr, drop_rd xs i h]
    by_cases e : v = rd xs (i : Int)
    · rw [if_pos e]; exact ⟨i, rfl, by simp [e, Int.natCast_nonneg]⟩
    · rw [if_neg e]; exact ⟨r, rfl, by rw [hr']; simp [e]⟩

theorem slices_Contains_int_int.ok (v : Int) (xs : List Int) (hn : xs.length ≤ 140737488355328) : slices_Contains_int_int.f.v xs v = some (decide (v ∈ xs)) := by
  obtain ⟨r, hr, hr'⟩ := slices_Index_int_int.ok_l v xs hn xs.length 0 (by omega)
  have e : slices_Index_int_int.f.v xs v = some r := by rw [slices_Index_int_int.f.v_eq]; exact hr
  rw [slices_Contains_int_int.f.v_eq, e, Option.bind_some, hr', List.drop_zero]

theorem impl_isOrder.ok_l (p : List Int) (hn : p.length ≤ 8) : ∀ (d i : Nat), p.length - i = d → impl_isOrder.l0.v p p p.length i = some (ordGo p.length (p.take i) (p.drop i)) := by
  intro d
  induction d with
  | zero =>
    intro i hd
    rw [impl_isOrder.l0.v_eq, if_neg (cast_nlt (by omega)), List.drop_eq_nil_of_le (by omega)]
    rfl
  | succ d ih =>
    intro i hd
    have h : i < p.length := by omega
    rw [impl_isOrder.l0.v_eq, if_pos (cast_lt h), if_pos (Int.natCast_nonneg i), if_pos (cast_lt h), succ_wrap h (by omega), ih (i + 1) (by omega), drop_rd p i h, take_rd p i h]
    rw [wrap_id (x := (p.length : Int) - 1) (by omega) (by omega), toNat_cast, slices_Contains_int_int.ok _ _ (by rw [List.length_take]; omega)]
    unfold impl_between.f
    rw [ordGo_cons]
    by_cases a : 0 ≤ rd p (i : Int)
    · by_cases b : rd p (i : Int) ≤ (p.length : Int) - 1
      · have hi : (i : Int) ≤ (p.length : Int) := by omega
        by_cases c : rd p (i : Int) ∈ p.take i
        · simp only [ge_iff_le, a, b, c, hi, decide_true, decide_false, if_true, if_false, Option.bind_some, true_and, and_true, and_self, Bool.false_eq_true]
        · simp only [ge_iff_le, a, b, c, hi, decide_true, decide_false, if_true, if_false, Option.bind_some, true_and, and_true, and_self, Bool.false_eq_true]
      · simp [a, b]
    · simp [a]
theorem impl_isOrder.ok (p : List Int) : impl_isOrder.f.v p = some (isOrd p) := by
  rw [impl_isOrder.f.v_eq]
  unfold impl_between.f isOrd
  by_cases h : 1 ≤ p.length ∧ p.length ≤ 8
  · have := impl_isOrder.ok_l p h.2 p.length 0 (by omega)
    have h1 : (p.length : Int) ≥ 1 := by omega
    have h2 : (p.length : Int) ≤ 8 := by omega
    rw [if_pos h1, if_pos h, decide_eq_true h2]
    simpa using this
  · rw [if_neg h]
    by_cases h1 : (p.length : Int) ≥ 1
    · have h2 : ¬ (p.length : Int) ≤ 8 := by omega
      rw [if_pos h1, decide_eq_false h2]; rfl
    · rw [if_neg h1]; rfl

theorem impl_CyclesOf.ok_1 (p : List Int) (hb : ∀ x ∈ p, 0 ≤ x ∧ x < p.length) (C : List (List Int)) (hC : C.length ≤ 100) (m i : Int) : ∀ (f : Nat) (seen : List Bool) (acc : List Int) (j : Int) (s : List Bool) (c : List Int), walkM p f seen acc j = some (s, c) → seen.length = p.length → 0 ≤ j → j < p.length → acc.length + f ≤ 100 → impl_CyclesOf.l1.v p C seen acc j m i = impl_CyclesOf.l0.v p (if c.length > 0 then C ++ [c] else C) s m (wrap64 (i + 1)) := by
  intro f
  induction f with
  | zero => intro seen acc j s c h; cases h
  | succ f ih =>
    intro seen acc j s c h hs h0 h1 ha
    rw [walkM] at h
    rw [impl_CyclesOf.l1.v_eq, if_pos h0, if_pos (by omega)]
    by_cases e : rdOf false seen j = true
    · rw [if_pos e] at h
      cases h
      rw [if_pos e]
      by_cases l : acc.length > 0
      · rw [if_pos (by omega), if_pos (by omega), if_pos l]
      · rw [if_neg (by omega), if_neg l]
    · rw [if_neg e] at h
      have hj := rd_mem p j.toNat (by omega)
      rw [Int.toNat_of_nonneg h0] at hj
      rw [if_neg e, if_pos (by omega), if_pos h1]
      exact ih _ _ _ s c h (by simp [hs]) (hb _ hj).1 (hb _ hj).2 (by simp; omega)
theorem impl_CyclesOf.ok_0 (p : List Int) (hb : ∀ x ∈ p, 0 ≤ x ∧ x < p.length) (h8 : p.length ≤ 8) : ∀ (d i : Nat) (seen : List Bool) (C R : List (List Int)), cycM p d i seen C = some R → i + d = p.length → seen.length = p.length → C.length ≤ i → impl_CyclesOf.l0.v p C seen p.length i = some (R, true) := by
  intro d
  induction d with
  | zero =>
    intro i seen C R h hd hs hC
    cases h
    rw [impl_CyclesOf.l0.v_eq, if_neg (cast_nlt (by omega))]
  | succ d ih =>
    intro i seen C R h hd hs hC
    have hi : i < p.length := by omega
    rw [cycM] at h
    split at h
    · cases h
    · rename_i s c hw
      have hl := (walkM_length p 9 seen [] _ s c hw).1
      rw [impl_CyclesOf.l0.v_eq, if_pos (cast_lt hi), impl_CyclesOf.ok_1 p hb C (by omega) _ _ 9 seen [] i s c hw hs (Int.natCast_nonneg i) (cast_lt hi) (by simp), succ_wrap hi (by omega)]
      exact ih (i + 1) s _ R h (by omega) (by omega) (by split <;> (try simp) <;> omega)
theorem impl_CyclesOf.ok (p : List Int) : impl_CyclesOf.f.v p = if isOrd p = true then some ((cyclesM p).getD [], true) else some ([], false) := by
  rw [impl_CyclesOf.f.v_eq, impl_isOrder.ok]
  simp only [Option.bind_some]
  split
  · rename_i h
    obtain ⟨C, hC, _⟩ := cyclesM_ok p h
    rw [hC, if_pos (Int.natCast_nonneg _), toNat_cast, if_pos (by have := isOrd_len h; omega)]
    exact impl_CyclesOf.ok_0 p (isOrd_all h).1 (isOrd_len h).2 p.length 0 _ [] C hC (by omega) (by simp) (by simp)
  · rfl

theorem laws_eqIntS.ok_l (xs : List Int) (hn : xs.length ≤ 140737488355328) : ∀ (d i : Nat), xs.length - i = d → laws_eqIntS.l0.v xs xs i = some true := by
  intro d
  induction d with
  | zero =>
    intro i hd
    rw [laws_eqIntS.l0.v_eq, if_neg (cast_nlt (by omega))]
  | succ d ih =>
    intro i hd
    have h : i < xs.length := by omega
    rw [laws_eqIntS.l0.v_eq, if_pos (cast_lt h), if_pos (Int.natCast_nonneg i), if_pos (cast_lt h), if_pos rfl, succ_wrap h hn]
    exact ih (i + 1) (by omega)
theorem laws_eqIntS.ok (xs : List Int) (hn : xs.length ≤ 140737488355328) : laws_eqIntS.f.v xs xs = some true := by
  rw [laws_eqIntS.f.v_eq, if_pos rfl]
  exact laws_eqIntS.ok_l xs hn xs.length 0 (by omega)

theorem laws_eqIntSS.ok_l (xs : List (List Int)) (hn : xs.length ≤ 140737488355328) (hx : ∀ x ∈ xs, x.length ≤ 140737488355328) : ∀ (d i : Nat), xs.length - i = d → laws_eqIntSS.l0.v xs xs i = some true := by
  intro d
  induction d with
  | zero =>
    intro i hd
    rw [laws_eqIntSS.l0.v_eq, if_neg (cast_nlt (by omega))]
  | succ d ih =>
    intro i hd
    have h : i < xs.length := by omega
    have hm : (rd_L1 xs (i : Int)).length ≤ 140737488355328 := by
      refine hx _ ?_
      show xs.getD ((i : Int)).toNat _ ∈ xs
      rw [toNat_cast, List.getD_eq_getElem?_getD, List.getElem?_eq_getElem h]
      exact List.getElem_mem h
    rw [laws_eqIntSS.l0.v_eq, if_pos (cast_lt h), if_pos (Int.natCast_nonneg i), if_pos (cast_lt h), laws_eqIntS.ok _ hm]
    simp only [Option.bind_some, if_true]
    rw [succ_wrap h hn]
    exact ih (i + 1) (by omega)
theorem laws_eqIntSS.ok (xs : List (List Int)) (hn : xs.length ≤ 140737488355328) (hx : ∀ x ∈ xs, x.length ≤ 140737488355328) : laws_eqIntSS.f.v xs xs = some true := by
  rw [laws_eqIntSS.f.v_eq, if_pos rfl]
  exact laws_eqIntSS.ok_l xs hn hx xs.length 0 (by omega)

theorem rd_fromOn (k : Int) : ∀ (n i : Nat), i < n → rd (fromOn k n) (i : Int) = k + i := by
  intro n i h
  induction n generalizing k i with
  | zero => omega
  | succ n ih =>
    cases i with
    | zero => show k = k + ((0 : Nat) : Int); simp
    | succ i =>
      have := ih (k + 1) i (by omega)
      rw [rd_cast] at this ⊢
      rw [fromOn, List.getD_cons_succ, this]; omega
theorem laws_heldIntS.ok_l (n : Nat) (k : Int) (hn : n ≤ 1099511627776) (h0 : 0 ≤ k) (h1 : k ≤ 4398046511104) : ∀ (d i : Nat), i + d = n → laws_heldIntS.l0.v (fromOn k n) (k + i) i = some (k + n) := by
  intro d
  induction d with
  | zero =>
    intro i hd
    rw [laws_heldIntS.l0.v_eq, fromOn_length, if_neg (cast_nlt (by omega)), show i = n by omega]
  | succ d ih =>
    intro i hd
    have h : i < n := by omega
    rw [laws_heldIntS.l0.v_eq, fromOn_length, if_pos (cast_lt h), if_pos (Int.natCast_nonneg i), if_pos (rd_fromOn k n i h), succ_wrap h (by omega), wrap_id (x := k + (i : Int) + 1) (by omega) (by omega), show k + (i : Int) + 1 = k + ((i + 1 : Nat) : Int) by omega]
    exact ih (i + 1) (by omega)
theorem laws_heldIntS.ok (n : Nat) (k : Int) (hn : n ≤ 1099511627776) (h0 : 0 ≤ k) (h1 : k ≤ 4398046511104) : laws_heldIntS.f.v (fromOn k n) k = some (k + n) := by
  rw [laws_heldIntS.f.v_eq]
  have := laws_heldIntS.ok_l n k hn h0 h1 n 0 (by omega)
  simpa using this

theorem laws_heldIntSS.ok_l : ∀ (r pre : List (List Int)) (k : Int), pre.length + r.length ≤ 1048576 → 0 ≤ k → k + sumLen r ≤ 1099511627776 → laws_heldIntSS.l0.v (pre ++ fromOns k r) k (pre.length : Int) = some (k + (sumLen r : Nat))
  | [], pre, k, hl, h0, h1 => by
    rw [laws_heldIntSS.l0.v_eq, if_neg (cast_nlt (by simp [fromOns]))]
    simp [sumLen]
  | x :: r, pre, k, hl, h0, h1 => by
    have h1' : k + ((x.length : Nat) : Int) + ((sumLen r : Nat) : Int) ≤ 1099511627776 := by simp only [sumLen] at h1; omega
    simp only [List.length_cons] at hl
    have hi : pre.length < (pre ++ fromOns k (x :: r)).length := by simp [fromOns]
    have hg : rd_L1 (pre ++ fromOns k (x :: r)) (pre.length : Int) = fromOn k x.length := by
      show (pre ++ fromOns k (x :: r)).getD ((pre.length : Int)).toNat [] = _
      rw [toNat_cast, List.getD_eq_getElem?_getD, List.getElem?_append_right (Nat.le_refl _), Nat.sub_self]; rfl
    rw [laws_heldIntSS.l0.v_eq, if_pos (cast_lt hi), if_pos (Int.natCast_nonneg _), hg, laws_heldIntS.ok x.length k (by omega) h0 (by omega)]
    simp only [Option.bind_some]
    rw [if_neg (by omega), succ_wrap hi (by simp [fromOns, fromOns_length]; omega)]
    have := laws_heldIntSS.ok_l r (pre ++ [fromOn k x.length]) (k + x.length) (by simp; omega) (by omega) h1'
    simp only [List.length_append, List.length_cons, List.length_nil, Nat.zero_add, List.append_assoc, List.cons_append, List.nil_append] at this
    rw [show pre ++ fromOns k (x :: r) = pre ++ fromOn k x.length :: fromOns (k + x.length) r from rfl, this]
    simp only [sumLen]
    congr 1
    omega
theorem laws_heldIntSS.ok (r : List (List Int)) (hl : r.length ≤ 1048576) (h1 : sumLen r ≤ 1048576) : laws_heldIntSS.f.v (fromOns 1 r) 1 = some ((1 : Int) + ((sumLen r : Nat) : Int)) := by
  rw [laws_heldIntSS.f.v_eq]
  have := laws_heldIntSS.ok_l r [] 1 (by simpa using hl) (by omega) (by omega)
  simpa using this

theorem laws_markIntS.ok_l : ∀ (d i : Nat) (xs : List Int) (k : Int), i + d = xs.length → xs.length ≤ 1099511627776 → 0 ≤ k → k ≤ 4398046511104 → laws_markIntS.l0.v xs (k + i) i = some (k + (xs.length : Int), xs.take i ++ fromOn (k + i) d) := by
  intro d
  induction d with
  | zero =>
    intro i xs k hd hn h0 h1
    rw [laws_markIntS.l0.v_eq, if_neg (cast_nlt (by omega)), List.take_of_length_le (by omega), show i = xs.length by omega]
    simp [fromOn]
  | succ d ih =>
    intro i xs k hd hn h0 h1
    have h : i < xs.length := by omega
    rw [laws_markIntS.l0.v_eq, if_pos (cast_lt h), if_pos (Int.natCast_nonneg i), succ_wrap h (by omega), toNat_cast, wrap_id (x := k + (i : Int) + 1) (by omega) (by omega), show k + (i : Int) + 1 = k + ((i + 1 : Nat) : Int) by omega, ih (i + 1) _ k (by rw [List.length_set]; omega) (by rw [List.length_set]; omega) h0 h1, List.length_set, fromOn, List.take_succ_eq_append_getElem (by rw [List.length_set]; omega), List.getElem_set_self, List.take_set_of_le (Nat.le_refl i), List.append_assoc, show k + (i : Int) + 1 = k + ((i + 1 : Nat) : Int) by omega]
    rfl
theorem laws_markIntS.ok (xs : List Int) (k : Int) (hn : xs.length ≤ 1099511627776) (h0 : 0 ≤ k) (h1 : k ≤ 4398046511104) : laws_markIntS.f.v xs k = some (k + (xs.length : Int), fromOn k xs.length) := by
  rw [laws_markIntS.f.v_eq]
  have := laws_markIntS.ok_l xs.length 0 xs k (by omega) hn h0 h1
  simpa using this

theorem laws_markIntSS.ok_l : ∀ (r pre : List (List Int)) (k : Int), pre.length + r.length ≤ 1048576 → 0 ≤ k → k + sumLen r ≤ 1099511627776 → laws_markIntSS.l0.v (pre ++ r) k (pre.length : Int) = some (k + (sumLen r : Nat), pre ++ fromOns k r)
  | [], pre, k, hl, h0, h1 => by
    rw [laws_markIntSS.l0.v_eq, if_neg (cast_nlt (by simp))]
    simp [sumLen, fromOns]
  | x :: r, pre, k, hl, h0, h1 => by
    have h1' : k + ((x.length : Nat) : Int) + ((sumLen r : Nat) : Int) ≤ 1099511627776 := by simp only [sumLen] at h1; omega
    simp only [List.length_cons] at hl
    have hi : pre.length < (pre ++ x :: r).length := by simp
    have hg : (pre ++ x :: r).getD ((pre.length : Int)).toNat [] = x := by
      rw [toNat_cast, List.getD_eq_getElem?_getD, List.getElem?_append_right (Nat.le_refl _), Nat.sub_self]; rfl
    rw [laws_markIntSS.l0.v_eq, if_pos (cast_lt hi), if_pos (Int.natCast_nonneg _), hg, laws_markIntS.ok x k (by omega) h0 (by omega)]
    simp only [Option.bind_some]
    rw [succ_wrap hi (by simp; omega), toNat_cast, List.set_append_right _ _ (Nat.le_refl _), Nat.sub_self, List.set_cons_zero]
    have := laws_markIntSS.ok_l r (pre ++ [fromOn k x.length]) (k + x.length) (by simp; omega) (by omega) h1'
    simp only [List.length_append, List.length_cons, List.length_nil, Nat.zero_add, List.append_assoc, List.cons_append, List.nil_append] at this
    rw [this]
    simp only [sumLen, fromOns]
    congr 2
    omega
theorem laws_markIntSS.ok (r : List (List Int)) (hl : r.length ≤ 1048576) (h1 : sumLen r ≤ 1048576) : laws_markIntSS.f.v r 1 = some ((1 : Int) + ((sumLen r : Nat) : Int), fromOns 1 r) := by
  rw [laws_markIntSS.f.v_eq]
  have := laws_markIntSS.ok_l r [] 1 (by simpa using hl) (by omega) (by omega)
  simpa using this

theorem laws_toIntS.ok_l (xs : List Int) (hn : xs.length ≤ 140737488355328) : ∀ (d i : Nat) (ys : List Int), xs.length - i = d → ys.length = xs.length → ys.take i = xs.take i → laws_toIntS.l0.v xs ys i = some xs := by
  intro d
  induction d with
  | zero =>
    intro i ys hd hl ht
    rw [laws_toIntS.l0.v_eq, if_neg (cast_nlt (by omega))]
    rw [List.take_of_length_le (by omega), List.take_of_length_le (by omega)] at ht
    rw [ht]
  | succ d ih =>
    intro i ys hd hl ht
    have h : i < xs.length := by omega
    rw [laws_toIntS.l0.v_eq, if_pos (cast_lt h), if_pos (Int.natCast_nonneg i), if_pos (cast_lt (by omega)), succ_wrap h hn, toNat_cast]
    refine ih (i + 1) _ (by omega) (by rw [List.length_set]; exact hl) ?_
    rw [take_rd xs i h, ← ht, rd_lt xs i h, List.take_succ_eq_append_getElem (by rw [List.length_set]; omega), List.getElem_set_self, List.take_set_of_le (Nat.le_refl i)]
theorem laws_toIntS.ok (xs : List Int) (hn : xs.length ≤ 1048576) : laws_toIntS.f.v xs = some xs := by
  rw [laws_toIntS.f.v_eq, if_pos (Int.natCast_nonneg _), toNat_cast, if_pos (by omega)]
  exact laws_toIntS.ok_l xs (by omega) xs.length 0 _ (by omega) (by simp) (by simp)

theorem spec_laCycles.ok_1 (p : List Int) (hb : ∀ x ∈ p, 0 ≤ x ∧ x < p.length) (C : List (List Int)) (hC : C.length ≤ 100) (m i : Int) : ∀ (f : Nat) (seen : List Bool) (acc : List Int) (j : Int) (s : List Bool) (c : List Int), walkM p f seen acc j = some (s, c) → seen.length = p.length → 0 ≤ j → j < p.length → acc.length + f ≤ 100 → spec_laCycles.l1.v p C seen acc j m i = spec_laCycles.l0.v p (if c.length > 0 then C ++ [c] else C) s m (wrap64 (i + 1)) := by
  intro f
  induction f with
  | zero => intro seen acc j s c h; cases h
  | succ f ih =>
    intro seen acc j s c h hs h0 h1 ha
    rw [walkM] at h
    rw [spec_laCycles.l1.v_eq, if_pos h0, if_pos (by omega)]
    by_cases e : rdOf false seen j = true
    · rw [if_pos e] at h
      cases h
      rw [if_pos e]
      by_cases l : acc.length > 0
      · rw [if_pos (by omega), if_pos (by omega), if_pos l]
      · rw [if_neg (by omega), if_neg l]
    · rw [if_neg e] at h
      have hj := rd_mem p j.toNat (by omega)
      rw [Int.toNat_of_nonneg h0] at hj
      rw [if_neg e, if_pos (by omega), if_pos h1]
      exact ih _ _ _ s c h (by simp [hs]) (hb _ hj).1 (hb _ hj).2 (by simp; omega)
theorem spec_laCycles.ok_0 (p : List Int) (hb : ∀ x ∈ p, 0 ≤ x ∧ x < p.length) (h8 : p.length ≤ 8) : ∀ (d i : Nat) (seen : List Bool) (C R : List (List Int)), cycM p d i seen C = some R → i + d = p.length → seen.length = p.length → C.length ≤ i → spec_laCycles.l0.v p C seen p.length i = some R := by
  intro d
  induction d with
  | zero =>
    intro i seen C R h hd hs hC
    cases h
    rw [spec_laCycles.l0.v_eq, if_neg (cast_nlt (by omega))]
  | succ d ih =>
    intro i seen C R h hd hs hC
    have hi : i < p.length := by omega
    rw [cycM] at h
    split at h
    · cases h
    · rename_i s c hw
      have hl := (walkM_length p 9 seen [] _ s c hw).1
      rw [spec_laCycles.l0.v_eq, if_pos (cast_lt hi), spec_laCycles.ok_1 p hb C (by omega) _ _ 9 seen [] i s c hw hs (Int.natCast_nonneg i) (cast_lt hi) (by simp), succ_wrap hi (by omega)]
      exact ih (i + 1) s _ R h (by omega) (by omega) (by split <;> (try simp) <;> omega)
theorem spec_laCycles.ok (p : List Int) (h : isOrd p = true) : spec_laCycles.f.v p = cyclesM p := by
  obtain ⟨C, hC, _⟩ := cyclesM_ok p h
  rw [hC]
  rw [spec_laCycles.f.v_eq, if_pos (Int.natCast_nonneg _), toNat_cast, if_pos (by have := isOrd_len h; omega)]
  exact spec_laCycles.ok_0 p (isOrd_all h).1 (isOrd_len h).2 p.length 0 _ [] C hC (by omega) (by simp) (by simp)

theorem spec_l1Has.ok_l (v : Int) (xs : List Int) (hn : xs.length ≤ 140737488355328) : ∀ (d i : Nat), xs.length - i = d → spec_l1Has.l0.v v xs xs.length i = some (decide (v ∈ xs.drop i)) := by
  intro d
  induction d with
  | zero =>
    intro i hd
    rw [spec_l1Has.l0.v_eq, if_neg (cast_nlt (by omega)), List.drop_eq_nil_of_le (by omega)]
    simp
  | succ d ih =>
    intro i hd
    have h : i < xs.length := by omega
    rw [spec_l1Has.l0.v_eq, if_pos (cast_lt h), if_pos (Int.natCast_nonneg i), if_pos (cast_lt h), succ_wrap h hn, ih (i + 1) (by omega), drop_rd xs i h]
    by_cases e : rd xs (i : Int) = v
    · rw [if_pos e]; simp [e]
    · have e' : ¬ v = rd xs (i : Int) := fun h => e h.symm
      rw [if_neg e]; simp [e']
theorem spec_l1Has.ok (v : Int) (xs : List Int) (hn : xs.length ≤ 140737488355328) : spec_l1Has.f.v xs v = some (decide (v ∈ xs)) := by
  rw [spec_l1Has.f.v_eq]
  have := spec_l1Has.ok_l v xs hn xs.length 0 (by omega)
  simpa using this

theorem spec_laOrder.ok_l (p : List Int) (hn : p.length ≤ 8) : ∀ (d i : Nat), p.length - i = d → spec_laOrder.l0.v p p p.length i = some (ordGo p.length (p.take i) (p.drop i)) := by
  intro d
  induction d with
  | zero =>
    intro i hd
    rw [spec_laOrder.l0.v_eq, if_neg (cast_nlt (by omega)), List.drop_eq_nil_of_le (by omega)]
    rfl
  | succ d ih =>
    intro i hd
    have h : i < p.length := by omega
    rw [spec_laOrder.l0.v_eq, if_pos (cast_lt h), if_pos (Int.natCast_nonneg i), if_pos (cast_lt h), succ_wrap h (by omega), ih (i + 1) (by omega), drop_rd p i h, take_rd p i h]
    rw [wrap_id (x := (p.length : Int) - 1) (by omega) (by omega), toNat_cast, spec_l1Has.ok _ _ (by rw [List.length_take]; omega)]
    unfold spec_l1In.f
    rw [ordGo_cons]
    by_cases a : 0 ≤ rd p (i : Int)
    · by_cases b : rd p (i : Int) ≤ (p.length : Int) - 1
      · have hi : (i : Int) ≤ (p.length : Int) := by omega
        by_cases c : rd p (i : Int) ∈ p.take i
        · simp only [ge_iff_le, a, b, c, hi, decide_true, decide_false, if_true, if_false, Option.bind_some, true_and, and_true, and_self, Bool.false_eq_true]
        · simp only [ge_iff_le, a, b, c, hi, decide_true, decide_false, if_true, if_false, Option.bind_some, true_and, and_true, and_self, Bool.false_eq_true]
      · simp [a, b]
    · simp [a]
theorem spec_laOrder.ok (p : List Int) : spec_laOrder.f.v p = some (isOrd p) := by
  rw [spec_laOrder.f.v_eq]
  unfold spec_l1In.f isOrd
  by_cases h : 1 ≤ p.length ∧ p.length ≤ 8
  · have := spec_laOrder.ok_l p h.2 p.length 0 (by omega)
    have h1 : (p.length : Int) ≥ 1 := by omega
    have h2 : (p.length : Int) ≤ 8 := by omega
    rw [if_pos h1, if_pos h, decide_eq_true h2]
    simpa using this
  · rw [if_neg h]
    by_cases h1 : (p.length : Int) ≥ 1
    · have h2 : ¬ (p.length : Int) ≤ 8 := by omega
      rw [if_pos h1, decide_eq_false h2]; rfl
    · rw [if_neg h1]; rfl

theorem spec_CyclesOf.ok (p : List Int) : spec_CyclesOf.f.v p = if isOrd p = true then some ((cyclesM p).getD [], true) else some ([], false) := by
  rw [spec_CyclesOf.f.v_eq, spec_laOrder.ok]
  simp only [Option.bind_some]
  split
  · rename_i h
    obtain ⟨C, hC, _⟩ := cyclesM_ok p h
    rw [spec_laCycles.ok p h, hC]; rfl
  · rfl

theorem FnExactCyclesOf : laws_FnExactCyclesOf.Pure := by
  intro l _ _ _
  refine laws_FnExactCyclesOf.f.ends l ?_
  rw [laws_FnExactCyclesOf.f.v_eq]
  by_cases h : (l.length : Int) > 1048576
  · rw [if_pos h]
  · have hl : l.length ≤ 1048576 := by omega
    rw [if_neg h]
    obtain ⟨r, b, hs, hi, hr, hx⟩ : ∃ r b, spec_CyclesOf.f.v l = some (r, b) ∧ impl_CyclesOf.f.v l = some (r, b) ∧ r.length ≤ 1000 ∧ ∀ x ∈ r, x.length ≤ 1000 := by
      rw [spec_CyclesOf.ok, impl_CyclesOf.ok]
      split
      · rename_i hp
        refine ⟨_, _, rfl, rfl, ?_⟩
        obtain ⟨C, hC, _⟩ := cyclesM_ok l hp; rw [hC]; have := cyclesM_length hC; have := (isOrd_len hp).2; exact ⟨by show C.length ≤ 1000; omega, fun x hx => Nat.le_trans (cyclesM_length hC |>.2 x hx) (by decide)⟩
      · exact ⟨_, _, rfl, rfl, by simp, by simp⟩
    have hsl : sumLen r ≤ 1048576 := Nat.le_trans (sumLen_le 1000 r hx) (Nat.le_trans (Nat.mul_le_mul_right 1000 hr) (by decide))
    have e0 := laws_toIntS.ok l hl
    have e1 := laws_eqIntS.ok l (by omega)
    have e2 := laws_eqIntSS.ok r (by omega) (fun x hx' => Nat.le_trans (hx x hx') (by decide))
    have e3 := laws_markIntS.ok l 1 (by omega) (by omega) (by omega)
    have e4 := laws_markIntSS.ok r (by omega) hsl
    have e5 := laws_heldIntSS.ok r (by omega) hsl
    have n1 : ¬ ((1 : Int) + (l.length : Int) < 0) := by omega
    have n2 : ¬ ((1 : Int) + ((sumLen r : Nat) : Int) < 0) := by omega
    simp only [e0, hs, hi, e1, e2, e3, e4, e5, if_neg n1, if_neg n2, laws_FnExactCyclesOf.j0.v_eq, laws_FnExactCyclesOf.j1.v_eq, laws_FnExactCyclesOf.j2.v_eq, Option.bind_some, bne_self_eq_false, Bool.false_eq_true, if_false, if_true]

end Go.Proofs.Ytciboaihodoglaa.Pure
