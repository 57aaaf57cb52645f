/- Proved: for every input the law FnExactSignOf returns true (its plain statement, over numbers and lists). No condition. -/
import Derived.Test.YtogkfcjebabloaaPAllx10
import Derived.Test.YtogkfcjebabloaaVAllx1
import Derived.Test.YtogkfcjebabloaaVAllx10
import Derived.Test.YtogkfcjebabloaaVAllx2
import Derived.Test.YtogkfcjebabloaaVAllx3
import Derived.Test.YtogkfcjebabloaaVAllx9
import Derived.Test.YtogkfcjebabloaaCycles
import Derived.Test.YtogkfcjebabloaaPlain
import Derived.Test.YtogkfcjebabloaaSigns
namespace Go.Proofs.Ytogkfcjebabloaa.Pure
open Go.RowKit Go.Proofs.Ytogkfcjebabloaa.PAll Go.Proofs.YtogkfcjebabloaaW.PrintWords Go.Proofs.YtogkfcjebabloaaW.PrintLast Go.Proofs.YtogkfcjebabloaaW.PrintMore Go.Proofs.YtogkfcjebabloaaL
set_option linter.unusedVariables false
set_option linter.unusedSimpArgs false

theorem slices_Index_int_int.ok_l (v : Int) (xs : List Int) (hn : xs.length ≤ 140737488355328) : ∀ (d i : Nat), xs.length - i = d → ∃ r, slices_Index_int_int.l0.v xs v xs.length i = some r ∧ decide (r ≥ 0) = decide (v ∈ xs.drop i) := by
  intro d
  induction d with
  | zero =>
    intro i hd
    refine ⟨-1, ?_, ?_⟩
    · rw [slices_Index_int_int.l0.v_eq, if_neg (cast_nlt (by omega))]
    · rw [List.drop_eq_nil_of_le (by omega)]; simp
  | succ d ih =>
    intro i hd
    have h : i < xs.length := by omega
    obtain ⟨r, hr, hr'⟩ := ih (i + 1) (by omega)
    rw [slices_Index_int_int.l0.v_eq, if_pos (cast_lt h), if_pos (Int.natCast_nonneg i), if_pos (cast_lt h), succ_wrap h hn, hr, drop_rd xs i h]
    by_cases e : v = rd xs (i : Int)
    · rw [if_pos e]; exact ⟨i, rfl, by simp [e, Int.natCast_nonneg]⟩
    · rw [if_neg e]; exact ⟨r, rfl, by rw [hr']; simp [e]⟩

theorem slices_Contains_int_int.ok (v : Int) (xs : List Int) (hn : xs.length ≤ 140737488355328) : slices_Contains_int_int.f.v xs v = some (decide (v ∈ xs)) := by
  obtain ⟨r, hr, hr'⟩ := slices_Index_int_int.ok_l v xs hn xs.length 0 (by omega)
  have e : slices_Index_int_int.f.v xs v = some r := by rw [slices_Index_int_int.f.v_eq]; exact hr
  rw [slices_Contains_int_int.f.v_eq, e, Option.bind_some, hr', List.drop_zero]

theorem impl_isOrder.ok_l (p : List Int) (hn : p.length ≤ 8) : ∀ (d i : Nat), p.length - i = d → impl_isOrder.l0.v p p p.length i = some (ordGo p.length (p.take i) (p.drop i)) := by
  intro d
  induction d with
  | zero =>
    intro i hd
    rw [impl_isOrder.l0.v_eq, if_neg (cast_nlt (by omega)), List.drop_eq_nil_of_le (by omega)]
    rfl
  | succ d ih =>
    intro i hd
    have h : i < p.length := by omega
    rw [impl_isOrder.l0.v_eq, if_pos (cast_lt h), if_pos (Int.natCast_nonneg i), if_pos (cast_lt h), succ_wrap h (by omega), ih (i + 1) (by omega), drop_rd p i h, take_rd p i h]
    rw [wrap_id (x := (p.length : Int) - 1) (by omega) (by omega), toNat_cast, slices_Contains_int_int.ok _ _ (by rw [List.length_take]; omega)]
    unfold impl_between.f
    rw [ordGo_cons]
    by_cases a : 0 ≤ rd p (i : Int)
    · by_cases b : rd p (i : Int) ≤ (p.length : Int) - 1
      · have hi : (i : Int) ≤ (p.length : Int) := by omega
        by_cases c : rd p (i : Int) ∈ p.take i
        · simp only [ge_iff_le, a, b, c, hi, decide_true, decide_false, if_true, if_false, Option.bind_some, true_and, and_true, and_self, Bool.false_eq_true]
        · simp only [ge_iff_le, a, b, c, hi, decide_true, decide_false, if_true, if_false, Option.bind_some, true_and, and_true, and_self, Bool.false_eq_true]
      · simp [a, b]
    · simp [a]
theorem impl_isOrder.ok (p : List Int) : impl_isOrder.f.v p = some (isOrd p) := by
  rw [impl_isOrder.f.v_eq]
  unfold impl_between.f isOrd
  by_cases h : 1 ≤ p.length ∧ p.length ≤ 8
  · have := impl_isOrder.ok_l p h.2 p.length 0 (by omega)
    have h1 : (p.length : Int) ≥ 1 := by omega
    have h2 : (p.length : Int) ≤ 8 := by omega
    rw [if_pos h1, if_pos h, decide_eq_true h2]
    simpa using this
  · rw [if_neg h]
    by_cases h1 : (p.length : Int) ≥ 1
    · have h2 : ¬ (p.length : Int) ≤ 8 := by omega
      rw [if_pos h1, decide_eq_false h2]; rfl
    · rw [if_neg h1]; rfl

theorem impl_SignOf.ok_1 (p : List Int) (n x i : Int) (ys : List Int) (hy : ys.length ≤ 1000) : ∀ (d k : Nat) (s : Int), k + d = ys.length → (s = 1 ∨ s = -1) → impl_SignOf.l1.v p s x p n i ys ys.length k = impl_SignOf.l0.v p (sgn s (gr x (ys.drop k))) p n (wrap64 (i + 1)) := by
  intro d
  induction d with
  | zero =>
    intro k s hd hs
    rw [impl_SignOf.l1.v_eq, if_neg (cast_nlt (by omega)), List.drop_eq_nil_of_le (by omega)]; rfl
  | succ d ih =>
    intro k s hd hs
    have h : k < ys.length := by omega
    rw [impl_SignOf.l1.v_eq, if_pos (cast_lt h), if_pos (Int.natCast_nonneg k), if_pos (cast_lt h), succ_wrap h (by omega), drop_rd ys k h, gr]
    by_cases c : rd ys (k : Int) > x
    · rw [if_pos c, if_pos c, wrap_id (x := -s) (by omega) (by omega), ih (k + 1) _ (by omega) (by omega), sgn_neg]
    · rw [if_neg c, if_neg c, ih (k + 1) _ (by omega) hs, Nat.zero_add]
theorem impl_SignOf.ok_0 (p : List Int) (hp : p.length ≤ 8) : ∀ (d i : Nat), i + d = p.length → impl_SignOf.l0.v p (sgn 1 (invC (p.take i))) p p.length i = some (sgn 1 (invC p), true) := by
  intro d
  induction d with
  | zero =>
    intro i hd
    rw [impl_SignOf.l0.v_eq, if_neg (cast_nlt (by omega)), List.take_of_length_le (by omega)]
  | succ d ih =>
    intro i hd
    have h : i < p.length := by omega
    rw [impl_SignOf.l0.v_eq, if_pos (cast_lt h), if_pos (Int.natCast_nonneg i), if_pos (cast_lt h), if_pos (by omega), Option.bind_some, toNat_cast]
    have := impl_SignOf.ok_1 p p.length (rd p (i : Int)) i (p.take i) (by rw [List.length_take]; omega) (p.take i).length 0 (sgn 1 (invC (p.take i))) (by omega) (sgn_one 1 _ (Or.inl rfl))
    refine Eq.trans this ?_
    rw [succ_wrap h (by omega), List.drop_zero, sgn_add, ← invC_snoc, ← take_rd p i h]
    exact ih (i + 1) (by omega)
theorem impl_SignOf.ok (p : List Int) : impl_SignOf.f.v p = some (if isOrd p = true then (sgn 1 (invC p), true) else (0, false)) := by
  rw [impl_SignOf.f.v_eq, impl_isOrder.ok, Option.bind_some]
  by_cases h : isOrd p = true
  · rw [if_pos h, if_pos h]
    exact impl_SignOf.ok_0 p (isOrd_len h).2 p.length 0 (by omega)
  · rw [if_neg h, if_neg h]

theorem laws_eqIntS.ok_l (xs : List Int) (hn : xs.length ≤ 140737488355328) : ∀ (d i : Nat), xs.length - i = d → laws_eqIntS.l0.v xs xs i = some true := by
  intro d
  induction d with
  | zero =>
    intro i hd
    rw [laws_eqIntS.l0.v_eq, if_neg (cast_nlt (by omega))]
  | succ d ih =>
    intro i hd
    have h : i < xs.length := by omega
    rw [laws_eqIntS.l0.v_eq, if_pos (cast_lt h), if_pos (Int.natCast_nonneg i), if_pos (cast_lt h), if_pos rfl, succ_wrap h hn]
    exact ih (i + 1) (by omega)
theorem laws_eqIntS.ok (xs : List Int) (hn : xs.length ≤ 140737488355328) : laws_eqIntS.f.v xs xs = some true := by
  rw [laws_eqIntS.f.v_eq, if_pos rfl]
  exact laws_eqIntS.ok_l xs hn xs.length 0 (by omega)

theorem laws_toIntS.ok_l (xs : List Int) (hn : xs.length ≤ 140737488355328) : ∀ (d i : Nat) (ys : List Int), xs.length - i = d → ys.length = xs.length → ys.take i = xs.take i → laws_toIntS.l0.v xs ys i = some xs := by
  intro d
  induction d with
  | zero =>
    intro i ys hd hl ht
    rw [laws_toIntS.l0.v_eq, if_neg (cast_nlt (by omega))]
    rw [List.take_of_length_le (by omega), List.take_of_length_le (by omega)] at ht
    rw [ht]
  | succ d ih =>
    intro i ys hd hl ht
    have h : i < xs.length := by omega
    rw [laws_toIntS.l0.v_eq, if_pos (cast_lt h), if_pos (Int.natCast_nonneg i), if_pos (cast_lt (by omega)), succ_wrap h hn, toNat_cast]
    refine ih (i + 1) _ (by omega) (by rw [List.length_set]; exact hl) ?_
    rw [take_rd xs i h, ← ht, rd_lt xs i h, List.take_succ_eq_append_getElem (by rw [List.length_set]; omega), List.getElem_set_self, List.take_set_of_le (Nat.le_refl i)]
theorem laws_toIntS.ok (xs : List Int) (hn : xs.length ≤ 1048576) : laws_toIntS.f.v xs = some xs := by
  rw [laws_toIntS.f.v_eq, if_pos (Int.natCast_nonneg _), toNat_cast, if_pos (by omega)]
  exact laws_toIntS.ok_l xs (by omega) xs.length 0 _ (by omega) (by simp) (by simp)

theorem spec_l1Has.ok_l (v : Int) (xs : List Int) (hn : xs.length ≤ 140737488355328) : ∀ (d i : Nat), xs.length - i = d → spec_l1Has.l0.v v xs xs.length i = some (decide (v ∈ xs.drop i)) := by
  intro d
  induction d with
  | zero =>
    intro i hd
    rw [spec_l1Has.l0.v_eq, if_neg (cast_nlt (by omega)), List.drop_eq_nil_of_le (by omega)]
    simp
  | succ d ih =>
    intro i hd
    have h : i < xs.length := by omega
    rw [spec_l1Has.l0.v_eq, if_pos (cast_lt h), if_pos (Int.natCast_nonneg i), if_pos (cast_lt h), succ_wrap h hn, ih (i + 1) (by omega), drop_rd xs i h]
    by_cases e : rd xs (i : Int) = v
    · rw [if_pos e]; simp [e]
    · have e' : ¬ v = rd xs (i : Int) := fun h => e h.symm
      rw [if_neg e]; simp [e']
theorem spec_l1Has.ok (v : Int) (xs : List Int) (hn : xs.length ≤ 140737488355328) : spec_l1Has.f.v xs v = some (decide (v ∈ xs)) := by
  rw [spec_l1Has.f.v_eq]
  have := spec_l1Has.ok_l v xs hn xs.length 0 (by omega)
  simpa using this

theorem spec_laOrder.ok_l (p : List Int) (hn : p.length ≤ 8) : ∀ (d i : Nat), p.length - i = d → spec_laOrder.l0.v p p p.length i = some (ordGo p.length (p.take i) (p.drop i)) := by
  intro d
  induction d with
  | zero =>
    intro i hd
    rw [spec_laOrder.l0.v_eq, if_neg (cast_nlt (by omega)), List.drop_eq_nil_of_le (by omega)]
    rfl
  | succ d ih =>
    intro i hd
    have h : i < p.length := by omega
    rw [spec_laOrder.l0.v_eq, if_pos (cast_lt h), if_pos (Int.natCast_nonneg i), if_pos (cast_lt h), succ_wrap h (by omega), ih (i + 1) (by omega), drop_rd p i h, take_rd p i h]
    rw [wrap_id (x := (p.length : Int) - 1) (by omega) (by omega), toNat_cast, spec_l1Has.ok _ _ (by rw [List.length_take]; omega)]
    unfold spec_l1In.f
    rw [ordGo_cons]
    by_cases a : 0 ≤ rd p (i : Int)
    · by_cases b : rd p (i : Int) ≤ (p.length : Int) - 1
      · have hi : (i : Int) ≤ (p.length : Int) := by omega
        by_cases c : rd p (i : Int) ∈ p.take i
        · simp only [ge_iff_le, a, b, c, hi, decide_true, decide_false, if_true, if_false, Option.bind_some, true_and, and_true, and_self, Bool.false_eq_true]
        · simp only [ge_iff_le, a, b, c, hi, decide_true, decide_false, if_true, if_false, Option.bind_some, true_and, and_true, and_self, Bool.false_eq_true]
      · simp [a, b]
    · simp [a]
theorem spec_laOrder.ok (p : List Int) : spec_laOrder.f.v p = some (isOrd p) := by
  rw [spec_laOrder.f.v_eq]
  unfold spec_l1In.f isOrd
  by_cases h : 1 ≤ p.length ∧ p.length ≤ 8
  · have := spec_laOrder.ok_l p h.2 p.length 0 (by omega)
    have h1 : (p.length : Int) ≥ 1 := by omega
    have h2 : (p.length : Int) ≤ 8 := by omega
    rw [if_pos h1, if_pos h, decide_eq_true h2]
    simpa using this
  · rw [if_neg h]
    by_cases h1 : (p.length : Int) ≥ 1
    · have h2 : ¬ (p.length : Int) ≤ 8 := by omega
      rw [if_pos h1, decide_eq_false h2]; rfl
    · rw [if_neg h1]; rfl

theorem spec_laCycles.ok_1 (p : List Int) (hb : ∀ x ∈ p, 0 ≤ x ∧ x < p.length) (C : List (List Int)) (hC : C.length ≤ 100) (m i : Int) : ∀ (f : Nat) (seen : List Bool) (acc : List Int) (j : Int) (s : List Bool) (c : List Int), walkM p f seen acc j = some (s, c) → seen.length = p.length → 0 ≤ j → j < p.length → acc.length + f ≤ 100 → spec_laCycles.l1.v p C seen acc j m i = spec_laCycles.l0.v p (if c.length > 0 then C ++ [c] else C) s m (wrap64 (i + 1)) := by
  intro f
  induction f with
  | zero => intro seen acc j s c h; cases h
  | succ f ih =>
    intro seen acc j s c h hs h0 h1 ha
    rw [walkM] at h
    rw [spec_laCycles.l1.v_eq, if_pos h0, if_pos (by omega)]
    by_cases e : rdOf false seen j = true
    · rw [if_pos e] at h
      cases h
      rw [if_pos e]
      by_cases l : acc.length > 0
      · rw [if_pos (by omega), if_pos (by omega), if_pos l]
      · rw [if_neg (by omega), if_neg l]
    · rw [if_neg e] at h
      have hj := rd_mem p j.toNat (by omega)
      rw [Int.toNat_of_nonneg h0] at hj
      rw [if_neg e, if_pos (by omega), if_pos h1]
      exact ih _ _ _ s c h (by simp [hs]) (hb _ hj).1 (hb _ hj).2 (by simp; omega)
theorem spec_laCycles.ok_0 (p : List Int) (hb : ∀ x ∈ p, 0 ≤ x ∧ x < p.length) (h8 : p.length ≤ 8) : ∀ (d i : Nat) (seen : List Bool) (C R : List (List Int)), cycM p d i seen C = some R → i + d = p.length → seen.length = p.length → C.length ≤ i → spec_laCycles.l0.v p C seen p.length i = some R := by
  intro d
  induction d with
  | zero =>
    intro i seen C R h hd hs hC
    cases h
    rw [spec_laCycles.l0.v_eq, if_neg (cast_nlt (by omega))]
  | succ d ih =>
    intro i seen C R h hd hs hC
    have hi : i < p.length := by omega
    rw [cycM] at h
    split at h
    · cases h
    · rename_i s c hw
      have hl := (walkM_length p 9 seen [] _ s c hw).1
      rw [spec_laCycles.l0.v_eq, if_pos (cast_lt hi), spec_laCycles.ok_1 p hb C (by omega) _ _ 9 seen [] i s c hw hs (Int.natCast_nonneg i) (cast_lt hi) (by simp), succ_wrap hi (by omega)]
      exact ih (i + 1) s _ R h (by omega) (by omega) (by split <;> (try simp) <;> omega)
theorem spec_laCycles.ok (p : List Int) (h : isOrd p = true) : spec_laCycles.f.v p = cyclesM p := by
  obtain ⟨C, hC, _⟩ := cyclesM_ok p h
  rw [hC]
  rw [spec_laCycles.f.v_eq, if_pos (Int.natCast_nonneg _), toNat_cast, if_pos (by have := isOrd_len h; omega)]
  exact spec_laCycles.ok_0 p (isOrd_all h).1 (isOrd_len h).2 p.length 0 _ [] C hC (by omega) (by simp) (by simp)

theorem spec_laSign.ok_l (C : List (List Int)) (hC : C.length ≤ 1000) : ∀ (d i : Nat) (s : Int), i + d = C.length → (s = 1 ∨ s = -1) → spec_laSign.l0.v s C C.length i = some (sgn s (evn (C.drop i))) := by
  intro d
  induction d with
  | zero =>
    intro i s hd hs
    rw [spec_laSign.l0.v_eq, if_neg (cast_nlt (by omega)), List.drop_eq_nil_of_le (by omega)]; rfl
  | succ d ih =>
    intro i s hd hs
    have h : i < C.length := by omega
    have e : rd_L1 C (i : Int) = C[i] := by
      unfold rd_L1
      rw [toNat_cast, List.getD_eq_getElem?_getD, List.getElem?_eq_getElem h]; rfl
    rw [spec_laSign.l0.v_eq, if_pos (cast_lt h), if_pos (Int.natCast_nonneg i), if_pos (cast_lt h), e, succ_wrap h (by omega), List.drop_eq_getElem_cons h, evn]
    by_cases c : (C[i].length : Int) % 2 = 0
    · rw [if_pos c, if_pos c, wrap_id (x := -s) (by omega) (by omega), ih (i + 1) _ (by omega) (by omega), sgn_neg]
    · rw [if_neg c, if_neg c, ih (i + 1) _ (by omega) hs, Nat.zero_add]
theorem spec_laSign.ok (p : List Int) (h : isOrd p = true) : spec_laSign.f.v p = some (sgn 1 (invC p)) := by
  obtain ⟨C, hC, hd⟩ := cyclesM_ok p h
  have hl := (cyclesM_length hC).1
  have h8 := (isOrd_len h).2
  rw [spec_laSign.f.v_eq, spec_laCycles.ok p h, hC, Option.bind_some]
  have := spec_laSign.ok_l C (by omega) C.length 0 1 (by omega) (Or.inl rfl)
  rw [← sign_dec (isOrd_all h).2 hd]
  simpa using this

theorem spec_SignOf.ok (p : List Int) : spec_SignOf.f.v p = some (if isOrd p = true then (sgn 1 (invC p), true) else (0, false)) := by
  rw [spec_SignOf.f.v_eq, spec_laOrder.ok, Option.bind_some]
  by_cases h : isOrd p = true
  · rw [if_pos h, if_pos h, spec_laSign.ok p h]; rfl
  · rw [if_neg h, if_neg h]

theorem FnExactSignOf : laws_FnExactSignOf.Pure := by
  intro l _ _ _
  refine laws_FnExactSignOf.f.ends l ?_
  rw [laws_FnExactSignOf.f.v_eq]
  by_cases h : (l.length : Int) > 1048576
  · rw [if_pos h]
  · have hl : l.length ≤ 1048576 := by omega
    rw [if_neg h]
    simp only [laws_toIntS.ok l hl, spec_SignOf.ok, impl_SignOf.ok, laws_eqIntS.ok l (by omega), laws_FnExactSignOf.j0.v_eq, Option.bind_some, bne_self_eq_false, Bool.false_eq_true, if_false, if_true]

end Go.Proofs.Ytogkfcjebabloaa.Pure
