/- laws.FnOrdersGroup answers true for all arguments: the plain law behind its walk. -/
import Derived.Test.YtaheijeojbimeaaVOgx1
import Derived.Test.YtaheijeojbimeaaVOgx2
import Derived.Test.YtaheijeojbimeaaVOgx3
import Derived.Test.YtaheijeojbimeaaWalkFnOrdersGroupA
import Derived.Test.YtaheijeojbimeaaCycles
import Derived.Test.YtaheijeojbimeaaDraw
import Derived.Test.YtaheijeojbimeaaGroups
import Derived.Test.YtaheijeojbimeaaInvs
import Derived.Test.YtaheijeojbimeaaOrders
import Derived.Test.YtaheijeojbimeaaPlain
import Derived.Test.YtaheijeojbimeaaPowers
import Derived.Test.YtaheijeojbimeaaSigns
import Derived.Test.YtaheijeojbimeaaTwices
namespace Go.Proofs.Ytaheijeojbimeaa.Pure
open Go.RowKit Go.Proofs.Ytaheijeojbimeaa.POg Go.Proofs.YtaheijeojbimeaaW.PrintWords Go.Proofs.YtaheijeojbimeaaW.PrintLast Go.Proofs.YtaheijeojbimeaaW.PrintMore Go.Proofs.YtaheijeojbimeaaL
set_option linter.unusedVariables false
set_option linter.unusedSimpArgs false
theorem impl_back.ok_l (p : List Int) (hp : isOrd p = true) : ∀ (d i : Nat) (acc : List Int), i + d = p.length → acc.length = p.length → impl_back.l0.v acc p p.length i = some (backGo p d i acc) := by
  have hl := isOrd_len hp
  intro d
  induction d with
  | zero =>
    intro i acc hd ha
    rw [impl_back.l0.v_eq, if_neg (cast_nlt (by omega)), backGo]
  | succ d ih =>
    intro i acc hd ha
    have h : i < p.length := by omega
    obtain ⟨h1, h2⟩ := isOrd_rd hp i h
    rw [impl_back.l0.v_eq, if_pos (cast_lt h), if_pos (Int.natCast_nonneg i), if_pos (cast_lt h), if_pos h1, if_pos (by omega), succ_wrap h (by omega), ih (i + 1) _ (by omega) (by rw [List.length_set]; exact ha), backGo]
theorem impl_back.ok (p : List Int) (hp : isOrd p = true) : impl_back.f.v p = some (backL p) := by
  have hl := isOrd_len hp
  rw [impl_back.f.v_eq, if_pos (Int.natCast_nonneg _), toNat_cast, if_pos (by omega)]
  exact impl_back.ok_l p hp p.length 0 _ (by omega) (by simp)

theorem slices_Index_int_int.ok_l (v : Int) (xs : List Int) (hn : xs.length ≤ 140737488355328) : ∀ (d i : Nat), xs.length - i = d → ∃ r, slices_Index_int_int.l0.v xs v xs.length i = some r ∧ decide (r ≥ 0) = decide (v ∈ xs.drop i) := by
  intro d
  induction d with
  | zero =>
    intro i hd
    refine ⟨-1, ?_, ?_⟩
    · rw [slices_Index_int_int.l0.v_eq, if_neg (cast_nlt (by omega))]
    · rw [List.drop_eq_nil_of_le (by omega)]; simp
  | succ d ih =>
    intro i hd
    have h : i < xs.length := by omega
    obtain ⟨r, hr, hr'⟩ := ih (i + 1) (by omega)
    rw [slices_Index_int_int.l0.v_eq, if_pos (cast_lt h), if_pos (Int.natCast_nonneg i), if_pos (cast_lt h), succ_wrap h hn, hr, drop_rd xs i h]
    by_cases e : v = rd xs (i : Int)
    · rw [if_pos e]; exact ⟨i, rfl, by simp [e, Int.natCast_nonneg]⟩
    · rw [if_neg e]; exact ⟨r, rfl, by rw [hr']; simp [e]⟩

theorem slices_Contains_int_int.ok (v : Int) (xs : List Int) (hn : xs.length ≤ 140737488355328) : slices_Contains_int_int.f.v xs v = some (decide (v ∈ xs)) := by
  obtain ⟨r, hr, hr'⟩ := slices_Index_int_int.ok_l v xs hn xs.length 0 (by omega)
  have e : slices_Index_int_int.f.v xs v = some r := by rw [slices_Index_int_int.f.v_eq]; exact hr
  rw [slices_Contains_int_int.f.v_eq, e, Option.bind_some, hr', List.drop_zero]

theorem impl_isOrder.ok_l (p : List Int) (hn : p.length ≤ 8) : ∀ (d i : Nat), p.length - i = d → impl_isOrder.l0.v p p p.length i = some (ordGo p.length (p.take i) (p.drop i)) := by
  intro d
  induction d with
  | zero =>
    intro i hd
    rw [impl_isOrder.l0.v_eq, if_neg (cast_nlt (by omega)), List.drop_eq_nil_of_le (by omega)]
    rfl
  | succ d ih =>
    intro i hd
    have h : i < p.length := by omega
    rw [impl_isOrder.l0.v_eq, if_pos (cast_lt h), if_pos (Int.natCast_nonneg i), if_pos (cast_lt h), succ_wrap h (by omega), ih (i + 1) (by omega), drop_rd p i h, take_rd p i h]
    rw [wrap_id (x := (p.length : Int) - 1) (by omega) (by omega), toNat_cast, slices_Contains_int_int.ok _ _ (by rw [List.length_take]; omega)]
    unfold impl_between.f
    rw [ordGo_cons]
    by_cases a : 0 ≤ rd p (i : Int)
    · by_cases b : rd p (i : Int) ≤ (p.length : Int) - 1
      · have hi : (i : Int) ≤ (p.length : Int) := by omega
        by_cases c : rd p (i : Int) ∈ p.take i
        · simp only [ge_iff_le, a, b, c, hi, decide_true, decide_false, if_true, if_false, Option.bind_some, true_and, and_true, and_self, Bool.false_eq_true]
        · simp only [ge_iff_le, a, b, c, hi, decide_true, decide_false, if_true, if_false, Option.bind_some, true_and, and_true, and_self, Bool.false_eq_true]
      · simp [a, b]
    · simp [a]
theorem impl_isOrder.ok (p : List Int) : impl_isOrder.f.v p = some (isOrd p) := by
  rw [impl_isOrder.f.v_eq]
  unfold impl_between.f isOrd
  by_cases h : 1 ≤ p.length ∧ p.length ≤ 8
  · have := impl_isOrder.ok_l p h.2 p.length 0 (by omega)
    have h1 : (p.length : Int) ≥ 1 := by omega
    have h2 : (p.length : Int) ≤ 8 := by omega
    rw [if_pos h1, if_pos h, decide_eq_true h2]
    simpa using this
  · rw [if_neg h]
    by_cases h1 : (p.length : Int) ≥ 1
    · have h2 : ¬ (p.length : Int) ≤ 8 := by omega
      rw [if_pos h1, decide_eq_false h2]; rfl
    · rw [if_neg h1]; rfl

theorem impl_BackOrder.ok (p : List Int) : impl_BackOrder.f.v p = some (if isOrd p = true then (backL p, true) else ([], false)) := by
  rw [impl_BackOrder.f.v_eq, impl_isOrder.ok, Option.bind_some]
  by_cases h : isOrd p = true
  · rw [if_pos h, if_pos h, impl_back.ok p h]; rfl
  · rw [if_neg h, if_neg h]

theorem impl_CyclesOf.ok_1 (p : List Int) (hb : ∀ x ∈ p, 0 ≤ x ∧ x < p.length) (C : List (List Int)) (hC : C.length ≤ 100) (m i : Int) : ∀ (f : Nat) (seen : List Bool) (acc : List Int) (j : Int) (s : List Bool) (c : List Int), walkM p f seen acc j = some (s, c) → seen.length = p.length → 0 ≤ j → j < p.length → acc.length + f ≤ 100 → impl_CyclesOf.l1.v p C seen acc j m i = impl_CyclesOf.l0.v p (if c.length > 0 then C ++ [c] else C) s m (wrap64 (i + 1)) := by
  intro f
  induction f with
  | zero => intro seen acc j s c h; cases h
  | succ f ih =>
    intro seen acc j s c h hs h0 h1 ha
    rw [walkM] at h
    rw [impl_CyclesOf.l1.v_eq, if_pos h0, if_pos (by omega)]
    by_cases e : rdOf false seen j = true
    · rw [if_pos e] at h
      cases h
      rw [if_pos e]
      by_cases l : acc.length > 0
      · rw [if_pos (by omega), if_pos (by omega), if_pos l]
      · rw [if_neg (by omega), if_neg l]
    · rw [if_neg e] at h
      have hj := rd_mem p j.toNat (by omega)
      rw [Int.toNat_of_nonneg h0] at hj
      rw [if_neg e, if_pos (by omega), if_pos h1]
      exact ih _ _ _ s c h (by simp [hs]) (hb _ hj).1 (hb _ hj).2 (by simp; omega)
theorem impl_CyclesOf.ok_0 (p : List Int) (hb : ∀ x ∈ p, 0 ≤ x ∧ x < p.length) (h8 : p.length ≤ 8) : ∀ (d i : Nat) (seen : List Bool) (C R : List (List Int)), cycM p d i seen C = some R → i + d = p.length → seen.length = p.length → C.length ≤ i → impl_CyclesOf.l0.v p C seen p.length i = some (R, true) := by
  intro d
  induction d with
  | zero =>
    intro i seen C R h hd hs hC
    cases h
    rw [impl_CyclesOf.l0.v_eq, if_neg (cast_nlt (by omega))]
  | succ d ih =>
    intro i seen C R h hd hs hC
    have hi : i < p.length := by omega
    rw [cycM] at h
    split at h
    · cases h
    · rename_i s c hw
      have hl := (walkM_length p 9 seen [] _ s c hw).1
      rw [impl_CyclesOf.l0.v_eq, if_pos (cast_lt hi), impl_CyclesOf.ok_1 p hb C (by omega) _ _ 9 seen [] i s c hw hs (Int.natCast_nonneg i) (cast_lt hi) (by simp), succ_wrap hi (by omega)]
      exact ih (i + 1) s _ R h (by omega) (by omega) (by split <;> (try simp) <;> omega)
theorem impl_CyclesOf.ok (p : List Int) : impl_CyclesOf.f.v p = if isOrd p = true then some ((cyclesM p).getD [], true) else some ([], false) := by
  rw [impl_CyclesOf.f.v_eq, impl_isOrder.ok]
  simp only [Option.bind_some]
  split
  · rename_i h
    obtain ⟨C, hC, _⟩ := cyclesM_ok p h
    rw [hC, if_pos (Int.natCast_nonneg _), toNat_cast, if_pos (by have := isOrd_len h; omega)]
    exact impl_CyclesOf.ok_0 p (isOrd_all h).1 (isOrd_len h).2 p.length 0 _ [] C hC (by omega) (by simp) (by simp)
  · rfl

theorem impl_inverted.ok_i (p : List Int) (hp : p.length ≤ 8) (i : Nat) (hi : i < p.length) : ∀ (d j : Nat) (acc : List (List Int)), j + d = p.length → acc.length + d ≤ 1000 → impl_inverted.l1.v p acc i j p.length i = impl_inverted.l0.v p (acc ++ invRow p i j d) p.length ((i + 1 : Nat) : Int) := by
  intro d
  induction d with
  | zero =>
    intro j acc hd ha
    rw [impl_inverted.l1.v_eq, if_neg (cast_nlt (by omega)), succ_wrap hi (by omega), invRow, List.append_nil]
  | succ d ih =>
    intro j acc hd ha
    have hj : j < p.length := by omega
    rw [impl_inverted.l1.v_eq, if_pos (cast_lt hj), if_pos (Int.natCast_nonneg i), if_pos (cast_lt hi), if_pos (Int.natCast_nonneg j), succ_wrap hj (by omega), invRow]
    by_cases e : rd p (i : Int) > rd p (j : Int)
    · rw [if_pos e, if_pos e, if_pos (by omega), ih (j + 1) _ (by omega) (by simp; omega), List.append_assoc]; rfl
    · rw [if_neg e, if_neg e, ih (j + 1) _ (by omega) (by omega)]
theorem impl_inverted.ok_o (p : List Int) (hp : p.length ≤ 8) : ∀ (d i : Nat) (acc : List (List Int)), i + d = p.length → acc.length + d * p.length ≤ 900 → impl_inverted.l0.v p acc p.length i = some (acc ++ invFrom p i d) := by
  intro d
  induction d with
  | zero =>
    intro i acc hd ha
    rw [impl_inverted.l0.v_eq, if_neg (cast_nlt (by omega)), invFrom, List.append_nil]
  | succ d ih =>
    intro i acc hd ha
    have hi : i < p.length := by omega
    rw [Nat.succ_mul] at ha
    have h1 := invRow_length p i (p.length - (i + 1)) (i + 1)
    rw [impl_inverted.l0.v_eq, if_pos (cast_lt hi), succ_wrap hi (by omega), impl_inverted.ok_i p hp i hi (p.length - (i + 1)) (i + 1) acc (by omega) (by omega), ih (i + 1) _ (by omega) (by rw [List.length_append]; omega), invFrom, List.append_assoc]
theorem impl_inverted.ok (p : List Int) (hp : p.length ≤ 8) : impl_inverted.f.v p = some (invs p) := by
  rw [impl_inverted.f.v_eq]
  have h2 : p.length * p.length ≤ 8 * 8 := Nat.mul_le_mul hp hp
  have := impl_inverted.ok_o p hp p.length 0 [] (by omega) (by simp; omega)
  simpa [invs] using this

theorem impl_inversions.ok (p : List Int) (hp : p.length ≤ 8) : impl_inversions.f.v p = some ((invs p).length : Int) := by
  rw [impl_inversions.f.v_eq, impl_inverted.ok p hp]; rfl

theorem impl_InversionsOf.ok (p : List Int) : impl_InversionsOf.f.v p = some (if isOrd p = true then (((invs p).length : Int), true) else (0, false)) := by
  rw [impl_InversionsOf.f.v_eq, impl_isOrder.ok, Option.bind_some]
  by_cases h : isOrd p = true
  · rw [if_pos h, if_pos h, impl_inversions.ok p (isOrd_len h).2]; rfl
  · rw [if_neg h, if_neg h]

theorem impl_IsOrder.ok (p : List Int) : impl_IsOrder.f.v p = some (isOrd p) := by
  rw [impl_IsOrder.f.v_eq, impl_isOrder.ok]; rfl

theorem impl_identity.ok_l (n : Nat) (hn : n ≤ 1000) : ∀ (d i : Nat) (acc : List Int), i + d = n → acc.length ≤ i → impl_identity.l0.v acc n i = some (acc ++ upFrom d i) := by
  intro d
  induction d with
  | zero =>
    intro i acc hd ha
    rw [impl_identity.l0.v_eq, if_neg (cast_nlt (by omega)), upFrom, List.append_nil]
  | succ d ih =>
    intro i acc hd ha
    have h : i < n := by omega
    rw [impl_identity.l0.v_eq, if_pos (cast_lt h), if_pos (by omega), succ_wrap h (by omega), ih (i + 1) _ (by omega) (by simp; omega), upFrom, List.append_assoc]; rfl
theorem impl_identity.ok (n : Nat) (hn : n ≤ 1000) : impl_identity.f.v n = some (ident n) := by
  rw [impl_identity.f.v_eq]
  have := impl_identity.ok_l n hn n 0 [] (by omega) (by simp)
  simpa [ident] using this

theorem impl_then.ok_l (p q : List Int) (hp : p.length ≤ 8) (hb : ∀ x ∈ p, 0 ≤ x ∧ x < q.length) : ∀ (d i : Nat) (acc : List Int), i + d = p.length → acc.length ≤ i → impl_then.l0.v q acc p p.length i = some (acc ++ (p.drop i).map fun x => rd q x) := by
  intro d
  induction d with
  | zero =>
    intro i acc hd ha
    rw [impl_then.l0.v_eq, if_neg (cast_nlt (by omega)), List.drop_eq_nil_of_le (by omega), List.map_nil, List.append_nil]
  | succ d ih =>
    intro i acc hd ha
    have h : i < p.length := by omega
    obtain ⟨h1, h2⟩ := hb _ (rd_mem p i h)
    rw [impl_then.l0.v_eq, if_pos (cast_lt h), if_pos (Int.natCast_nonneg i), if_pos (cast_lt h), if_pos h1, if_pos h2, if_pos (by omega), succ_wrap h (by omega), ih (i + 1) _ (by omega) (by simp; omega), drop_rd p i h, List.map_cons, List.append_assoc]
    rfl
theorem impl_then.ok (p q : List Int) (hp : p.length ≤ 8) (hb : ∀ x ∈ p, 0 ≤ x ∧ x < q.length) : impl_then.f.v p q = some (thenL p q) := by
  rw [impl_then.f.v_eq]
  have := impl_then.ok_l p q hp hb p.length 0 [] (by omega) (by simp)
  simpa [thenL] using this

theorem slices_Equal_int_int.ok_l (a b : List Int) (hab : a.length = b.length) (ha : a.length ≤ 1000) : ∀ (d i : Nat), i + d = a.length → slices_Equal_int_int.l0.v a b a.length i = some (decide (a.drop i = b.drop i)) := by
  intro d
  induction d with
  | zero =>
    intro i hd
    rw [slices_Equal_int_int.l0.v_eq, if_neg (cast_nlt (by omega)), List.drop_eq_nil_of_le (by omega), List.drop_eq_nil_of_le (by omega)]; rfl
  | succ d ih =>
    intro i hd
    have h : i < a.length := by omega
    rw [slices_Equal_int_int.l0.v_eq, if_pos (cast_lt h), if_pos (Int.natCast_nonneg i), if_pos (cast_lt h), if_pos (cast_lt (by omega)), succ_wrap h (by omega), ih (i + 1) (by omega), drop_rd a i h, drop_rd b i (by omega)]
    by_cases e : rd a (i : Int) = rd b (i : Int)
    · rw [if_pos e, e]
      congr 1
      rw [decide_eq_decide, List.cons.injEq]
      exact ⟨fun x => ⟨rfl, x⟩, fun x => x.2⟩
    · rw [if_neg e, decide_eq_false (fun x => e (List.cons.inj x).1)]
theorem slices_Equal_int_int.ok (a b : List Int) (hab : a.length = b.length) (ha : a.length ≤ 1000) : slices_Equal_int_int.f.v a b = some (decide (a = b)) := by
  rw [slices_Equal_int_int.f.v_eq, if_pos (by omega)]
  have := slices_Equal_int_int.ok_l a b hab ha a.length 0 (by omega)
  simpa using this
theorem slices_Equal_int_int.ok2 (a b : List Int) (ha : a.length ≤ 1000) : slices_Equal_int_int.f.v a b = some (decide (a = b)) := by
  by_cases h : a.length = b.length
  · exact slices_Equal_int_int.ok a b h ha
  · rw [slices_Equal_int_int.f.v_eq, if_neg (by omega), decide_eq_false (fun e => h (by rw [e]))]

theorem impl_OrderTimes.ok_l (p : List Int) (h : isOrd p = true) (C : List (List Int)) (hd : IsDec p C) (L : Nat) (hL : L = lc 1 C) (h9 : L ≤ 1000000000) : ∀ (d t : Nat), t + 1 + d = L → impl_OrderTimes.l0.v p ((t + 1 : Nat) : Int) (pw p t) = some ((L : Int), true) := by
  have h8 := (isOrd_len h).2
  intro d
  induction d with
  | zero =>
    intro t ht
    have e : pw p t = ident p.length := (pw_ident hd t).2 (fun c hc => Nat.mod_eq_zero_of_dvd (by rw [show t + 1 = L by omega, hL]; exact lc_dvd C 1 c hc))
    rw [impl_OrderTimes.l0.v_eq, impl_identity.ok p.length (by omega), Option.bind_some, slices_Equal_int_int.ok _ _ (by rw [pw_length, ident_length]) (by rw [pw_length]; omega), Option.bind_some, decide_eq_true e, if_pos rfl, show t + 1 = L by omega]
  | succ d ih =>
    intro t ht
    have e : ¬ pw p t = ident p.length := fun e => by
      have h1 := (pw_ident hd t).1 e
      have h2 := lc_least C 1 (t + 1) (Nat.one_dvd _) (fun c hc => Nat.dvd_of_mod_eq_zero (h1 c hc))
      have := Nat.le_of_dvd (by omega) h2
      omega
    rw [impl_OrderTimes.l0.v_eq, impl_identity.ok p.length (by omega), Option.bind_some, slices_Equal_int_int.ok _ _ (by rw [pw_length, ident_length]) (by rw [pw_length]; omega), Option.bind_some, decide_eq_false e, if_neg (by simp), impl_then.ok _ _ (by rw [pw_length]; omega) (pw_all p (isOrd_all h).1 t), Option.bind_some, succ_wrap (show t + 1 < L by omega) (by omega)]
    exact ih (t + 1) (by omega)
theorem impl_OrderTimes.yes (p : List Int) (h : isOrd p = true) (C : List (List Int)) (hC : cyclesM p = some C) (hd : IsDec p C) : impl_OrderTimes.f.v p = some (((lc 1 C : Nat) : Int), true) := by
  have hl := cyclesM_length hC
  have h8 := (isOrd_len h).2
  have b1 := lc_le C 1 hl.2
  have b2 : 9 ^ C.length ≤ 9 ^ 8 := Nat.pow_le_pow_right (by omega) (by omega)
  have b3 := lc_pos C 1 (by omega) (pos_len hd)
  rw [impl_OrderTimes.f.v_eq, impl_isOrder.ok, Option.bind_some, if_pos h]
  exact impl_OrderTimes.ok_l p h C hd (lc 1 C) rfl (by omega) (lc 1 C - 1) 0 (by omega)
theorem impl_OrderTimes.no (p : List Int) (h : ¬ isOrd p = true) : impl_OrderTimes.f.v p = some (0, false) := by
  rw [impl_OrderTimes.f.v_eq, impl_isOrder.ok, Option.bind_some, if_neg h]

theorem impl_SignOf.ok_1 (p : List Int) (n x i : Int) (ys : List Int) (hy : ys.length ≤ 1000) : ∀ (d k : Nat) (s : Int), k + d = ys.length → (s = 1 ∨ s = -1) → impl_SignOf.l1.v p s x p n i ys ys.length k = impl_SignOf.l0.v p (sgn s (gr x (ys.drop k))) p n (wrap64 (i + 1)) := by
  intro d
  induction d with
  | zero =>
    intro k s hd hs
    rw [impl_SignOf.l1.v_eq, if_neg (cast_nlt (by omega)), List.drop_eq_nil_of_le (by omega)]; rfl
  | succ d ih =>
    intro k s hd hs
    have h : k < ys.length := by omega
    rw [impl_SignOf.l1.v_eq, if_pos (cast_lt h), if_pos (Int.natCast_nonneg k), if_pos (cast_lt h), succ_wrap h (by omega), drop_rd ys k h, gr]
    by_cases c : rd ys (k : Int) > x
    · rw [if_pos c, if_pos c, wrap_id (x := -s) (by omega) (by omega), ih (k + 1) _ (by omega) (by omega), sgn_neg]
    · rw [if_neg c, if_neg c, ih (k + 1) _ (by omega) hs, Nat.zero_add]
theorem impl_SignOf.ok_0 (p : List Int) (hp : p.length ≤ 8) : ∀ (d i : Nat), i + d = p.length → impl_SignOf.l0.v p (sgn 1 (invC (p.take i))) p p.length i = some (sgn 1 (invC p), true) := by
  intro d
  induction d with
  | zero =>
    intro i hd
    rw [impl_SignOf.l0.v_eq, if_neg (cast_nlt (by omega)), List.take_of_length_le (by omega)]
  | succ d ih =>
    intro i hd
    have h : i < p.length := by omega
    rw [impl_SignOf.l0.v_eq, if_pos (cast_lt h), if_pos (Int.natCast_nonneg i), if_pos (cast_lt h), if_pos (by omega), Option.bind_some, toNat_cast]
    have := impl_SignOf.ok_1 p p.length (rd p (i : Int)) i (p.take i) (by rw [List.length_take]; omega) (p.take i).length 0 (sgn 1 (invC (p.take i))) (by omega) (sgn_one 1 _ (Or.inl rfl))
    refine Eq.trans this ?_
    rw [succ_wrap h (by omega), List.drop_zero, sgn_add, ← invC_snoc, ← take_rd p i h]
    exact ih (i + 1) (by omega)
theorem impl_SignOf.ok (p : List Int) : impl_SignOf.f.v p = some (if isOrd p = true then (sgn 1 (invC p), true) else (0, false)) := by
  rw [impl_SignOf.f.v_eq, impl_isOrder.ok, Option.bind_some]
  by_cases h : isOrd p = true
  · rw [if_pos h, if_pos h]
    exact impl_SignOf.ok_0 p (isOrd_len h).2 p.length 0 (by omega)
  · rw [if_neg h, if_neg h]

theorem impl_ThenOrder.ok (p q : List Int) : impl_ThenOrder.f.v p q = some (if isOrd p = true ∧ isOrd q = true ∧ p.length = q.length then (thenL p q, true) else ([], false)) := by
  rw [impl_ThenOrder.f.v_eq, impl_isOrder.ok, Option.bind_some]
  by_cases h : isOrd p = true
  · rw [if_pos h, impl_isOrder.ok, Option.bind_some]
    by_cases h2 : isOrd q = true
    · rw [if_pos h2]
      by_cases h3 : p.length = q.length
      · rw [if_pos (by omega), if_pos ⟨h, h2, h3⟩, impl_then.ok p q (isOrd_len h).2 (fun x hx => by have := (isOrd_all h).1 x hx; omega)]; rfl
      · rw [if_neg (by omega), if_neg (fun z => h3 z.2.2)]
    · rw [if_neg h2, if_neg (fun z => h2 z.2.1)]
  · rw [if_neg h, if_neg (fun z => h z.1)]

theorem laws_kSame.ok_l (a b : List Int) (hab : a.length = b.length) (ha : a.length ≤ 1000) : ∀ (d i : Nat), i + d = a.length → laws_kSame.l0.v a b a.length i = some (decide (a.drop i = b.drop i)) := by
  intro d
  induction d with
  | zero =>
    intro i hd
    rw [laws_kSame.l0.v_eq, if_neg (cast_nlt (by omega)), List.drop_eq_nil_of_le (by omega), List.drop_eq_nil_of_le (by omega)]; rfl
  | succ d ih =>
    intro i hd
    have h : i < a.length := by omega
    rw [laws_kSame.l0.v_eq, if_pos (cast_lt h), if_pos (Int.natCast_nonneg i), if_pos (cast_lt h), if_pos (cast_lt (by omega)), succ_wrap h (by omega), ih (i + 1) (by omega), drop_rd a i h, drop_rd b i (by omega)]
    by_cases e : rd a (i : Int) = rd b (i : Int)
    · rw [if_pos e, e]
      congr 1
      rw [decide_eq_decide, List.cons.injEq]
      exact ⟨fun x => ⟨rfl, x⟩, fun x => x.2⟩
    · rw [if_neg e, decide_eq_false (fun x => e (List.cons.inj x).1)]
theorem laws_kSame.ok (a b : List Int) (hab : a.length = b.length) (ha : a.length ≤ 1000) : laws_kSame.f.v a b = some (decide (a = b)) := by
  rw [laws_kSame.f.v_eq, if_pos (by omega)]
  have := laws_kSame.ok_l a b hab ha a.length 0 (by omega)
  simpa using this
theorem laws_kSame.self (a : List Int) (ha : a.length ≤ 1000) : laws_kSame.f.v a a = some true := by
  rw [laws_kSame.ok a a rfl ha]; simp

theorem laws_kRows.ok_l (a : List (List Int)) (ha : a.length ≤ 1000) (hx : ∀ x ∈ a, x.length ≤ 1000) : ∀ (d i : Nat), i + d = a.length → laws_kRows.l0.v a a (a.length : Int) (i : Int) = some true := by
  intro d
  induction d with
  | zero => intro i hi; rw [laws_kRows.l0.v_eq, if_neg (by omega)]
  | succ d ih =>
    intro i hi
    have h : i < a.length := by omega
    have e : rd_L2 a (i : Int) = a[i] := by
      unfold rd_L2
      rw [Int.toNat_natCast, List.getD_eq_getElem?_getD, List.getElem?_eq_getElem h, Option.getD_some]
    rw [laws_kRows.l0.v_eq, if_pos (cast_lt h), if_pos (Int.natCast_nonneg _), if_pos (cast_lt h), if_pos (cast_lt h), e, laws_kSame.self _ (hx _ (List.getElem_mem h)), Option.bind_some, if_pos rfl, succ_wrap h (by omega), ih (i + 1) (by omega)]
theorem laws_kRows.self (a : List (List Int)) (ha : a.length ≤ 1000) (hx : ∀ x ∈ a, x.length ≤ 1000) : laws_kRows.f.v a a = some true := by
  rw [laws_kRows.f.v_eq, if_pos rfl]
  exact laws_kRows.ok_l a ha hx a.length 0 (by omega)

theorem laws_kSorted.ok_l (l : List Int) (hl : l.length ≤ 1000) : ∀ (d i : Nat), i + 1 + d = l.length → laws_kSorted.l0.v l ((i : Int) + 1) = some (decide (descGo l d i = [])) := by
  intro d
  induction d with
  | zero => intro i hi; rw [laws_kSorted.l0.v_eq, if_neg (by omega)]; rfl
  | succ d ih =>
    intro i hi
    have e1 : wrap64 ((i : Int) + 1 - 1) = (i : Int) := by unfold wrap64; omega
    have e2 : wrap64 ((i : Int) + 1 + 1) = ((i + 1 : Nat) : Int) + 1 := by unfold wrap64; omega
    rw [laws_kSorted.l0.v_eq, if_pos (by omega), e1, if_pos (by omega), if_pos (by omega), if_pos (by omega), e2, ih (i + 1) (by omega), descGo]
    by_cases h : rd l (i : Int) > rd l ((i : Int) + 1)
    · rw [if_pos h, if_pos h]; rfl
    · rw [if_neg h, if_neg h]
theorem laws_kSorted.ok (l : List Int) (h1 : 1 ≤ l.length) (hl : l.length ≤ 1000) : laws_kSorted.f.v l = some (decide (desc l = [])) := by
  rw [laws_kSorted.f.v_eq]
  exact laws_kSorted.ok_l l hl (l.length - 1) 0 (by omega)

theorem spec_laBack.ok_l (p : List Int) (hp : isOrd p = true) : ∀ (d i : Nat) (acc : List Int), i + d = p.length → acc.length = p.length → spec_laBack.l0.v acc p p.length i = some (backGo p d i acc) := by
  have hl := isOrd_len hp
  intro d
  induction d with
  | zero =>
    intro i acc hd ha
    rw [spec_laBack.l0.v_eq, if_neg (cast_nlt (by omega)), backGo]
  | succ d ih =>
    intro i acc hd ha
    have h : i < p.length := by omega
    obtain ⟨h1, h2⟩ := isOrd_rd hp i h
    rw [spec_laBack.l0.v_eq, if_pos (cast_lt h), if_pos (Int.natCast_nonneg i), if_pos (cast_lt h), if_pos h1, if_pos (by omega), succ_wrap h (by omega), ih (i + 1) _ (by omega) (by rw [List.length_set]; exact ha), backGo]
theorem spec_laBack.ok (p : List Int) (hp : isOrd p = true) : spec_laBack.f.v p = some (backL p) := by
  have hl := isOrd_len hp
  rw [spec_laBack.f.v_eq, if_pos (Int.natCast_nonneg _), toNat_cast, if_pos (by omega)]
  exact spec_laBack.ok_l p hp p.length 0 _ (by omega) (by simp)

theorem spec_l1Has.ok_l (v : Int) (xs : List Int) (hn : xs.length ≤ 140737488355328) : ∀ (d i : Nat), xs.length - i = d → spec_l1Has.l0.v v xs xs.length i = some (decide (v ∈ xs.drop i)) := by
  intro d
  induction d with
  | zero =>
    intro i hd
    rw [spec_l1Has.l0.v_eq, if_neg (cast_nlt (by omega)), List.drop_eq_nil_of_le (by omega)]
    simp
  | succ d ih =>
    intro i hd
    have h : i < xs.length := by omega
    rw [spec_l1Has.l0.v_eq, if_pos (cast_lt h), if_pos (Int.natCast_nonneg i), if_pos (cast_lt h), succ_wrap h hn, ih (i + 1) (by omega), drop_rd xs i h]
    by_cases e : rd xs (i : Int) = v
    · rw [if_pos e]; simp [e]
    · have e' : ¬ v = rd xs (i : Int) := fun h => e h.symm
      rw [if_neg e]; simp [e']
theorem spec_l1Has.ok (v : Int) (xs : List Int) (hn : xs.length ≤ 140737488355328) : spec_l1Has.f.v xs v = some (decide (v ∈ xs)) := by
  rw [spec_l1Has.f.v_eq]
  have := spec_l1Has.ok_l v xs hn xs.length 0 (by omega)
  simpa using this

theorem spec_laOrder.ok_l (p : List Int) (hn : p.length ≤ 8) : ∀ (d i : Nat), p.length - i = d → spec_laOrder.l0.v p p p.length i = some (ordGo p.length (p.take i) (p.drop i)) := by
  intro d
  induction d with
  | zero =>
    intro i hd
    rw [spec_laOrder.l0.v_eq, if_neg (cast_nlt (by omega)), List.drop_eq_nil_of_le (by omega)]
    rfl
  | succ d ih =>
    intro i hd
    have h : i < p.length := by omega
    rw [spec_laOrder.l0.v_eq, if_pos (cast_lt h), if_pos (Int.natCast_nonneg i), if_pos (cast_lt h), succ_wrap h (by omega), ih (i + 1) (by omega), drop_rd p i h, take_rd p i h]
    rw [wrap_id (x := (p.length : Int) - 1) (by omega) (by omega), toNat_cast, spec_l1Has.ok _ _ (by rw [List.length_take]; omega)]
    unfold spec_l1In.f
    rw [ordGo_cons]
    by_cases a : 0 ≤ rd p (i : Int)
    · by_cases b : rd p (i : Int) ≤ (p.length : Int) - 1
      · have hi : (i : Int) ≤ (p.length : Int) := by omega
        by_cases c : rd p (i : Int) ∈ p.take i
        · simp only [ge_iff_le, a, b, c, hi, decide_true, decide_false, if_true, if_false, Option.bind_some, true_and, and_true, and_self, Bool.false_eq_true]
        · simp only [ge_iff_le, a, b, c, hi, decide_true, decide_false, if_true, if_false, Option.bind_some, true_and, and_true, and_self, Bool.false_eq_true]
      · simp [a, b]
    · simp [a]
theorem spec_laOrder.ok (p : List Int) : spec_laOrder.f.v p = some (isOrd p) := by
  rw [spec_laOrder.f.v_eq]
  unfold spec_l1In.f isOrd
  by_cases h : 1 ≤ p.length ∧ p.length ≤ 8
  · have := spec_laOrder.ok_l p h.2 p.length 0 (by omega)
    have h1 : (p.length : Int) ≥ 1 := by omega
    have h2 : (p.length : Int) ≤ 8 := by omega
    rw [if_pos h1, if_pos h, decide_eq_true h2]
    simpa using this
  · rw [if_neg h]
    by_cases h1 : (p.length : Int) ≥ 1
    · have h2 : ¬ (p.length : Int) ≤ 8 := by omega
      rw [if_pos h1, decide_eq_false h2]; rfl
    · rw [if_neg h1]; rfl

theorem spec_BackOrder.ok (p : List Int) : spec_BackOrder.f.v p = some (if isOrd p = true then (backL p, true) else ([], false)) := by
  rw [spec_BackOrder.f.v_eq, spec_laOrder.ok, Option.bind_some]
  by_cases h : isOrd p = true
  · rw [if_pos h, if_pos h, spec_laBack.ok p h]; rfl
  · rw [if_neg h, if_neg h]

theorem spec_laCycles.ok_1 (p : List Int) (hb : ∀ x ∈ p, 0 ≤ x ∧ x < p.length) (C : List (List Int)) (hC : C.length ≤ 100) (m i : Int) : ∀ (f : Nat) (seen : List Bool) (acc : List Int) (j : Int) (s : List Bool) (c : List Int), walkM p f seen acc j = some (s, c) → seen.length = p.length → 0 ≤ j → j < p.length → acc.length + f ≤ 100 → spec_laCycles.l1.v p C seen acc j m i = spec_laCycles.l0.v p (if c.length > 0 then C ++ [c] else C) s m (wrap64 (i + 1)) := by
  intro f
  induction f with
  | zero => intro seen acc j s c h; cases h
  | succ f ih =>
    intro seen acc j s c h hs h0 h1 ha
    rw [walkM] at h
    rw [spec_laCycles.l1.v_eq, if_pos h0, if_pos (by omega)]
    by_cases e : rdOf false seen j = true
    · rw [if_pos e] at h
      cases h
      rw [if_pos e]
      by_cases l : acc.length > 0
      · rw [if_pos (by omega), if_pos (by omega), if_pos l]
      · rw [if_neg (by omega), if_neg l]
    · rw [if_neg e] at h
      have hj := rd_mem p j.toNat (by omega)
      rw [Int.toNat_of_nonneg h0] at hj
      rw [if_neg e, if_pos (by omega), if_pos h1]
      exact ih _ _ _ s c h (by simp [hs]) (hb _ hj).1 (hb _ hj).2 (by simp; omega)
theorem spec_laCycles.ok_0 (p : List Int) (hb : ∀ x ∈ p, 0 ≤ x ∧ x < p.length) (h8 : p.length ≤ 8) : ∀ (d i : Nat) (seen : List Bool) (C R : List (List Int)), cycM p d i seen C = some R → i + d = p.length → seen.length = p.length → C.length ≤ i → spec_laCycles.l0.v p C seen p.length i = some R := by
  intro d
  induction d with
  | zero =>
    intro i seen C R h hd hs hC
    cases h
    rw [spec_laCycles.l0.v_eq, if_neg (cast_nlt (by omega))]
  | succ d ih =>
    intro i seen C R h hd hs hC
    have hi : i < p.length := by omega
    rw [cycM] at h
    split at h
    · cases h
    · rename_i s c hw
      have hl := (walkM_length p 9 seen [] _ s c hw).1
      rw [spec_laCycles.l0.v_eq, if_pos (cast_lt hi), spec_laCycles.ok_1 p hb C (by omega) _ _ 9 seen [] i s c hw hs (Int.natCast_nonneg i) (cast_lt hi) (by simp), succ_wrap hi (by omega)]
      exact ih (i + 1) s _ R h (by omega) (by omega) (by split <;> (try simp) <;> omega)
theorem spec_laCycles.ok (p : List Int) (h : isOrd p = true) : spec_laCycles.f.v p = cyclesM p := by
  obtain ⟨C, hC, _⟩ := cyclesM_ok p h
  rw [hC]
  rw [spec_laCycles.f.v_eq, if_pos (Int.natCast_nonneg _), toNat_cast, if_pos (by have := isOrd_len h; omega)]
  exact spec_laCycles.ok_0 p (isOrd_all h).1 (isOrd_len h).2 p.length 0 _ [] C hC (by omega) (by simp) (by simp)

theorem spec_CyclesOf.ok (p : List Int) : spec_CyclesOf.f.v p = if isOrd p = true then some ((cyclesM p).getD [], true) else some ([], false) := by
  rw [spec_CyclesOf.f.v_eq, spec_laOrder.ok]
  simp only [Option.bind_some]
  split
  · rename_i h
    obtain ⟨C, hC, _⟩ := cyclesM_ok p h
    rw [spec_laCycles.ok p h, hC]; rfl
  · rfl

theorem spec_l1Cur_next.ok (c : List Int) (hc : isCode c) (at_ s : Int) (h0 : 0 ≤ at_) (h1 : at_ ≤ 1000000000) : ∃ b s', spec_l1Cur_next.f c at_ s = some (b, at_ + 1, s') ∧ 0 ≤ b ∧ b ≤ 255 := by
  unfold spec_l1Cur_next.f
  rw [wrap_id (x := at_ + 1) (by omega) (by omega)]
  by_cases e : at_ < (c.length : Int)
  · have hb : 0 ≤ rd c at_ ∧ rd c at_ ≤ 255 := by
      have := rd_mem c at_.toNat (by omega)
      rw [Int.toNat_of_nonneg h0] at this
      exact hc.1 _ this
    rw [if_pos e, if_pos h0, if_pos (by omega), wrap_id (x := rd c at_) (by omega) (by omega)]
    exact ⟨_, _, rfl, hb.1, hb.2⟩
  · rw [if_neg e, if_neg (by omega)]
    exact ⟨_, _, rfl, (top_byte _).1, (top_byte _).2⟩

theorem spec_l1Cur_pick.ok (c : List Int) (hc : isCode c) (at_ s n : Int) (h0 : 0 ≤ at_) (h1 : at_ ≤ 100000000) (hn : 1 ≤ n) (hn2 : n ≤ 200) : ∃ x a' s', spec_l1Cur_pick.f c at_ s n = some (x, a', s') ∧ 0 ≤ x ∧ x < n ∧ 0 ≤ a' ∧ a' ≤ at_ + 1 := by
  unfold spec_l1Cur_pick.f
  by_cases e : n ≤ 1
  · rw [if_pos e]
    exact ⟨_, _, _, rfl, by omega, by omega, by omega, by omega⟩
  · obtain ⟨b, s', hf, hb0, hb1⟩ := spec_l1Cur_next.ok c hc at_ s h0 (by omega)
    rw [if_neg e, hf, Option.bind_some, if_neg (by omega), if_neg (by omega)]
    have := tmod_lt b n hb0 (by omega)
    exact ⟨_, _, _, rfl, this.1, this.2, by dsimp only; omega, by dsimp only; omega⟩

theorem spec_l1Cur_among.ok (c : List Int) (hc : isCode c) (at_ s : Int) (l : List Int) (h0 : 0 ≤ at_) (h1 : at_ ≤ 100000000) (hn : 1 ≤ l.length) (hn2 : l.length ≤ 200) : ∃ x a' s', spec_l1Cur_among.f c at_ s l = some (x, a', s') ∧ 0 ≤ a' ∧ a' ≤ at_ + 1 := by
  unfold spec_l1Cur_among.f
  obtain ⟨x, a', s', hf, x0, x1, a0, a1⟩ := spec_l1Cur_pick.ok c hc at_ s l.length h0 h1 (by omega) (by omega)
  rw [hf, Option.bind_some, if_pos x0, if_pos x1]
  exact ⟨_, _, _, rfl, a0, a1⟩

theorem spec_l1Own.ok (l : List Int) (h : l.length ≤ 1048576) : spec_l1Own.f l = some l := by
  unfold spec_l1Own.f
  rw [Option.bind_some, if_pos (by simp; omega)]; rfl

theorem spec_l1Cur_sureOrder.ok_l (c : List Int) (hc : isCode c) (n m : Int) (hn : n ≤ 100) (hm : m ≤ 50000000) : ∀ (d : Nat) (p : List Int) (x : Int) (at_ s : Int), x + d = n → 0 ≤ x → (p.length : Int) = x → 0 ≤ at_ → at_ ≤ m + x → ∃ q a' s', spec_l1Cur_sureOrder.l0.v n p x c at_ s = some (q, a', s') ∧ (q.length : Int) = n ∧ 0 ≤ a' ∧ a' ≤ m + n := by
  intro d
  induction d with
  | zero =>
    intro p x at_ s hd h0 hp a0 a1
    rw [spec_l1Cur_sureOrder.l0.v_eq, if_neg (by omega)]
    exact ⟨_, _, _, rfl, by omega, a0, by omega⟩
  | succ d ih =>
    intro p x at_ s hd h0 hp a0 a1
    obtain ⟨y, a', s', hf, y0, y1, b0, b1⟩ := spec_l1Cur_pick.ok c hc at_ s (p.length + 1) a0 (by omega) (by omega) (by omega)
    rw [spec_l1Cur_sureOrder.l0.v_eq, if_pos (by omega), wrap_id (x := (p.length : Int) + 1) (by omega) (by omega), hf, Option.bind_some]
    simp only []
    rw [if_pos y0, if_pos (by omega), spec_l1Own.ok _ (by rw [List.length_take]; omega), Option.bind_some, if_pos (by rw [List.length_take]; omega), Option.bind_some, Option.bind_some, if_pos (by simp; omega), wrap_id (x := x + 1) (by omega) (by omega)]
    exact ih _ (x + 1) a' s' (by omega) (by omega) (by simp; omega) b0 (by omega)
theorem spec_l1Cur_sureOrder.ok (c : List Int) (hc : isCode c) (at_ s n : Int) (h0 : 0 ≤ n) (hn : n ≤ 100) (a0 : 0 ≤ at_) (m : Int) (hm : m ≤ 50000000) (a1 : at_ ≤ m) : ∃ q a' s', spec_l1Cur_sureOrder.f.v c at_ s n = some (q, a', s') ∧ (q.length : Int) = n ∧ 0 ≤ a' ∧ a' ≤ m + n := by
  rw [spec_l1Cur_sureOrder.f.v_eq]
  exact spec_l1Cur_sureOrder.ok_l c hc n m hn hm n.toNat [] 0 at_ s (by omega) (by omega) (by simp) a0 (by omega)

theorem spec_l1Cur_order.gen (c : List Int) (hc : isCode c) (at_ s m : Int) (hm : m ≤ 40000000) (a0 : 0 ≤ at_) (a1 : at_ ≤ m) : ∃ q a' s', spec_l1Cur_order.f.v c at_ s = some (q, a', s') ∧ q.length ≤ 100 ∧ 0 ≤ a' ∧ a' ≤ m + 200 := by
  rw [spec_l1Cur_order.f.v_eq]
  obtain ⟨x, b, t, hf, x0, x1, b0, b1⟩ := spec_l1Cur_pick.ok c hc at_ s 6 a0 (by omega) (by omega) (by omega)
  rw [hf, Option.bind_some]
  simp only []
  obtain ⟨q, b2, t2, hf2, ql, c0, c1⟩ := spec_l1Cur_sureOrder.ok c hc b t (1 + x) (by omega) (by omega) b0 (m + 1) (by omega) (by omega)
  rw [wrap_id (x := 1 + x) (by omega) (by omega), hf2, Option.bind_some]
  simp only []
  obtain ⟨y, b3, t3, hf3, y0, y1, d0, d1⟩ := spec_l1Cur_pick.ok c hc b2 t2 14 c0 (by omega) (by omega) (by omega)
  rw [hf3, Option.bind_some]
  simp only []
  by_cases e0 : y = 0
  · rw [if_pos e0]
    obtain ⟨z, b4, t4, hf4, z0, z1, g0, g1⟩ := spec_l1Cur_pick.ok c hc b3 t3 q.length d0 (by omega) (by omega) (by omega)
    rw [hf4, Option.bind_some]
    simp only []
    obtain ⟨u, b5, t5, hf5, k0, k1⟩ := spec_l1Cur_among.ok c hc b4 t4 [-1, 0, (q.length : Int), 4611686018427387904] g0 (by omega) (by simp) (by simp)
    rw [hf5, Option.bind_some]
    simp only []
    rw [if_pos z0, if_pos z1]
    exact ⟨_, _, _, rfl, by rw [List.length_set]; omega, k0, by omega⟩
  · rw [if_neg e0]
    by_cases e1 : y = 1
    · rw [if_pos e1]
      exact ⟨_, _, _, rfl, by simp, d0, by omega⟩
    · rw [if_neg e1]
      by_cases e2 : y = 2
      · rw [if_pos e2]
        obtain ⟨z, b4, t4, hf4, z0, z1, g0, g1⟩ := spec_l1Cur_pick.ok c hc b3 t3 2 d0 (by omega) (by omega) (by omega)
        rw [hf4, Option.bind_some]
        simp only []
        obtain ⟨q2, b5, t5, hf5, ql2, k0, k1⟩ := spec_l1Cur_sureOrder.ok c hc b4 t4 (8 + z) (by omega) (by omega) g0 (m + 100) (by omega) (by omega)
        rw [wrap_id (x := 8 + z) (by omega) (by omega), hf5, Option.bind_some]
        exact ⟨_, _, _, rfl, by dsimp only; omega, k0, by dsimp only; omega⟩
      · rw [if_neg e2]
        exact ⟨_, _, _, rfl, by omega, d0, by omega⟩
theorem spec_l1Cur_order.ok (c : List Int) (hc : isCode c) (at_ s : Int) (a0 : 0 ≤ at_) (a1 : at_ ≤ 1000) : ∃ q a' s', spec_l1Cur_order.f.v c at_ s = some (q, a', s') ∧ q.length ≤ 200 ∧ 0 ≤ a' ∧ a' ≤ 10000000 := by
  obtain ⟨q, a', s', h1, h2, h3, h4⟩ := spec_l1Cur_order.gen c hc at_ s 1000 (by omega) a0 a1
  exact ⟨q, a', s', h1, by omega, h3, by omega⟩
theorem spec_l1Cur_order.short (c : List Int) (hc : isCode c) (at_ s : Int) (a0 : 0 ≤ at_) (a1 : at_ ≤ 1000) : ∃ q a' s', spec_l1Cur_order.f.v c at_ s = some (q, a', s') ∧ q.length ≤ 100 ∧ 0 ≤ a' ∧ a' ≤ 10000000 := by
  obtain ⟨q, a', s', h1, h2, h3, h4⟩ := spec_l1Cur_order.gen c hc at_ s 1000 (by omega) a0 a1
  exact ⟨q, a', s', h1, h2, h3, by omega⟩

theorem spec_DrawIsOrder.ok (c : List Int) (hc : isCode c) : ∃ q, spec_DrawIsOrder.f.v c = some q ∧ q.length ≤ 200 := by
  obtain ⟨q, a', s', hf, hq, _, _⟩ := spec_l1Cur_order.ok c hc 0 0 (by omega) (by omega)
  rw [spec_DrawIsOrder.f.v_eq, hf]
  exact ⟨_, rfl, hq⟩

theorem spec_DrawOrderTimes.ok (c : List Int) (hc : isCode c) : ∃ q, spec_DrawOrderTimes.f.v c = some q ∧ q.length ≤ 200 := by
  obtain ⟨q, hf, hq⟩ := spec_DrawIsOrder.ok c hc
  rw [spec_DrawOrderTimes.f.v_eq, hf]
  exact ⟨_, rfl, hq⟩

theorem spec_l1Cur_one.ok (c : List Int) (hc : isCode c) (at_ s n : Int) (h0 : 0 ≤ at_) (h1 : at_ ≤ 100000000) (hn : 1 ≤ n) (hn2 : n ≤ 200) : ∃ b a' s', spec_l1Cur_one.f c at_ s n = some (b, a', s') ∧ 0 ≤ a' ∧ a' ≤ at_ + 1 := by
  obtain ⟨x, a', s', h, _, _, h2, h3⟩ := spec_l1Cur_pick.ok c hc at_ s n h0 h1 hn hn2
  unfold spec_l1Cur_one.f
  rw [h]
  exact ⟨_, _, _, rfl, h2, h3⟩

theorem spec_DrawThenOrder.ok_j (c : List Int) (hc : isCode c) (q : List Int) (hq : q.length ≤ 100) (b : Bool) (a s : Int) (h0 : 0 ≤ a) (h1 : a ≤ 20000000) : ∃ r, spec_DrawThenOrder.j0.v q b c a s = some (q, r) ∧ r.length ≤ 200 := by
  rw [spec_DrawThenOrder.j0.v_eq]
  cases b with
  | true =>
    obtain ⟨r, a', s', h, hr, _⟩ := spec_l1Cur_order.gen c hc a s 20000000 (by omega) h0 h1
    rw [if_pos rfl, h, Option.bind_some]
    exact ⟨r, rfl, by omega⟩
  | false =>
    obtain ⟨r, a', s', h, hr, _⟩ := spec_l1Cur_sureOrder.ok c hc a s (q.length : Int) (by omega) (by omega) h0 20000000 (by omega) h1
    rw [if_neg (by simp), h, Option.bind_some]
    exact ⟨r, rfl, by omega⟩
theorem spec_DrawThenOrder.ok (c : List Int) (hc : isCode c) : ∃ q r, spec_DrawThenOrder.f.v c = some (q, r) ∧ q.length ≤ 200 ∧ r.length ≤ 200 := by
  obtain ⟨q, a, s, h, hq, h0, h1⟩ := spec_l1Cur_order.short c hc 0 0 (by omega) (by omega)
  rw [spec_DrawThenOrder.f.v_eq, h, Option.bind_some]
  simp only []
  by_cases e : (q.length : Int) = 0
  · rw [if_pos e]
    obtain ⟨r, h, hr⟩ := spec_DrawThenOrder.ok_j c hc q hq true a s h0 (by omega)
    exact ⟨q, r, h, by omega, hr⟩
  · obtain ⟨b, a', s', h2, h3, h4⟩ := spec_l1Cur_one.ok c hc a s 8 h0 (by omega) (by omega) (by omega)
    rw [if_neg e, h2, Option.bind_some]
    obtain ⟨r, h, hr⟩ := spec_DrawThenOrder.ok_j c hc q hq b a' s' h3 (by omega)
    exact ⟨q, r, h, by omega, hr⟩

theorem spec_IsOrder.ok (p : List Int) : spec_IsOrder.f.v p = some (isOrd p) := by
  rw [spec_IsOrder.f.v_eq, spec_laOrder.ok]; rfl

theorem spec_laCommon.ok_l : ∀ (k b a : Nat), b ≤ k → spec_laCommon.l0.v a b = some ((Nat.gcd a b : Nat) : Int) := by
  intro k
  induction k with
  | zero =>
    intro b a h
    obtain rfl : b = 0 := by omega
    rw [spec_laCommon.l0.v_eq, if_neg (by simp), Nat.gcd_zero_right]
  | succ k ih =>
    intro b a h
    by_cases hb : b = 0
    · subst hb
      rw [spec_laCommon.l0.v_eq, if_neg (by simp), Nat.gcd_zero_right]
    · have := Nat.mod_lt a (show b > 0 by omega)
      rw [spec_laCommon.l0.v_eq, if_pos (by omega), if_neg (by omega), ← Int.ofNat_tmod, ih _ b (by omega), Nat.gcd_comm a b, Nat.gcd_rec b a, Nat.gcd_comm]
theorem spec_laCommon.ok (a b : Nat) : spec_laCommon.f.v a b = some ((Nat.gcd a b : Nat) : Int) := by
  rw [spec_laCommon.f.v_eq, spec_laCommon.ok_l b b a (Nat.le_refl b)]

theorem spec_OrderTimes.ok_l (C : List (List Int)) (hC : C.length ≤ 8) (h9 : ∀ c ∈ C, c.length ≤ 9) (h0 : ∀ c ∈ C, 0 < c.length) : ∀ (d i a : Nat), i + d = C.length → 0 < a → a ≤ 9 ^ i → spec_OrderTimes.l0.v a C C.length i = some (((lc a (C.drop i) : Nat) : Int), true) := by
  intro d
  induction d with
  | zero =>
    intro i a hd ha h
    rw [spec_OrderTimes.l0.v_eq, if_neg (cast_nlt (by omega)), List.drop_eq_nil_of_le (by omega)]; rfl
  | succ d ih =>
    intro i a hd ha h
    have hi : i < C.length := by omega
    have e : rd_L2 C (i : Int) = C[i] := by
      unfold rd_L2
      rw [toNat_cast, List.getD_eq_getElem?_getD, List.getElem?_eq_getElem hi]; rfl
    have m0 := h0 _ (List.getElem_mem hi)
    have m9 := h9 _ (List.getElem_mem hi)
    have p8 : 9 ^ i ≤ 9 ^ 8 := Nat.pow_le_pow_right (by omega) (by omega)
    have g0 : 0 < Nat.gcd a C[i].length := Nat.gcd_pos_of_pos_left _ ha
    have l9 : Nat.lcm a C[i].length ≤ 9 ^ (i + 1) := by
      refine Nat.le_trans (lcm_le _ _) ?_
      rw [Nat.pow_succ]
      exact Nat.mul_le_mul h m9
    have q8 : 9 ^ (i + 1) ≤ 9 ^ 9 := Nat.pow_le_pow_right (by omega) (by omega)
    have e1 : (a / Nat.gcd a C[i].length) * C[i].length = Nat.lcm a C[i].length := by
      unfold Nat.lcm
      rw [Nat.mul_comm, Nat.mul_comm a, Nat.mul_div_assoc _ (Nat.gcd_dvd_left a _)]
    have d1 : a / Nat.gcd a C[i].length ≤ a := Nat.div_le_self _ _
    obtain ⟨q, hq⟩ : ∃ q : Nat, q = a / Nat.gcd a C[i].length := ⟨_, rfl⟩
    rw [← hq] at e1 d1
    have e2 : (q : Int) * ((C[i].length : Nat) : Int) = ((Nat.lcm a C[i].length : Nat) : Int) := by
      rw [← e1]; exact (Int.natCast_mul _ _).symm
    rw [spec_OrderTimes.l0.v_eq, if_pos (cast_lt hi), if_pos (Int.natCast_nonneg i), if_pos (cast_lt hi), e, spec_laCommon.ok, Option.bind_some, if_neg (by omega), ← Int.ofNat_tdiv, ← hq, wrap_id (x := (q : Int)) (by omega) (by omega), e2, wrap_id (x := ((Nat.lcm a C[i].length : Nat) : Int)) (by omega) (by omega), succ_wrap hi (by omega), ih (i + 1) _ (by omega) (Nat.lcm_pos ha m0) l9, List.drop_eq_getElem_cons hi, lc]
theorem spec_OrderTimes.yes (p : List Int) (h : isOrd p = true) (C : List (List Int)) (hC : cyclesM p = some C) (hd : IsDec p C) : spec_OrderTimes.f.v p = some (((lc 1 C : Nat) : Int), true) := by
  have hl := cyclesM_length hC
  have h8 := (isOrd_len h).2
  rw [spec_OrderTimes.f.v_eq, spec_laOrder.ok, Option.bind_some, if_pos h, spec_laCycles.ok p h, hC, Option.bind_some]
  have := spec_OrderTimes.ok_l C (by omega) hl.2 (pos_len hd) C.length 0 1 (by omega) (by omega) (by omega)
  simpa using this
theorem spec_OrderTimes.no (p : List Int) (h : ¬ isOrd p = true) : spec_OrderTimes.f.v p = some (0, false) := by
  rw [spec_OrderTimes.f.v_eq, spec_laOrder.ok, Option.bind_some, if_neg h]

theorem spec_laSign.ok_l (C : List (List Int)) (hC : C.length ≤ 1000) : ∀ (d i : Nat) (s : Int), i + d = C.length → (s = 1 ∨ s = -1) → spec_laSign.l0.v s C C.length i = some (sgn s (evn (C.drop i))) := by
  intro d
  induction d with
  | zero =>
    intro i s hd hs
    rw [spec_laSign.l0.v_eq, if_neg (cast_nlt (by omega)), List.drop_eq_nil_of_le (by omega)]; rfl
  | succ d ih =>
    intro i s hd hs
    have h : i < C.length := by omega
    have e : rd_L2 C (i : Int) = C[i] := by
      unfold rd_L2
      rw [toNat_cast, List.getD_eq_getElem?_getD, List.getElem?_eq_getElem h]; rfl
    rw [spec_laSign.l0.v_eq, if_pos (cast_lt h), if_pos (Int.natCast_nonneg i), if_pos (cast_lt h), e, succ_wrap h (by omega), List.drop_eq_getElem_cons h, evn]
    by_cases c : (C[i].length : Int) % 2 = 0
    · rw [if_pos c, if_pos c, wrap_id (x := -s) (by omega) (by omega), ih (i + 1) _ (by omega) (by omega), sgn_neg]
    · rw [if_neg c, if_neg c, ih (i + 1) _ (by omega) hs, Nat.zero_add]
theorem spec_laSign.ok (p : List Int) (h : isOrd p = true) : spec_laSign.f.v p = some (sgn 1 (invC p)) := by
  obtain ⟨C, hC, hd⟩ := cyclesM_ok p h
  have hl := (cyclesM_length hC).1
  have h8 := (isOrd_len h).2
  rw [spec_laSign.f.v_eq, spec_laCycles.ok p h, hC, Option.bind_some]
  have := spec_laSign.ok_l C (by omega) C.length 0 1 (by omega) (Or.inl rfl)
  rw [← sign_dec (isOrd_all h).2 hd]
  simpa using this

theorem spec_SignOf.ok (p : List Int) : spec_SignOf.f.v p = some (if isOrd p = true then (sgn 1 (invC p), true) else (0, false)) := by
  rw [spec_SignOf.f.v_eq, spec_laOrder.ok, Option.bind_some]
  by_cases h : isOrd p = true
  · rw [if_pos h, if_pos h, spec_laSign.ok p h]; rfl
  · rw [if_neg h, if_neg h]

theorem spec_laThen.ok_l (p q : List Int) (hp : p.length ≤ 8) (hb : ∀ x ∈ p, 0 ≤ x ∧ x < q.length) : ∀ (d i : Nat) (acc : List Int), i + d = p.length → acc.length ≤ i → spec_laThen.l0.v q acc p p.length i = some (acc ++ (p.drop i).map fun x => rd q x) := by
  intro d
  induction d with
  | zero =>
    intro i acc hd ha
    rw [spec_laThen.l0.v_eq, if_neg (cast_nlt (by omega)), List.drop_eq_nil_of_le (by omega), List.map_nil, List.append_nil]
  | succ d ih =>
    intro i acc hd ha
    have h : i < p.length := by omega
    obtain ⟨h1, h2⟩ := hb _ (rd_mem p i h)
    rw [spec_laThen.l0.v_eq, if_pos (cast_lt h), if_pos (Int.natCast_nonneg i), if_pos (cast_lt h), if_pos h1, if_pos h2, if_pos (by omega), succ_wrap h (by omega), ih (i + 1) _ (by omega) (by simp; omega), drop_rd p i h, List.map_cons, List.append_assoc]
    rfl
theorem spec_laThen.ok (p q : List Int) (hp : p.length ≤ 8) (hb : ∀ x ∈ p, 0 ≤ x ∧ x < q.length) : spec_laThen.f.v p q = some (thenL p q) := by
  rw [spec_laThen.f.v_eq]
  have := spec_laThen.ok_l p q hp hb p.length 0 [] (by omega) (by simp)
  simpa [thenL] using this

theorem spec_ThenOrder.ok (p q : List Int) : spec_ThenOrder.f.v p q = some (if isOrd p = true ∧ isOrd q = true ∧ p.length = q.length then (thenL p q, true) else ([], false)) := by
  rw [spec_ThenOrder.f.v_eq, spec_laOrder.ok, Option.bind_some]
  by_cases h : isOrd p = true
  · rw [if_pos h, spec_laOrder.ok, Option.bind_some]
    by_cases h2 : isOrd q = true
    · rw [if_pos h2]
      by_cases h3 : p.length = q.length
      · rw [if_pos (by omega), if_pos ⟨h, h2, h3⟩, spec_laThen.ok p q (isOrd_len h).2 (fun x hx => by have := (isOrd_all h).1 x hx; omega)]; rfl
      · rw [if_neg (by omega), if_neg (fun z => h3 z.2.2)]
    · rw [if_neg h2, if_neg (fun z => h2 z.2.1)]
  · rw [if_neg h, if_neg (fun z => h z.1)]

theorem og_sgn (C : List (List Int)) (hC : C.length ≤ 1000) : ∀ i, i ≤ C.length → og_s C i = sgn 1 (evn (C.take i)) := by
  have hev : ∀ (A : List (List Int)) (c : List Int), evn (A ++ [c]) = evn A + (if (c.length : Int) % 2 = 0 then 1 else 0) := by
    intro A c
    induction A with
    | nil => simp [evn]
    | cons a A ih => rw [List.cons_append, evn, ih, evn]; omega
  intro i
  induction i with
  | zero => intro _; rfl
  | succ i ih =>
    intro hi
    have h : i < C.length := by omega
    have e : C.getD i [] = C[i] := by rw [List.getD_eq_getElem?_getD, List.getElem?_eq_getElem h]; rfl
    rw [og_s, ih (by omega), List.take_succ_eq_append_getElem h, hev, e]
    have hs := sgn_one 1 (evn (C.take i)) (Or.inl rfl)
    by_cases h2 : C[i].length % 2 = 0
    · rw [if_pos h2, if_pos (by omega), ← sgn_add]
      rcases hs with hs | hs <;> rw [hs] <;> decide +kernel
    · rw [if_neg h2, if_neg (by omega), Nat.add_zero]
theorem og_cnt (C : List (List Int)) (hC : C.flatten.length ≤ 1000) : ∀ i, i ≤ C.length → og_n C i = (((C.take i).flatten.length : Nat) : Int) := by
  intro i
  induction i with
  | zero => intro _; rfl
  | succ i ih =>
    intro hi
    have h : i < C.length := by omega
    have e : C.getD i [] = C[i] := by rw [List.getD_eq_getElem?_getD, List.getElem?_eq_getElem h]; rfl
    have hl : (C.take (i + 1)).flatten.length ≤ C.flatten.length := by
      conv => rhs; rw [← List.take_append_drop (i + 1) C]
      rw [List.flatten_append, List.length_append]; omega
    rw [List.take_succ_eq_append_getElem h, List.flatten_append, List.length_append] at hl ⊢
    simp only [List.flatten_cons, List.flatten_nil, List.append_nil] at hl ⊢
    rw [og_n, ih (by omega), e]
    unfold wrap64
    omega
theorem og_body (p : List Int) (hp : isOrd p = true) (C : List (List Int)) (hC : cyclesM p = some C) (hd : IsDec p C) : OgBody p ((lc 1 C : Nat) : Int) C (sgn 1 (invC p)) (backL p) := by
  have h8 := isOrd_len hp
  have ha := isOrd_all hp
  have hl := cyclesM_length hC
  have hH := cycles_heads p hp hC
  have hpos := pos_len hd
  have hlp := lc_pos C 1 (by decide) hpos
  have hle : lc 1 C ≤ 1000000000 := by
    have h1 := lc_le C 1 hl.2
    have h2 : 9 ^ C.length ≤ 9 ^ 8 := Nat.pow_le_pow_right (by decide) (by omega)
    have h3 : (9 : Nat) ^ 8 = 43046721 := by decide
    omega
  have hdl := dec_len hd
  obtain ⟨ki, hki⟩ := impl_InversionsOf.f.ends p (r := (((invs p).length : Int), true)) (by rw [impl_InversionsOf.ok, if_pos hp])
  obtain ⟨ks, hks⟩ := laws_kSorted.f.ends (pw p (lc 1 C - 1)) (r := true) (by
    rw [laws_kSorted.ok _ (by rw [pw_length]; omega) (by rw [pw_length]; omega), decide_eq_true]
    rw [pw_sorted hp, pw_ident hd]
    intro c hc
    rw [Nat.sub_add_cancel hlp]
    exact Nat.mod_eq_zero_of_dvd (lc_dvd C 1 c hc))
  obtain ⟨kh, hkh⟩ := impl_ThenOrder.f.ends p (backL p) (r := (ident p.length, true)) (by rw [impl_ThenOrder.ok, if_pos ⟨hp, isOrd_backL hp, (backL_length p).symm⟩, then_back p hp])
  obtain ⟨kt, hkt⟩ := laws_kSorted.f.ends (ident p.length) (r := true) (by rw [laws_kSorted.ok _ (by rw [ident_length]; omega) (by rw [ident_length]; omega), desc_ident]; rfl)
  refine ⟨lc 1 C, ((invs p).length : Int), pw p, ident p.length, rfl, hlp, hle, by omega, fun x hx => by have := hl.2 x hx; omega, by omega, fun i hi => ?_, ?_, ?_, ⟨ki, hki⟩, ?_, rfl, fun i hi => ⟨?_, true, ?_⟩, ⟨ks, hks⟩, ⟨kh, hkh⟩, ⟨kt, hkt⟩⟩
  · have e : C.getD i [] = C[i] := by rw [List.getD_eq_getElem?_getD, List.getElem?_eq_getElem hi]; rfl
    have hm := List.getElem_mem hi
    refine ⟨by rw [e]; exact hpos _ hm, by rw [e]; exact Nat.mod_eq_zero_of_dvd (lc_dvd C 1 _ hm), fun h0 => ?_, fun j hj => ?_⟩
    · have hi' : i - 1 < C.length := by omega
      have e' : C.getD (i - 1) [] = C[i - 1] := by rw [List.getD_eq_getElem?_getD, List.getElem?_eq_getElem hi']; rfl
      rw [e, e']
      exact ⟨hpos _ (List.getElem_mem hi'), List.pairwise_iff_getElem.1 hH.inc (i - 1) i hi' hi (by omega)⟩
    · rw [e] at hj ⊢
      have hx := hd.lt (rd C[i] (j : Int)) (List.mem_flatten.2 ⟨_, hm, rd_mem _ j hj⟩)
      obtain ⟨h, r, hc, _, hle'⟩ := hH.least _ hm
      refine ⟨hx.1, hx.2, cyc_at (hd.cyc _ hm) j hj, ?_⟩
      have h1 := hle' _ (rd_mem _ j hj)
      have h2 : rd C[i] 0 = h := by rw [hc]; rfl
      rw [h2]; exact h1
  · rw [og_cnt C (by omega) _ (Nat.le_refl _), List.take_length, hdl]
  · rw [og_sgn C (by omega) _ (Nat.le_refl _), List.take_length, sign_dec ha.2 hd]
  · rw [invs_invC, Int.tmod_eq_emod_of_nonneg (Int.natCast_nonneg _)]
    unfold sgn
    by_cases h2 : invC p % 2 = 0
    · rw [if_pos h2, show ((invC p : Nat) : Int) % 2 = 0 by omega]; rfl
    · rw [if_neg h2, show ((invC p : Nat) : Int) % 2 = 1 by omega]; rfl
  · refine laws_kSorted.f.ends (pw p i) (r := false) ?_
    rw [laws_kSorted.ok _ (by rw [pw_length]; omega) (by rw [pw_length]; omega), decide_eq_false]
    intro hs
    rw [pw_sorted hp, pw_ident hd] at hs
    have := Nat.le_of_dvd (by omega) (lc_least C 1 (i + 1) (Nat.one_dvd _) (fun c hc => Nat.dvd_of_mod_eq_zero (hs c hc)))
    omega
  · exact impl_ThenOrder.f.ends (pw p i) p (r := (pw p (i + 1), true)) (by rw [impl_ThenOrder.ok, if_pos ⟨isOrd_pw hp i, hp, pw_length p i⟩]; rfl)
theorem og_head (l0 : List Int) (c0 : isCode l0) : OgHead l0 := by
  obtain ⟨p, hf, hq⟩ := spec_DrawOrderTimes.ok l0 c0
  obtain ⟨kd, hkd⟩ := spec_DrawOrderTimes.f.ends l0 hf
  by_cases hp : isOrd p = true
  · obtain ⟨C, hC, hd⟩ := cyclesM_ok p hp
    have hl := cyclesM_length hC
    have h8 := isOrd_len hp
    refine ⟨p, ((lc 1 C : Nat) : Int), C, sgn 1 (invC p), backL p, true, ⟨kd, hkd⟩, impl_OrderTimes.f.ends p (impl_OrderTimes.yes p hp C hC hd), spec_OrderTimes.f.ends p (spec_OrderTimes.yes p hp C hC hd), impl_CyclesOf.f.ends p (by rw [impl_CyclesOf.ok, if_pos hp, hC]; rfl), spec_CyclesOf.f.ends p (by rw [spec_CyclesOf.ok, if_pos hp, hC]; rfl), impl_SignOf.f.ends p (by rw [impl_SignOf.ok, if_pos hp]), spec_SignOf.f.ends p (by rw [spec_SignOf.ok, if_pos hp]), impl_BackOrder.f.ends p (by rw [impl_BackOrder.ok, if_pos hp]), spec_BackOrder.f.ends p (by rw [spec_BackOrder.ok, if_pos hp]), laws_kRows.f.ends C C (laws_kRows.self C (by omega) (fun x hx => by have := hl.2 x hx; omega)), laws_kSame.f.ends _ _ (laws_kSame.self _ (by rw [backL_length]; omega)), impl_IsOrder.f.ends p (by rw [impl_IsOrder.ok, hp]), spec_IsOrder.f.ends p (by rw [spec_IsOrder.ok, hp]), fun _ => og_body p hp C hC hd⟩
  · have hp' : isOrd p = false := by simpa using hp
    exact ⟨p, 0, [], 0, [], false, ⟨kd, hkd⟩, impl_OrderTimes.f.ends p (impl_OrderTimes.no p hp), spec_OrderTimes.f.ends p (spec_OrderTimes.no p hp), impl_CyclesOf.f.ends p (by rw [impl_CyclesOf.ok, if_neg hp]), spec_CyclesOf.f.ends p (by rw [spec_CyclesOf.ok, if_neg hp]), impl_SignOf.f.ends p (by rw [impl_SignOf.ok, if_neg hp]), spec_SignOf.f.ends p (by rw [spec_SignOf.ok, if_neg hp]), impl_BackOrder.f.ends p (by rw [impl_BackOrder.ok, if_neg hp]), spec_BackOrder.f.ends p (by rw [spec_BackOrder.ok, if_neg hp]), laws_kRows.f.ends _ _ (laws_kRows.self [] (by simp) (by simp)), laws_kSame.f.ends _ _ (laws_kSame.self [] (by simp)), impl_IsOrder.f.ends p (by rw [impl_IsOrder.ok, hp']), spec_IsOrder.f.ends p (by rw [spec_IsOrder.ok, hp']), fun h => by cases h⟩
theorem og_tail_ok (l1 : List Int) (c1 : isCode l1) : OgTail l1 := by
  obtain ⟨a, b, hf, ha, hb⟩ := spec_DrawThenOrder.ok l1 c1
  obtain ⟨kd, hkd⟩ := spec_DrawThenOrder.f.ends l1 hf
  by_cases h : isOrd a = true ∧ isOrd b = true ∧ a.length = b.length
  · obtain ⟨h1, h2, h3⟩ := h
    have h4 := isOrd_thenL h1 h2 h3
    have l4 := isOrd_len h4
    have l1' := isOrd_len h1
    have l2' := isOrd_len h2
    have hpar := inv_then b h2 (invC a) a rfl h1 h3
    have hs := sgn_mul (invC a) (invC b) (invC (thenL a b)) hpar
    refine ⟨a, b, thenL a b, true, ⟨kd, hkd⟩, impl_ThenOrder.f.ends a b (by rw [impl_ThenOrder.ok, if_pos ⟨h1, h2, h3⟩]), spec_ThenOrder.f.ends a b (by rw [spec_ThenOrder.ok, if_pos ⟨h1, h2, h3⟩]), laws_kSame.f.ends _ _ (laws_kSame.self _ (by omega)), fun _ => ⟨sgn 1 (invC a), sgn 1 (invC b), backL a, backL b, backL (thenL a b), impl_SignOf.f.ends a (by rw [impl_SignOf.ok, if_pos h1]), impl_SignOf.f.ends b (by rw [impl_SignOf.ok, if_pos h2]), impl_SignOf.f.ends _ ?_, impl_BackOrder.f.ends a (by rw [impl_BackOrder.ok, if_pos h1]), impl_BackOrder.f.ends b (by rw [impl_BackOrder.ok, if_pos h2]), impl_BackOrder.f.ends _ (by rw [impl_BackOrder.ok, if_pos h4]), impl_ThenOrder.f.ends _ _ ?_, laws_kSame.f.ends _ _ (laws_kSame.self _ (by rw [backL_length]; omega))⟩⟩
    · rw [impl_SignOf.ok, if_pos h4, hs]
      congr 2
      rcases sgn_one 1 (invC (thenL a b)) (Or.inl rfl) with e | e <;> rw [e] <;> decide +kernel
    · rw [impl_ThenOrder.ok, if_pos ⟨isOrd_backL h2, isOrd_backL h1, by rw [backL_length, backL_length, h3]⟩, back_then a b h1 h2 h3]
  · exact ⟨a, b, [], false, ⟨kd, hkd⟩, impl_ThenOrder.f.ends a b (by rw [impl_ThenOrder.ok, if_neg h]), spec_ThenOrder.f.ends a b (by rw [spec_ThenOrder.ok, if_neg h]), laws_kSame.f.ends _ _ (laws_kSame.self [] (by simp)), fun h => by cases h⟩
theorem FnOrdersGroup : laws_FnOrdersGroup.Pure := by
  intro l0 l1 _ _ h0 _ _ h1
  unfold laws_FnOrdersGroup.Ok laws_big.f
  by_cases e0 : (l0.length : Int) > 1048576
  · rw [if_pos e0]; exact Or.inl rfl
  · rw [if_neg e0, wrap_id (x := 1048576 - (l0.length : Int)) (by omega) (by omega)]
    by_cases e1 : (l1.length : Int) > 1048576 - (l0.length : Int)
    · rw [decide_eq_true e1]; exact Or.inl rfl
    · rw [decide_eq_false e1]
      exact Or.inr ⟨rfl, og_head l0 ⟨fun x hx => u8_bounds (h0 x hx), by omega⟩, og_tail_ok l1 ⟨fun x hx => u8_bounds (h1 x hx), by omega⟩⟩

end Go.Proofs.Ytaheijeojbimeaa.Pure
