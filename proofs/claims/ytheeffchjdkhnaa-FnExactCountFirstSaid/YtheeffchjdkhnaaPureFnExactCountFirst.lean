/- Proved: for every input the law FnExactCountFirst returns true (its plain statement, over numbers and lists). No condition. -/
import Derived.Test.YtheeffchjdkhnaaPCfx6
import Derived.Test.YtheeffchjdkhnaaVCfx1
import Derived.Test.YtheeffchjdkhnaaVCfx2
import Derived.Test.YtheeffchjdkhnaaVCfx3
import Derived.Test.YtheeffchjdkhnaaVCfx4
import Derived.Test.YtheeffchjdkhnaaVCfx5
import Derived.Test.YtheeffchjdkhnaaVCfx6
import Derived.Test.YtheeffchjdkhnaaCounts
import Derived.Test.YtheeffchjdkhnaaOrders
import Derived.Test.YtheeffchjdkhnaaPerms
import Derived.Test.YtheeffchjdkhnaaPlain
namespace Go.Proofs.Ytheeffchjdkhnaa.Pure
open Go.RowKit Go.Proofs.Ytheeffchjdkhnaa.PCf Go.Proofs.YtheeffchjdkhnaaW.PrintWords Go.Proofs.YtheeffchjdkhnaaW.PrintLast Go.Proofs.YtheeffchjdkhnaaW.PrintMore Go.Proofs.YtheeffchjdkhnaaL
set_option linter.unusedVariables false
set_option linter.unusedSimpArgs false

theorem impl_descents.ok_l (p : List Int) (h1 : 1 ≤ p.length) (hp : p.length ≤ 1000) : ∀ (d i : Nat) (acc : List Int), i + 1 + d = p.length → acc.length ≤ i → impl_descents.l0.v p acc i = some (acc ++ descGo p d i) := by
  intro d
  induction d with
  | zero =>
    intro i acc hd ha
    rw [impl_descents.l0.v_eq, succ_wrap (show i < p.length by omega) (by omega), if_neg (cast_nlt (by omega)), descGo, List.append_nil]
  | succ d ih =>
    intro i acc hd ha
    rw [impl_descents.l0.v_eq, succ_wrap (show i < p.length by omega) (by omega), if_pos (cast_lt (by omega)), if_pos (Int.natCast_nonneg i), if_pos (cast_lt (by omega)), if_pos (Int.natCast_nonneg _), descGo]
    by_cases e : rd p (i : Int) > rd p ((i : Int) + 1)
    · have e' : rd p (i : Int) > rd p ((i + 1 : Nat) : Int) := e
      rw [if_pos e', if_pos e, if_pos (by omega), ih (i + 1) _ (by omega) (by simp; omega), List.append_assoc]; rfl
    · have e' : ¬ rd p (i : Int) > rd p ((i + 1 : Nat) : Int) := e
      rw [if_neg e', if_neg e, ih (i + 1) _ (by omega) (by omega)]
theorem impl_descents.ok (p : List Int) (h1 : 1 ≤ p.length) (hp : p.length ≤ 1000) : impl_descents.f.v p = some (desc p) := by
  rw [impl_descents.f.v_eq]
  have := impl_descents.ok_l p h1 hp (p.length - 1) 0 [] (by omega) (by simp)
  simpa [desc] using this

theorem slices_Clone_int_int.ok (l : List Int) (h : l.length ≤ 1048576) : slices_Clone_int_int.f l = some l := by
  unfold slices_Clone_int_int.f
  rw [if_pos (by omega)]

theorem impl_exchanged.ok (p : List Int) (j : Nat) (hj : j + 1 < p.length) (hp : p.length ≤ 1048576) : impl_exchanged.f p (j : Int) = some (swp p j (j + 1)) := by
  have e : wrap64 ((j : Int) + 1) = ((j + 1 : Nat) : Int) := succ_wrap (show j < p.length by omega) (by omega)
  unfold impl_exchanged.f
  rw [slices_Clone_int_int.ok p hp, Option.bind_some, e, if_pos (Int.natCast_nonneg _), if_pos (cast_lt hj), if_pos (Int.natCast_nonneg _), if_pos (cast_lt (by omega)), toNat_cast, toNat_cast]
  rfl

theorem impl_counter_count.ok_sm (g : List Int → Option Int) (c : List Int → Nat) (p : List Int) (hp : p.length ≤ 8) (M : Nat) (hM : M ≤ 1152921504606846976) : ∀ (ds : List Int) (n : Nat), (∀ x ∈ ds, ∃ j : Nat, x = (j : Int) ∧ j + 1 < p.length ∧ g (swp p j (j + 1)) = some ((c (swp p j (j + 1)) : Nat) : Int)) → n + (ds.map fun x => c (swp p x.toNat (x.toNat + 1))).sum ≤ M → impl_counter_count.sm g p ds (n : Int) = some ((n + (ds.map fun x => c (swp p x.toNat (x.toNat + 1))).sum : Nat) : Int)
  | [], n, _, _ => by rw [impl_counter_count.sm]; rfl
  | x :: ds, n, h, hn => by
    obtain ⟨j, rfl, hj, hg⟩ := h x (by simp)
    rw [List.map_cons, List.sum_cons] at hn
    simp only [toNat_cast] at hn
    rw [impl_counter_count.sm, impl_exchanged.ok p j hj (by omega)]
    simp only [Option.bind_some]
    rw [hg]
    simp only [Option.bind_some]
    rw [wrap_id (by omega) (by omega), show (n : Int) + ((c (swp p j (j + 1)) : Nat) : Int) = ((n + c (swp p j (j + 1)) : Nat) : Int) by omega]
    rw [impl_counter_count.ok_sm g c p hp M hM ds _ (fun y hy => h y (by simp [hy])) (by omega), List.map_cons, List.sum_cons]
    simp only [toNat_cast]
    rw [Nat.add_assoc]
theorem impl_counter_count.ok_g : ∀ (d : Nat) (p : List Int), (∀ x ∈ p, 0 ≤ x ∧ x ≤ 100) → 1 ≤ p.length → p.length ≤ 8 → invC p ≤ d → d ≤ 16 → impl_counter_count.g (d + 1) p = some ((cntF (d + 1) p : Nat) : Int) := by
  intro d
  induction d with
  | zero =>
    intro p hg h1 h8 hi hd
    have hds : desc p = [] := by
      cases e : desc p with
      | nil => rfl
      | cons a r =>
        obtain ⟨j, _, _, _, hc⟩ := desc_head e
        omega
    rw [impl_counter_count.g, if_pos ⟨List.all_eq_true.2 fun x hx => by have := hg x hx; simp; omega, h8⟩]
    rw [show (impl_counter_count.ev fun k => impl_descents.f k p) = impl_descents.f.v p from rfl, impl_descents.ok p h1 (by omega), Option.bind_some, hds, cntF, hds]
    rfl
  | succ d ih =>
    intro p hg h1 h8 hi hd
    rw [impl_counter_count.g, if_pos ⟨List.all_eq_true.2 fun x hx => by have := hg x hx; simp; omega, h8⟩]
    rw [show (impl_counter_count.ev fun k => impl_descents.f k p) = impl_descents.f.v p from rfl, impl_descents.ok p h1 (by omega), Option.bind_some, cntF]
    by_cases hz : (desc p).length = 0
    · rw [if_pos hz, if_pos hz]; rfl
    · rw [if_neg hz, if_neg hz, if_pos (Nat.le_trans (desc_length p) h8)]
      have hle := cntF_le (d + 1 + 1) p h8
      rw [cntF, if_neg hz] at hle
      have h818 : (8 : Nat) ^ (d + 1 + 1) ≤ 8 ^ 18 := Nat.pow_le_pow_right (by decide) (by omega)
      have := impl_counter_count.ok_sm (impl_counter_count.g (d + 1)) (cntF (d + 1)) p h8 (8 ^ 18) (by decide) (desc p) 0 (fun x hx => by
        obtain ⟨j, e, hj, hr⟩ := desc_mem hx
        refine ⟨j, e, hj, ih _ ?_ (by rw [swp_length]; omega) (by rw [swp_length]; omega) ?_ (by omega)⟩
        · intro y hy
          exact hg y ((swp_perm p j (j + 1) (by omega) hj).mem_iff.1 hy)
        · have := invC_fall p j hj hr; omega) (by omega)
      rw [Nat.zero_add] at this
      exact this
theorem impl_counter_count.ok (p : List Int) (h : isOrd p = true) (h6 : p.length ≤ 6) : impl_counter_count.f p = some ((cntF 16 p : Nat) : Int) := by
  have hl := isOrd_len h
  exact impl_counter_count.ok_g 15 p (fun x hx => by have := (isOrd_all h).1 x hx; omega) hl.1 hl.2 (invC_six h6) (by decide)

theorem slices_Index_int_int.ok_l (v : Int) (xs : List Int) (hn : xs.length ≤ 140737488355328) : ∀ (d i : Nat), xs.length - i = d → ∃ r, slices_Index_int_int.l0.v xs v xs.length i = some r ∧ decide (r ≥ 0) = decide (v ∈ xs.drop i) := by
  intro d
  induction d with
  | zero =>
    intro i hd
    refine ⟨-1, ?_, ?_⟩
    · rw [slices_Index_int_int.l0.v_eq, if_neg (cast_nlt (by omega))]
    · rw [List.drop_eq_nil_of_le (by omega)]; simp
  | succ d ih =>
    intro i hd
    have h : i < xs.length := by omega
    obtain ⟨r, hr, hr'⟩ := ih (i + 1) (by omega)
    rw [slices_Index_int_int.l0.v_eq, if_pos (cast_lt h), if_pos (Int.natCast_nonneg i), if_pos (cast_lt h), succ_wrap h hn, hr, drop_rd xs i h]
    by_cases e : v = rd xs (i : Int)
    · rw [if_pos e]; exact ⟨i, rfl, by simp [e, Int.natCast_nonneg]⟩
    · rw [if_neg e]; exact ⟨r, rfl, by rw [hr']; simp [e]⟩

theorem slices_Contains_int_int.ok (v : Int) (xs : List Int) (hn : xs.length ≤ 140737488355328) : slices_Contains_int_int.f.v xs v = some (decide (v ∈ xs)) := by
  obtain ⟨r, hr, hr'⟩ := slices_Index_int_int.ok_l v xs hn xs.length 0 (by omega)
  have e : slices_Index_int_int.f.v xs v = some r := by rw [slices_Index_int_int.f.v_eq]; exact hr
  rw [slices_Contains_int_int.f.v_eq, e, Option.bind_some, hr', List.drop_zero]

theorem impl_isOrder.ok_l (p : List Int) (hn : p.length ≤ 8) : ∀ (d i : Nat), p.length - i = d → impl_isOrder.l0.v p p p.length i = some (ordGo p.length (p.take i) (p.drop i)) := by
  intro d
  induction d with
  | zero =>
    intro i hd
    rw [impl_isOrder.l0.v_eq, if_neg (cast_nlt (by omega)), List.drop_eq_nil_of_le (by omega)]
    rfl
  | succ d ih =>
    intro i hd
    have h : i < p.length := by omega
    rw [impl_isOrder.l0.v_eq, if_pos (cast_lt h), if_pos (Int.natCast_nonneg i), if_pos (cast_lt h), succ_wrap h (by omega), ih (i + 1) (by omega), drop_rd p i h, take_rd p i h]
    rw [wrap_id (x := (p.length : Int) - 1) (by omega) (by omega), toNat_cast, slices_Contains_int_int.ok _ _ (by rw [List.length_take]; omega)]
    unfold impl_between.f
    rw [ordGo_cons]
    by_cases a : 0 ≤ rd p (i : Int)
    · by_cases b : rd p (i : Int) ≤ (p.length : Int) - 1
      · have hi : (i : Int) ≤ (p.length : Int) := by omega
        by_cases c : rd p (i : Int) ∈ p.take i
        · simp only [ge_iff_le, a, b, c, hi, decide_true, decide_false, if_true, if_false, Option.bind_some, true_and, and_true, and_self, Bool.false_eq_true]
        · simp only [ge_iff_le, a, b, c, hi, decide_true, decide_false, if_true, if_false, Option.bind_some, true_and, and_true, and_self, Bool.false_eq_true]
      · simp [a, b]
    · simp [a]
theorem impl_isOrder.ok (p : List Int) : impl_isOrder.f.v p = some (isOrd p) := by
  rw [impl_isOrder.f.v_eq]
  unfold impl_between.f isOrd
  by_cases h : 1 ≤ p.length ∧ p.length ≤ 8
  · have := impl_isOrder.ok_l p h.2 p.length 0 (by omega)
    have h1 : (p.length : Int) ≥ 1 := by omega
    have h2 : (p.length : Int) ≤ 8 := by omega
    rw [if_pos h1, if_pos h, decide_eq_true h2]
    simpa using this
  · rw [if_neg h]
    by_cases h1 : (p.length : Int) ≥ 1
    · have h2 : ¬ (p.length : Int) ≤ 8 := by omega
      rw [if_pos h1, decide_eq_false h2]; rfl
    · rw [if_neg h1]; rfl

theorem impl_isCounted.ok (p : List Int) : impl_isCounted.f.v p = some (cntd p) := by
  rw [impl_isCounted.f.v_eq, impl_isOrder.ok, Option.bind_some]
  unfold cntd
  cases h : isOrd p
  · rfl
  · rw [if_pos rfl]
    unfold impl_between.f
    by_cases h2 : (p.length : Int) ≥ 2
    · rw [if_pos h2, Option.bind_some]
      have : decide (2 ≤ p.length) = true := decide_eq_true (by omega)
      rw [this]
      congr 1
      simp only [Bool.true_and]
      exact decide_eq_decide.2 (by omega)
    · rw [if_neg h2, Option.bind_some]
      have : decide (2 ≤ p.length) = false := decide_eq_false (by omega)
      rw [this]; rfl

theorem impl_CountFirst.ok (p : List Int) (a : Int) : impl_CountFirst.f p a = some (if cntd p = true then (if 0 ≤ a ∧ a ≤ (p.length : Int) - 2 then (if rd p a < rd p (a + 1) then (0, true) else (((cntF 16 (swp p a.toNat (a.toNat + 1)) : Nat) : Int), true)) else (0, false)) else (0, false)) := by
  unfold impl_CountFirst.f
  rw [show (impl_CountFirst.ev fun k => impl_isCounted.f k p) = impl_isCounted.f.v p from rfl, impl_isCounted.ok, Option.bind_some]
  by_cases h : cntd p = true
  · have hc := cntd_iff.1 h
    have hl := isOrd_len hc.1
    rw [if_pos h, if_pos h, wrap_id (by omega) (by omega)]
    have hb : impl_between.f a 0 ((p.length : Int) - 2) = some (decide (0 ≤ a ∧ a ≤ (p.length : Int) - 2)) := by
      unfold impl_between.f
      by_cases h0 : a ≥ 0
      · rw [if_pos h0]
        congr 1
        exact decide_eq_decide.2 ⟨fun h => ⟨h0, h⟩, fun h => h.2⟩
      · rw [if_neg h0, decide_eq_false (fun h => h0 h.1)]
    rw [hb, Option.bind_some]
    by_cases hr : 0 ≤ a ∧ a ≤ (p.length : Int) - 2
    · obtain ⟨j, rfl⟩ := Int.eq_ofNat_of_zero_le hr.1
      rw [if_pos (decide_eq_true hr), if_pos hr, if_pos ⟨by omega, by omega, by omega⟩]
      by_cases hlt : rd p (j : Int) < rd p ((j : Int) + 1)
      · rw [if_pos hlt, if_pos hlt]
      · rw [if_neg hlt, if_neg hlt, impl_exchanged.ok p j (by omega) (by omega), Option.bind_some, toNat_cast]
        rw [impl_counter_count.ok _ (isOrd_swp hc.1 j (by omega)) (by rw [swp_length]; omega)]
        rfl
    · rw [if_neg (by simpa using hr), if_neg hr]
  · rw [if_neg h, if_neg h]

theorem laws_eqIntS.ok_l (xs : List Int) (hn : xs.length ≤ 140737488355328) : ∀ (d i : Nat), xs.length - i = d → laws_eqIntS.l0.v xs xs i = some true := by
  intro d
  induction d with
  | zero =>
    intro i hd
    rw [laws_eqIntS.l0.v_eq, if_neg (cast_nlt (by omega))]
  | succ d ih =>
    intro i hd
    have h : i < xs.length := by omega
    rw [laws_eqIntS.l0.v_eq, if_pos (cast_lt h), if_pos (Int.natCast_nonneg i), if_pos (cast_lt h), if_pos rfl, succ_wrap h hn]
    exact ih (i + 1) (by omega)
theorem laws_eqIntS.ok (xs : List Int) (hn : xs.length ≤ 140737488355328) : laws_eqIntS.f.v xs xs = some true := by
  rw [laws_eqIntS.f.v_eq, if_pos rfl]
  exact laws_eqIntS.ok_l xs hn xs.length 0 (by omega)

theorem laws_toIntS.ok_l (xs : List Int) (hn : xs.length ≤ 140737488355328) : ∀ (d i : Nat) (ys : List Int), xs.length - i = d → ys.length = xs.length → ys.take i = xs.take i → laws_toIntS.l0.v xs ys i = some xs := by
  intro d
  induction d with
  | zero =>
    intro i ys hd hl ht
    rw [laws_toIntS.l0.v_eq, if_neg (cast_nlt (by omega))]
    rw [List.take_of_length_le (by omega), List.take_of_length_le (by omega)] at ht
    rw [ht]
  | succ d ih =>
    intro i ys hd hl ht
    have h : i < xs.length := by omega
    rw [laws_toIntS.l0.v_eq, if_pos (cast_lt h), if_pos (Int.natCast_nonneg i), if_pos (cast_lt (by omega)), succ_wrap h hn, toNat_cast]
    refine ih (i + 1) _ (by omega) (by rw [List.length_set]; exact hl) ?_
    rw [take_rd xs i h, ← ht, rd_lt xs i h, List.take_succ_eq_append_getElem (by rw [List.length_set]; omega), List.getElem_set_self, List.take_set_of_le (Nat.le_refl i)]
theorem laws_toIntS.ok (xs : List Int) (hn : xs.length ≤ 1048576) : laws_toIntS.f.v xs = some xs := by
  rw [laws_toIntS.f.v_eq, if_pos (Int.natCast_nonneg _), toNat_cast, if_pos (by omega)]
  exact laws_toIntS.ok_l xs (by omega) xs.length 0 _ (by omega) (by simp) (by simp)

theorem spec_alRank.ok_i (p : List Int) (hp : p.length ≤ 8) (acc : Int) (i : Nat) (x : Int) (ys : List Int) (hy : ys.length ≤ 8) (hi : i < p.length) (h0 : 0 ≤ acc) (h1 : acc ≤ 100000000) : ∀ (d j c : Nat), j + d = ys.length → c ≤ j → spec_alRank.l1.v p acc i x c p p.length i ys ys.length j = spec_alRank.l0.v p (acc * ((p.length : Int) - i) + ((c + fewer x (ys.drop j) : Nat) : Int)) p p.length ((i + 1 : Nat) : Int) := by
  intro d
  induction d with
  | zero =>
    intro j c hd hc
    have hm : 0 ≤ acc * ((p.length : Int) - i) ∧ acc * ((p.length : Int) - i) ≤ 100000000 * 8 := ⟨Int.mul_nonneg h0 (by omega), Int.mul_le_mul h1 (by omega) (by omega) (by omega)⟩
    rw [spec_alRank.l1.v_eq, if_neg (cast_nlt (by omega)), succ_wrap hi (by omega), List.drop_eq_nil_of_le (by omega), fewer, Nat.add_zero, wrap_id (x := (p.length : Int) - i) (by omega) (by omega), wrap_id (x := acc * ((p.length : Int) - i)) (by omega) (by omega), wrap_id (x := acc * ((p.length : Int) - i) + (c : Int)) (by omega) (by omega)]
    simp only [Nat.add_zero]
  | succ d ih =>
    intro j c hd hc
    have h : j < ys.length := by omega
    rw [spec_alRank.l1.v_eq, if_pos (cast_lt h), if_pos (Int.natCast_nonneg j), if_pos (cast_lt h), succ_wrap h (by omega), drop_rd ys j h, fewer]
    by_cases e : rd ys (j : Int) < x
    · rw [if_pos e, if_pos e, wrap_id (x := (c : Int) + 1) (by omega) (by omega), show (c : Int) + 1 = ((c + 1 : Nat) : Int) by omega, ih (j + 1) (c + 1) (by omega) (by omega), Nat.add_assoc]
    · rw [if_neg e, if_neg e, ih (j + 1) c (by omega) (by omega), Nat.zero_add]
theorem spec_alRank.ok_o (p : List Int) (hp : p.length ≤ 8) : ∀ (d i : Nat) (acc : Int), i + d = p.length → 0 ≤ acc → acc < ((9 ^ i : Nat) : Int) → spec_alRank.l0.v p acc p p.length i = some (rkGo acc (p.drop i)) := by
  intro d
  induction d with
  | zero =>
    intro i acc hd h0 h1
    rw [spec_alRank.l0.v_eq, if_neg (cast_nlt (by omega)), List.drop_eq_nil_of_le (by omega), rkGo]
  | succ d ih =>
    intro i acc hd h0 h1
    have h : i < p.length := by omega
    have h9 : 9 ^ i ≤ 9 ^ 8 := Nat.pow_le_pow_right (by decide) (by omega)
    have h98 : 9 ^ 8 = 43046721 := by decide
    have h2 := spec_alRank.ok_i p hp acc i (rd p (i : Int)) (p.drop (i + 1)) (by rw [List.length_drop]; omega) h h0 (by omega) (p.drop (i + 1)).length 0 0 (by omega) (by omega)
    rw [spec_alRank.l0.v_eq, if_pos (cast_lt h), if_pos (Int.natCast_nonneg i), if_pos (cast_lt h), succ_wrap h (by omega), if_pos (Int.natCast_nonneg _), if_pos (by omega), toNat_cast, Option.bind_some]
    rw [show ((0 : Nat) : Int) = 0 from rfl] at h2
    have hf := fewer_len (rd p (i : Int)) (p.drop (i + 1))
    rw [List.length_drop] at hf
    have hb : acc * ((p.length : Int) - i) + ((fewer (rd p (i : Int)) (p.drop (i + 1)) : Nat) : Int) < ((9 ^ (i + 1) : Nat) : Int) := by
      have h3 : acc * ((p.length : Int) - i) ≤ (((9 ^ i : Nat) : Int) - 1) * 8 := Int.mul_le_mul (by omega) (by omega) (by omega) (by omega)
      rw [Nat.pow_succ]
      omega
    rw [h2, List.drop_zero, Nat.zero_add, ih (i + 1) _ (by omega) (by have := Int.mul_nonneg h0 (show (0 : Int) ≤ (p.length : Int) - i by omega); omega) hb, drop_rd p i h, rkGo, List.length_drop, show ((p.length - (i + 1) : Nat) : Int) + 1 = (p.length : Int) - i by omega]
theorem spec_alRank.ok (p : List Int) (hp : p.length ≤ 8) : spec_alRank.f.v p = some (rankL p) := by
  rw [spec_alRank.f.v_eq]
  have := spec_alRank.ok_o p hp p.length 0 0 (by omega) (by omega) (by decide)
  simpa [rankL] using this

theorem spec_l1Own.ok (l : List Int) (h : l.length ≤ 1048576) : spec_l1Own.f l = some l := by
  unfold spec_l1Own.f
  rw [Option.bind_some, if_pos (by simp; omega)]; rfl

theorem spec_alSwap.ok (p : List Int) (j : Nat) (hj : j + 1 < p.length) (hp : p.length ≤ 1048576) : spec_alSwap.f p (j : Int) = some (swp p j (j + 1)) := by
  have e : wrap64 ((j : Int) + 1) = ((j + 1 : Nat) : Int) := succ_wrap (show j < p.length by omega) (by omega)
  unfold spec_alSwap.f
  rw [spec_l1Own.ok p hp, Option.bind_some, e, if_pos (Int.natCast_nonneg _), if_pos (cast_lt hj), if_pos (Int.natCast_nonneg _), if_pos (cast_lt (by omega)), if_pos (cast_lt (by omega)), if_pos (cast_lt hj), toNat_cast, toNat_cast]
  rfl

theorem spec_l1Has.ok_l (v : Int) (xs : List Int) (hn : xs.length ≤ 140737488355328) : ∀ (d i : Nat), xs.length - i = d → spec_l1Has.l0.v v xs xs.length i = some (decide (v ∈ xs.drop i)) := by
  intro d
  induction d with
  | zero =>
    intro i hd
    rw [spec_l1Has.l0.v_eq, if_neg (cast_nlt (by omega)), List.drop_eq_nil_of_le (by omega)]
    simp
  | succ d ih =>
    intro i hd
    have h : i < xs.length := by omega
    rw [spec_l1Has.l0.v_eq, if_pos (cast_lt h), if_pos (Int.natCast_nonneg i), if_pos (cast_lt h), succ_wrap h hn, ih (i + 1) (by omega), drop_rd xs i h]
    by_cases e : rd xs (i : Int) = v
    · rw [if_pos e]; simp [e]
    · have e' : ¬ v = rd xs (i : Int) := fun h => e h.symm
      rw [if_neg e]; simp [e']
theorem spec_l1Has.ok (v : Int) (xs : List Int) (hn : xs.length ≤ 140737488355328) : spec_l1Has.f.v xs v = some (decide (v ∈ xs)) := by
  rw [spec_l1Has.f.v_eq]
  have := spec_l1Has.ok_l v xs hn xs.length 0 (by omega)
  simpa using this

theorem spec_laOrder.ok_l (p : List Int) (hn : p.length ≤ 8) : ∀ (d i : Nat), p.length - i = d → spec_laOrder.l0.v p p p.length i = some (ordGo p.length (p.take i) (p.drop i)) := by
  intro d
  induction d with
  | zero =>
    intro i hd
    rw [spec_laOrder.l0.v_eq, if_neg (cast_nlt (by omega)), List.drop_eq_nil_of_le (by omega)]
    rfl
  | succ d ih =>
    intro i hd
    have h : i < p.length := by omega
    rw [spec_laOrder.l0.v_eq, if_pos (cast_lt h), if_pos (Int.natCast_nonneg i), if_pos (cast_lt h), succ_wrap h (by omega), ih (i + 1) (by omega), drop_rd p i h, take_rd p i h]
    rw [wrap_id (x := (p.length : Int) - 1) (by omega) (by omega), toNat_cast, spec_l1Has.ok _ _ (by rw [List.length_take]; omega)]
    unfold spec_l1In.f
    rw [ordGo_cons]
    by_cases a : 0 ≤ rd p (i : Int)
    · by_cases b : rd p (i : Int) ≤ (p.length : Int) - 1
      · have hi : (i : Int) ≤ (p.length : Int) := by omega
        by_cases c : rd p (i : Int) ∈ p.take i
        · simp only [ge_iff_le, a, b, c, hi, decide_true, decide_false, if_true, if_false, Option.bind_some, true_and, and_true, and_self, Bool.false_eq_true]
        · simp only [ge_iff_le, a, b, c, hi, decide_true, decide_false, if_true, if_false, Option.bind_some, true_and, and_true, and_self, Bool.false_eq_true]
      · simp [a, b]
    · simp [a]
theorem spec_laOrder.ok (p : List Int) : spec_laOrder.f.v p = some (isOrd p) := by
  rw [spec_laOrder.f.v_eq]
  unfold spec_l1In.f isOrd
  by_cases h : 1 ≤ p.length ∧ p.length ≤ 8
  · have := spec_laOrder.ok_l p h.2 p.length 0 (by omega)
    have h1 : (p.length : Int) ≥ 1 := by omega
    have h2 : (p.length : Int) ≤ 8 := by omega
    rw [if_pos h1, if_pos h, decide_eq_true h2]
    simpa using this
  · rw [if_neg h]
    by_cases h1 : (p.length : Int) ≥ 1
    · have h2 : ¬ (p.length : Int) ≤ 8 := by omega
      rw [if_pos h1, decide_eq_false h2]; rfl
    · rw [if_neg h1]; rfl

theorem spec_alCounter_count.good_iff (p : List Int) : spec_alCounter_count.good p ↔ isOrd p = true := by
  constructor
  · rintro ⟨k, hk⟩
    have h1 : spec_laOrder.f.v p = some true := lim_of (fun k => spec_laOrder.mono p k) hk
    rw [spec_laOrder.ok] at h1
    exact Option.some.inj h1
  · intro h
    have h1 := spec_laOrder.ok p
    rw [h] at h1
    exact lim_some h1
theorem spec_alCounter_count.rank_of {p : List Int} (hp : p.length ≤ 8) {k : Nat} {a : Int} (h : spec_alRank.f k p = some a) : a = rankL p := by
  have h1 : spec_alRank.f.v p = some a := lim_of (fun k => spec_alRank.mono p k) h
  rw [spec_alRank.ok p hp] at h1
  exact (Option.some.inj h1).symm
theorem spec_alCounter_count.inj_ok : spec_alCounter_count.inj := by
  intro q q' k k' a hq hq' hl h h'
  have h1 := (spec_alCounter_count.good_iff q).1 hq
  have h2 := (spec_alCounter_count.good_iff q').1 hq'
  have e1 := spec_alCounter_count.rank_of (isOrd_len h1).2 h
  have e2 := spec_alCounter_count.rank_of (isOrd_len h2).2 h'
  exact rank_inj h1 h2 hl (e1.symm.trans e2)
theorem spec_alCounter_count.fc_eq : ∀ n, spec_alNew.fc n = fct n
  | 0 => rfl
  | n + 1 => by rw [spec_alNew.fc, fct, spec_alCounter_count.fc_eq n]
theorem spec_alCounter_count.ok_lp (g : List Int → Option Int) (c : List Int → Nat) (p : List Int) (hp : p.length ≤ 8) (M : Nat) (hM : M ≤ 1152921504606846976) : ∀ (m i n : Nat) (b : Bool), i + m + 1 = p.length → (∀ j : Nat, j + 1 < p.length → rd p (j : Int) > rd p ((j : Int) + 1) → g (swp p j (j + 1)) = some ((c (swp p j (j + 1)) : Nat) : Int)) → n + ((descGo p m i).map fun x => c (swp p x.toNat (x.toNat + 1))).sum ≤ M →
    spec_alCounter_count.lp g p m i (n : Int) b = some (((n + ((descGo p m i).map fun x => c (swp p x.toNat (x.toNat + 1))).sum : Nat) : Int), if (descGo p m i).length = 0 then b else false)
  | 0, i, n, b, _, _, _ => by rw [spec_alCounter_count.lp, descGo]; rfl
  | m + 1, i, n, b, hi, hg, hn => by
    rw [spec_alCounter_count.lp, descGo]
    rw [descGo] at hn
    by_cases e : rd p (i : Int) > rd p ((i : Int) + 1)
    · rw [if_pos e] at hn ⊢
      rw [if_pos e]
      rw [List.map_cons, List.sum_cons] at hn
      simp only [toNat_cast] at hn
      rw [spec_alSwap.ok p i (by omega) (by omega)]
      simp only [Option.bind_some]
      rw [hg i (by omega) e]
      simp only [Option.bind_some]
      rw [wrap_id (by omega) (by omega), show (n : Int) + ((c (swp p i (i + 1)) : Nat) : Int) = ((n + c (swp p i (i + 1)) : Nat) : Int) by omega]
      rw [spec_alCounter_count.ok_lp g c p hp M hM m (i + 1) _ false (by omega) hg (by omega), List.map_cons, List.sum_cons]
      simp only [toNat_cast, List.length_cons, Nat.add_assoc]
      congr 2
      by_cases hz : (descGo p m (i + 1)).length = 0
      · rw [if_pos hz, if_neg (by omega)]
      · rw [if_neg hz, if_neg (by omega)]
    · rw [if_neg e] at hn ⊢
      rw [if_neg e]
      exact spec_alCounter_count.ok_lp g c p hp M hM m (i + 1) n b (by omega) hg hn
theorem spec_alCounter_count.ok_g (n : Nat) (hn8 : n ≤ 8) : ∀ (d : Nat) (p : List Int), isOrd p = true → p.length = n → invC p ≤ d → d ≤ 16 → spec_alCounter_count.g (spec_alNew.fc n) n (d + 1) p = some ((cntF (d + 1) p : Nat) : Int) := by
  intro d
  induction d with
  | zero =>
    intro p ho hl hi hd
    have hr := rank_lt p
    have hln := isOrd_len ho
    have hds : desc p = [] := by
      cases e : desc p with
      | nil => rfl
      | cons a r =>
        obtain ⟨j, _, _, _, hc⟩ := desc_head e
        omega
    rw [spec_alCounter_count.g, if_pos ⟨spec_alCounter_count.inj_ok, (spec_alCounter_count.good_iff p).2 ho, hl, hn8⟩]
    rw [show (spec_alCounter_count.ev fun k => spec_alRank.f k p) = spec_alRank.f.v p from rfl, spec_alRank.ok p (by omega), Option.bind_some, if_pos (by rw [spec_alCounter_count.fc_eq, ← hl]; exact hr)]
    have := spec_alCounter_count.ok_lp (spec_alCounter_count.g (spec_alNew.fc n) n 0) (cntF 0) p (by omega) (8 ^ 18) (by decide) (p.length - 1) 0 0 true (by omega) (fun j hj hgt => by
      have hh : (j : Int) ∈ desc p := (desc_iff p j hj).2 hgt
      rw [hds] at hh; cases hh) (by rw [show descGo p (p.length - 1) 0 = desc p from rfl, hds]; simp)
    rw [show descGo p (p.length - 1) 0 = desc p from rfl, hds] at this
    rw [show ((0 : Nat) : Int) = 0 from rfl] at this
    rw [this, cntF, hds]
    rfl
  | succ d ih =>
    intro p ho hl hi hd
    have hr := rank_lt p
    have hln := isOrd_len ho
    rw [spec_alCounter_count.g, if_pos ⟨spec_alCounter_count.inj_ok, (spec_alCounter_count.good_iff p).2 ho, hl, hn8⟩]
    rw [show (spec_alCounter_count.ev fun k => spec_alRank.f k p) = spec_alRank.f.v p from rfl, spec_alRank.ok p (by omega), Option.bind_some, if_pos (by rw [spec_alCounter_count.fc_eq, ← hl]; exact hr)]
    have hle := cntF_le (d + 1 + 1) p (by omega)
    rw [cntF] at hle ⊢
    have h818 : (8 : Nat) ^ (d + 1 + 1) ≤ 8 ^ 18 := Nat.pow_le_pow_right (by decide) (by omega)
    have hlp := spec_alCounter_count.ok_lp (spec_alCounter_count.g (spec_alNew.fc n) n (d + 1)) (cntF (d + 1)) p (by omega) (8 ^ 18) (by decide) (p.length - 1) 0 0 true (by omega) (fun j hj hgt => ih _ (isOrd_swp ho j hj) (by rw [swp_length]; exact hl) (by have := invC_fall p j hj hgt; omega) (by omega))
    rw [show descGo p (p.length - 1) 0 = desc p from rfl] at hlp
    rw [show ((0 : Nat) : Int) = 0 from rfl] at hlp
    by_cases hz : (desc p).length = 0
    · have hds := List.length_eq_zero_iff.1 hz
      rw [hds] at hlp
      rw [hlp (by simp), if_pos hz]
      rfl
    · rw [if_neg hz] at hle
      rw [hlp (by omega), if_neg hz]
      simp only [if_neg hz, Option.bind_some, Nat.zero_add, Bool.false_eq_true, if_false]
theorem spec_alCounter_count.ok (p : List Int) (h : isOrd p = true) (h6 : p.length ≤ 6) : spec_alCounter_count.f (spec_alNew.fc p.length) p = some ((cntF 16 p : Nat) : Int) := by
  have hl := isOrd_len h
  exact spec_alCounter_count.ok_g p.length hl.2 15 p h rfl (invC_six h6) (by decide)

theorem spec_alGood.ok (p : List Int) : spec_alGood.f.v p = some (cntd p) := by
  rw [spec_alGood.f.v_eq, spec_laOrder.ok, Option.bind_some]
  unfold cntd
  cases h : isOrd p
  · rfl
  · rw [if_pos rfl]
    unfold spec_l1In.f
    by_cases h2 : (p.length : Int) ≥ 2
    · rw [if_pos h2, Option.bind_some]
      have : decide (2 ≤ p.length) = true := decide_eq_true (by omega)
      rw [this]
      congr 1
      simp only [Bool.true_and]
      exact decide_eq_decide.2 (by omega)
    · rw [if_neg h2, Option.bind_some]
      have : decide (2 ≤ p.length) = false := decide_eq_false (by omega)
      rw [this]; rfl

theorem spec_CountFirst.ok (p : List Int) (a : Int) : spec_CountFirst.f p a = some (if cntd p = true then (if 0 ≤ a ∧ a ≤ (p.length : Int) - 2 then (if rd p a < rd p (a + 1) then (0, true) else (((cntF 16 (swp p a.toNat (a.toNat + 1)) : Nat) : Int), true)) else (0, false)) else (0, false)) := by
  unfold spec_CountFirst.f
  rw [show (spec_CountFirst.ev fun k => spec_alGood.f k p) = spec_alGood.f.v p from rfl, spec_alGood.ok, Option.bind_some]
  by_cases h : cntd p = true
  · have hc := cntd_iff.1 h
    have hl := isOrd_len hc.1
    rw [if_pos h, if_pos h, wrap_id (by omega) (by omega)]
    have hb : spec_l1In.f a 0 ((p.length : Int) - 2) = some (decide (0 ≤ a ∧ a ≤ (p.length : Int) - 2)) := by
      unfold spec_l1In.f
      by_cases h0 : a ≥ 0
      · rw [if_pos h0]
        congr 1
        exact decide_eq_decide.2 ⟨fun h => ⟨h0, h⟩, fun h => h.2⟩
      · rw [if_neg h0, decide_eq_false (fun h => h0 h.1)]
    rw [hb, Option.bind_some]
    by_cases hr : 0 ≤ a ∧ a ≤ (p.length : Int) - 2
    · obtain ⟨j, rfl⟩ := Int.eq_ofNat_of_zero_le hr.1
      rw [if_pos (decide_eq_true hr), if_pos hr, if_pos ⟨by omega, by omega, by omega⟩]
      by_cases hlt : rd p (j : Int) < rd p ((j : Int) + 1)
      · rw [if_pos hlt, if_pos hlt]
      · rw [if_neg hlt, if_neg hlt, spec_alSwap.ok p j (by omega) (by omega), Option.bind_some, toNat_cast]
        rw [spec_alCounter_count.ok_g p.length hl.2 15 _ (isOrd_swp hc.1 j (by omega)) (by rw [swp_length]) (invC_six (by rw [swp_length]; omega)) (by decide)]
        rfl
    · rw [if_neg (by simpa using hr), if_neg hr]
  · rw [if_neg h, if_neg h]

theorem FnExactCountFirst : laws_FnExactCountFirst.Pure := by
  intro l a _ _ _ _
  refine laws_FnExactCountFirst.f.ends l a ?_
  rw [laws_FnExactCountFirst.f.v_eq]
  by_cases h : (l.length : Int) > 1048576
  · rw [if_pos h]
  · have hl : l.length ≤ 1048576 := by omega
    rw [if_neg h]
    simp only [laws_toIntS.ok l hl, spec_CountFirst.ok, impl_CountFirst.ok, laws_eqIntS.ok l (by omega), laws_FnExactCountFirst.j0.v_eq, Option.bind_some, bne_self_eq_false, Bool.false_eq_true, if_false, if_true]

end Go.Proofs.Ytheeffchjdkhnaa.Pure
