/- Proved: for every input the law FnExactLeastOfRank returns true (its plain statement, over numbers and lists). No condition. -/
import Derived.Test.YtnddmmjofpfmfaaPLrx9
import Derived.Test.YtnddmmjofpfmfaaVLrx1
import Derived.Test.YtnddmmjofpfmfaaVLrx2
import Derived.Test.YtnddmmjofpfmfaaVLrx3
import Derived.Test.YtnddmmjofpfmfaaVLrx4
import Derived.Test.YtnddmmjofpfmfaaVLrx5
import Derived.Test.YtnddmmjofpfmfaaVLrx6
import Derived.Test.YtnddmmjofpfmfaaVLrx7
import Derived.Test.YtnddmmjofpfmfaaVLrx8
import Derived.Test.YtnddmmjofpfmfaaVLrx9
import Derived.Test.YtnddmmjofpfmfaaCounts
import Derived.Test.YtnddmmjofpfmfaaInvs
import Derived.Test.YtnddmmjofpfmfaaOrders
import Derived.Test.YtnddmmjofpfmfaaPerms
import Derived.Test.YtnddmmjofpfmfaaPlain
import Derived.Test.YtnddmmjofpfmfaaRanks
namespace Go.Proofs.Ytnddmmjofpfmfaa.Pure
open Go.RowKit Go.Proofs.Ytnddmmjofpfmfaa.PLr Go.Proofs.YtnddmmjofpfmfaaW.PrintWords Go.Proofs.YtnddmmjofpfmfaaW.PrintLast Go.Proofs.YtnddmmjofpfmfaaW.PrintMore Go.Proofs.YtnddmmjofpfmfaaL
set_option linter.unusedVariables false
set_option linter.unusedSimpArgs false

theorem impl_descents.ok_l (p : List Int) (h1 : 1 ≤ p.length) (hp : p.length ≤ 1000) : ∀ (d i : Nat) (acc : List Int), i + 1 + d = p.length → acc.length ≤ i → impl_descents.l0.v p acc i = some (acc ++ descGo p d i) := by
  intro d
  induction d with
  | zero =>
    intro i acc hd ha
    rw [impl_descents.l0.v_eq, succ_wrap (show i < p.length by omega) (by omega), if_neg (cast_nlt (by omega)), descGo, List.append_nil]
  | succ d ih =>
    intro i acc hd ha
    rw [impl_descents.l0.v_eq, succ_wrap (show i < p.length by omega) (by omega), if_pos (cast_lt (by omega)), if_pos (Int.natCast_nonneg i), if_pos (cast_lt (by omega)), if_pos (Int.natCast_nonneg _), descGo]
    by_cases e : rd p (i : Int) > rd p ((i : Int) + 1)
    · have e' : rd p (i : Int) > rd p ((i + 1 : Nat) : Int) := e
      rw [if_pos e', if_pos e, if_pos (by omega), ih (i + 1) _ (by omega) (by simp; omega), List.append_assoc]; rfl
    · have e' : ¬ rd p (i : Int) > rd p ((i + 1 : Nat) : Int) := e
      rw [if_neg e', if_neg e, ih (i + 1) _ (by omega) (by omega)]
theorem impl_descents.ok (p : List Int) (h1 : 1 ≤ p.length) (hp : p.length ≤ 1000) : impl_descents.f.v p = some (desc p) := by
  rw [impl_descents.f.v_eq]
  have := impl_descents.ok_l p h1 hp (p.length - 1) 0 [] (by omega) (by simp)
  simpa [desc] using this

theorem slices_Clone_int_int.ok (l : List Int) (h : l.length ≤ 1048576) : slices_Clone_int_int.f l = some l := by
  unfold slices_Clone_int_int.f
  rw [if_pos (by omega)]

theorem impl_exchanged.ok (p : List Int) (j : Nat) (hj : j + 1 < p.length) (hp : p.length ≤ 1048576) : impl_exchanged.f p (j : Int) = some (swp p j (j + 1)) := by
  have e : wrap64 ((j : Int) + 1) = ((j + 1 : Nat) : Int) := succ_wrap (show j < p.length by omega) (by omega)
  unfold impl_exchanged.f
  rw [slices_Clone_int_int.ok p hp, Option.bind_some, e, if_pos (Int.natCast_nonneg _), if_pos (cast_lt hj), if_pos (Int.natCast_nonneg _), if_pos (cast_lt (by omega)), toNat_cast, toNat_cast]
  rfl

theorem impl_counter_count.ok_sm (g : List Int → Option Int) (c : List Int → Nat) (p : List Int) (hp : p.length ≤ 8) (M : Nat) (hM : M ≤ 1152921504606846976) : ∀ (ds : List Int) (n : Nat), (∀ x ∈ ds, ∃ j : Nat, x = (j : Int) ∧ j + 1 < p.length ∧ g (swp p j (j + 1)) = some ((c (swp p j (j + 1)) : Nat) : Int)) → n + (ds.map fun x => c (swp p x.toNat (x.toNat + 1))).sum ≤ M → impl_counter_count.sm g p ds (n : Int) = some ((n + (ds.map fun x => c (swp p x.toNat (x.toNat + 1))).sum : Nat) : Int)
  | [], n, _, _ => by rw [impl_counter_count.sm]; rfl
  | x :: ds, n, h, hn => by
    obtain ⟨j, rfl, hj, hg⟩ := h x (by simp)
    rw [List.map_cons, List.sum_cons] at hn
    simp only [toNat_cast] at hn
    rw [impl_counter_count.sm, impl_exchanged.ok p j hj (by omega)]
    simp only [Option.bind_some]
    rw [hg]
    simp only [Option.bind_some]
    rw [wrap_id (by omega) (by omega), show (n : Int) + ((c (swp p j (j + 1)) : Nat) : Int) = ((n + c (swp p j (j + 1)) : Nat) : Int) by omega]
    rw [impl_counter_count.ok_sm g c p hp M hM ds _ (fun y hy => h y (by simp [hy])) (by omega), List.map_cons, List.sum_cons]
    simp only [toNat_cast]
    rw [Nat.add_assoc]
theorem impl_counter_count.ok_g : ∀ (d : Nat) (p : List Int), (∀ x ∈ p, 0 ≤ x ∧ x ≤ 100) → 1 ≤ p.length → p.length ≤ 8 → invC p ≤ d → d ≤ 16 → impl_counter_count.g (d + 1) p = some ((cntF (d + 1) p : Nat) : Int) := by
  intro d
  induction d with
  | zero =>
    intro p hg h1 h8 hi hd
    have hds : desc p = [] := by
      cases e : desc p with
      | nil => rfl
      | cons a r =>
        obtain ⟨j, _, _, _, hc⟩ := desc_head e
        omega
    rw [impl_counter_count.g, if_pos ⟨List.all_eq_true.2 fun x hx => by have := hg x hx; simp; omega, h8⟩]
    rw [show (impl_counter_count.ev fun k => impl_descents.f k p) = impl_descents.f.v p from rfl, impl_descents.ok p h1 (by omega), Option.bind_some, hds, cntF, hds]
    rfl
  | succ d ih =>
    intro p hg h1 h8 hi hd
    rw [impl_counter_count.g, if_pos ⟨List.all_eq_true.2 fun x hx => by have := hg x hx; simp; omega, h8⟩]
    rw [show (impl_counter_count.ev fun k => impl_descents.f k p) = impl_descents.f.v p from rfl, impl_descents.ok p h1 (by omega), Option.bind_some, cntF]
    by_cases hz : (desc p).length = 0
    · rw [if_pos hz, if_pos hz]; rfl
    · rw [if_neg hz, if_neg hz, if_pos (Nat.le_trans (desc_length p) h8)]
      have hle := cntF_le (d + 1 + 1) p h8
      rw [cntF, if_neg hz] at hle
      have h818 : (8 : Nat) ^ (d + 1 + 1) ≤ 8 ^ 18 := Nat.pow_le_pow_right (by decide) (by omega)
      have := impl_counter_count.ok_sm (impl_counter_count.g (d + 1)) (cntF (d + 1)) p h8 (8 ^ 18) (by decide) (desc p) 0 (fun x hx => by
        obtain ⟨j, e, hj, hr⟩ := desc_mem hx
        refine ⟨j, e, hj, ih _ ?_ (by rw [swp_length]; omega) (by rw [swp_length]; omega) ?_ (by omega)⟩
        · intro y hy
          exact hg y ((swp_perm p j (j + 1) (by omega) hj).mem_iff.1 hy)
        · have := invC_fall p j hj hr; omega) (by omega)
      rw [Nat.zero_add] at this
      exact this
theorem impl_counter_count.ok (p : List Int) (h : isOrd p = true) (h6 : p.length ≤ 6) : impl_counter_count.f p = some ((cntF 16 p : Nat) : Int) := by
  have hl := isOrd_len h
  exact impl_counter_count.ok_g 15 p (fun x hx => by have := (isOrd_all h).1 x hx; omega) hl.1 hl.2 (invC_six h6) (by decide)

theorem slices_Index_int_int.ok_l (v : Int) (xs : List Int) (hn : xs.length ≤ 140737488355328) : ∀ (d i : Nat), xs.length - i = d → ∃ r, slices_Index_int_int.l0.v xs v xs.length i = some r ∧ decide (r ≥ 0) = decide (v ∈ xs.drop i) := by
  intro d
  induction d with
  | zero =>
    intro i hd
    refine ⟨-1, ?_, ?_⟩
    · rw [slices_Index_int_int.l0.v_eq, if_neg (cast_nlt (by omega))]
    · rw [List.drop_eq_nil_of_le (by omega)]; simp
  | succ d ih =>
    intro i hd
    have h : i < xs.length := by omega
    obtain ⟨r, hr, hr'⟩ := ih (i + 1) (by omega)
    rw [slices_Index_int_int.l0.v_eq, if_pos (cast_lt h), if_pos (Int.natCast_nonneg i), if_pos (cast_lt h), succ_wrap h hn, hr, drop_rd xs i h]
    by_cases e : v = rd xs (i : Int)
    · rw [if_pos e]; exact ⟨i, rfl, by simp [e, Int.natCast_nonneg]⟩
    · rw [if_neg e]; exact ⟨r, rfl, by rw [hr']; simp [e]⟩

theorem slices_Contains_int_int.ok (v : Int) (xs : List Int) (hn : xs.length ≤ 140737488355328) : slices_Contains_int_int.f.v xs v = some (decide (v ∈ xs)) := by
  obtain ⟨r, hr, hr'⟩ := slices_Index_int_int.ok_l v xs hn xs.length 0 (by omega)
  have e : slices_Index_int_int.f.v xs v = some r := by rw [slices_Index_int_int.f.v_eq]; exact hr
  rw [slices_Contains_int_int.f.v_eq, e, Option.bind_some, hr', List.drop_zero]

theorem impl_isOrder.ok_l (p : List Int) (hn : p.length ≤ 8) : ∀ (d i : Nat), p.length - i = d → impl_isOrder.l0.v p p p.length i = some (ordGo p.length (p.take i) (p.drop i)) := by
  intro d
  induction d with
  | zero =>
    intro i hd
    rw [impl_isOrder.l0.v_eq, if_neg (cast_nlt (by omega)), List.drop_eq_nil_of_le (by omega)]
    rfl
  | succ d ih =>
    intro i hd
    have h : i < p.length := by omega
    rw [impl_isOrder.l0.v_eq, if_pos (cast_lt h), if_pos (Int.natCast_nonneg i), if_pos (cast_lt h), succ_wrap h (by omega), ih (i + 1) (by omega), drop_rd p i h, take_rd p i h]
    rw [wrap_id (x := (p.length : Int) - 1) (by omega) (by omega), toNat_cast, slices_Contains_int_int.ok _ _ (by rw [List.length_take]; omega)]
    unfold impl_between.f
    rw [ordGo_cons]
    by_cases a : 0 ≤ rd p (i : Int)
    · by_cases b : rd p (i : Int) ≤ (p.length : Int) - 1
      · have hi : (i : Int) ≤ (p.length : Int) := by omega
        by_cases c : rd p (i : Int) ∈ p.take i
        · simp only [ge_iff_le, a, b, c, hi, decide_true, decide_false, if_true, if_false, Option.bind_some, true_and, and_true, and_self, Bool.false_eq_true]
        · simp only [ge_iff_le, a, b, c, hi, decide_true, decide_false, if_true, if_false, Option.bind_some, true_and, and_true, and_self, Bool.false_eq_true]
      · simp [a, b]
    · simp [a]
theorem impl_isOrder.ok (p : List Int) : impl_isOrder.f.v p = some (isOrd p) := by
  rw [impl_isOrder.f.v_eq]
  unfold impl_between.f isOrd
  by_cases h : 1 ≤ p.length ∧ p.length ≤ 8
  · have := impl_isOrder.ok_l p h.2 p.length 0 (by omega)
    have h1 : (p.length : Int) ≥ 1 := by omega
    have h2 : (p.length : Int) ≤ 8 := by omega
    rw [if_pos h1, if_pos h, decide_eq_true h2]
    simpa using this
  · rw [if_neg h]
    by_cases h1 : (p.length : Int) ≥ 1
    · have h2 : ¬ (p.length : Int) ≤ 8 := by omega
      rw [if_pos h1, decide_eq_false h2]; rfl
    · rw [if_neg h1]; rfl

theorem impl_isCounted.ok (p : List Int) : impl_isCounted.f.v p = some (cntd p) := by
  rw [impl_isCounted.f.v_eq, impl_isOrder.ok, Option.bind_some]
  unfold cntd
  cases h : isOrd p
  · rfl
  · rw [if_pos rfl]
    unfold impl_between.f
    by_cases h2 : (p.length : Int) ≥ 2
    · rw [if_pos h2, Option.bind_some]
      have : decide (2 ≤ p.length) = true := decide_eq_true (by omega)
      rw [this]
      congr 1
      simp only [Bool.true_and]
      exact decide_eq_decide.2 (by omega)
    · rw [if_neg h2, Option.bind_some]
      have : decide (2 ≤ p.length) = false := decide_eq_false (by omega)
      rw [this]; rfl

theorem impl_LeastOfRank.dv (p : List Int) (h1 : 1 ≤ p.length) (h8 : p.length ≤ 8) : (impl_LeastOfRank.ev fun k_ => impl_descents.f k_ p) = some (desc p) := by
  rw [show (impl_LeastOfRank.ev fun k_ => impl_descents.f k_ p) = impl_descents.f.v p from rfl]
  exact impl_descents.ok p h1 (by omega)
theorem impl_LeastOfRank.ok_i (n : Int) (p : List Int) (ho : isOrd p = true) (h6 : p.length ≤ 6) (out : List Int) (hout : out.length ≤ 1000) (x : Int) (r' : Nat) : ∀ (d i r k : Nat), i + d = (desc p).length → pickL p ((desc p).drop i) r = some (x, r') → r ≤ 1152921504606846976 → d + 1 ≤ k → ∃ k', k ≤ k' + d + 1 ∧ impl_LeastOfRank.l1 k p (r : Int) 0 (desc p) ((desc p).length : Int) (i : Int) n out = impl_LeastOfRank.l0 k' (swp p x.toNat (x.toNat + 1)) (r' : Int) 0 (desc (swp p x.toNat (x.toNat + 1))) n (out ++ [x]) := by
  have hl := isOrd_len ho
  have hdl := desc_length p
  intro d
  induction d with
  | zero => intro i r k hd hp; rw [List.drop_eq_nil_of_le (by omega)] at hp; cases hp
  | succ d ih =>
    intro i r k hd hp hr hk
    have hi : i < (desc p).length := by omega
    rw [drop_rd (desc p) i hi, pickL] at hp
    obtain ⟨k, rfl⟩ : ∃ m, k = m + 1 := ⟨k - 1, by omega⟩
    obtain ⟨j, ej, hj, hf⟩ := desc_mem (rd_mem (desc p) i hi)
    rw [impl_LeastOfRank.l1, if_pos (by omega), if_pos (by omega), if_pos (by omega)]
    have hc := cnt16_le p (rd (desc p) (i : Int)) (by omega)
    have h8 : (8 : Nat) ^ 16 = 281474976710656 := by decide
    have hcn : impl_counter_count.f (swp p j (j + 1)) = some ((cnt16 p (rd (desc p) (i : Int)) : Nat) : Int) := by
      rw [impl_counter_count.ok _ (isOrd_swp ho j hj) (by rw [swp_length]; exact h6), ej]; rfl
    generalize hx : rd (desc p) (i : Int) = y at *
    subst ej
    rw [impl_exchanged.ok p j hj (by omega)]
    simp only [Option.bind_some]
    rw [hcn]
    simp only [Option.bind_some]
    by_cases e : r < cnt16 p (j : Int)
    · rw [if_pos e] at hp
      obtain ⟨rfl, rfl⟩ : (j : Int) = x ∧ r = r' := by simpa using hp
      rw [if_neg (by omega), if_pos (by omega), impl_LeastOfRank.dv _ (by rw [swp_length]; omega) (by rw [swp_length]; omega)]
      exact ⟨k, by omega, rfl⟩
    · rw [if_neg e] at hp
      rw [if_pos (by omega), wrap_id (by omega) (by omega), show (r : Int) - ((cnt16 p (j : Int) : Nat) : Int) = ((r - cnt16 p (j : Int) : Nat) : Int) by omega, succ_wrap hi (by omega)]
      obtain ⟨k', h1, h2⟩ := ih (i + 1) (r - cnt16 p (j : Int)) k (by omega) hp (by omega) (by omega)
      exact ⟨k', by omega, h2⟩
theorem impl_LeastOfRank.ok_o (n : Int) : ∀ (m : Nat) (p : List Int) (r k : Nat) (out : List Int), invC p = m → isOrd p = true → p.length ≤ 6 → r < cntF 16 p → 10 * m + 1 ≤ k → out.length + m ≤ 100 → impl_LeastOfRank.l0 k p (r : Int) 0 (desc p) n out = some (n, out ++ lorF m p r, true) := by
  intro m
  induction m with
  | zero =>
    intro p r k out hm ho h6 hr hk hout
    have hd : desc p = [] := by
      cases e : desc p with
      | nil => rfl
      | cons a t => obtain ⟨j, _, _, _, hc⟩ := desc_head e; omega
    obtain ⟨k, rfl⟩ : ∃ z, k = z + 1 := ⟨k - 1, by omega⟩
    rw [impl_LeastOfRank.l0, hd, if_neg (by simp), lorF, List.append_nil]
  | succ m ih =>
    intro p r k out hm ho h6 hr hk hout
    have hdn : desc p ≠ [] := fun e => by have := desc_nil_inv e ho; omega
    have h15 := invC_six h6
    have h8 : (8 : Nat) ^ 16 = 281474976710656 := by decide
    have hcl := cntF_le 16 p (by omega)
    rw [cntF_sum h15 hdn] at hr
    obtain ⟨x, r', hp, hx, hr'⟩ := pickL_some p (desc p) r hr
    rw [← cntF_sum h15 hdn] at hr
    obtain ⟨k, rfl⟩ : ∃ z, k = z + 1 := ⟨k - 1, by omega⟩
    have hpos := List.length_pos_iff.2 hdn
    have hdl := desc_length p
    rw [impl_LeastOfRank.l0, if_pos (by omega)]
    obtain ⟨k', h1, h2⟩ := impl_LeastOfRank.ok_i n p ho h6 out (by omega) x r' (desc p).length 0 r k (by omega) (by rw [List.drop_zero]; exact hp) (by omega) (by omega)
    rw [show ((0 : Nat) : Int) = 0 from rfl] at h2
    rw [h2]
    obtain ⟨j, rfl, hj, hf⟩ := desc_mem hx
    have hi := invC_fall p j hj hf
    rw [toNat_cast, ih (swp p j (j + 1)) r' k' _ (by omega) (isOrd_swp ho j hj) (by rw [swp_length]; exact h6) (by unfold cnt16 at hr'; rw [toNat_cast] at hr'; exact hr') (by omega) (by simp; omega), lorF, hp]
    simp
theorem impl_LeastOfRank.ok (p : List Int) (r : Int) (hr0 : -9223372036854775808 ≤ r) (hr1 : r ≤ 9223372036854775807) : impl_LeastOfRank.f p r = some (lorM p r) := by
  unfold impl_LeastOfRank.f impl_LeastOfRank.g lorM
  rw [show (impl_LeastOfRank.ev fun k_ => impl_isCounted.f k_ p) = impl_isCounted.f.v p from rfl, impl_isCounted.ok, Option.bind_some]
  by_cases h : cntd p = true
  · have hc := cntd_iff.1 h
    have hcl := cntF_le 16 p (by omega)
    have h8 : (8 : Nat) ^ 16 = 281474976710656 := by decide
    rw [if_pos h, impl_counter_count.ok p hc.1 hc.2.2]
    simp only [Option.bind_some]
    rw [wrap_id (by omega) (by omega)]
    unfold impl_between.f
    by_cases h2 : 0 ≤ r ∧ r < ((cntF 16 p : Nat) : Int)
    · obtain ⟨r, rfl⟩ := Int.eq_ofNat_of_zero_le h2.1
      have hi := invC_six hc.2.2
      have hb : (if (r : Int) ≥ 0 then some (decide ((r : Int) ≤ ((cntF 16 p : Nat) : Int) - 1)) else some false) = some true := by
        rw [if_pos (by omega), decide_eq_true (by omega)]
      first
      | rw [hb]
      | rw [if_pos (by omega), decide_eq_true (by omega)]
      rw [Option.bind_some, if_pos rfl, impl_LeastOfRank.dv p (by omega) (by omega), Option.bind_some, impl_LeastOfRank.ok_o (p.length : Int) (invC p) p r 200 [] rfl hc.1 hc.2.2 (by omega) (by omega) (by simp; omega), if_pos ⟨h, h2⟩, toNat_cast, List.nil_append]
    · rw [if_neg (show ¬ (cntd p = true ∧ 0 ≤ r ∧ r < ((cntF 16 p : Nat) : Int)) from fun z => h2 z.2)]
      by_cases h3 : r ≥ 0
      · rw [if_pos h3, decide_eq_false (by omega)]; rfl
      · rw [if_neg h3]; rfl
  · rw [if_neg h, if_neg (fun z => h z.1)]

theorem laws_eqIntS.ok_l (xs : List Int) (hn : xs.length ≤ 140737488355328) : ∀ (d i : Nat), xs.length - i = d → laws_eqIntS.l0.v xs xs i = some true := by
  intro d
  induction d with
  | zero =>
    intro i hd
    rw [laws_eqIntS.l0.v_eq, if_neg (cast_nlt (by omega))]
  | succ d ih =>
    intro i hd
    have h : i < xs.length := by omega
    rw [laws_eqIntS.l0.v_eq, if_pos (cast_lt h), if_pos (Int.natCast_nonneg i), if_pos (cast_lt h), if_pos rfl, succ_wrap h hn]
    exact ih (i + 1) (by omega)
theorem laws_eqIntS.ok (xs : List Int) (hn : xs.length ≤ 140737488355328) : laws_eqIntS.f.v xs xs = some true := by
  rw [laws_eqIntS.f.v_eq, if_pos rfl]
  exact laws_eqIntS.ok_l xs hn xs.length 0 (by omega)

theorem laws_eqLadder.ok (n : Int) (l : List Int) (h : l.length ≤ 140737488355328) : laws_eqLadder.f.v n l n l = some true := by
  rw [laws_eqLadder.f.v_eq, if_pos rfl, laws_eqIntS.ok l h]; rfl

theorem rd_fromOn (k : Int) : ∀ (n i : Nat), i < n → rd (fromOn k n) (i : Int) = k + i := by
  intro n i h
  induction n generalizing k i with
  | zero => omega
  | succ n ih =>
    cases i with
    | zero => show k = k + ((0 : Nat) : Int); simp
    | succ i =>
      have := ih (k + 1) i (by omega)
      rw [rd_cast] at this ⊢
      rw [fromOn, List.getD_cons_succ, this]; omega
theorem laws_heldIntS.ok_l (n : Nat) (k : Int) (hn : n ≤ 1099511627776) (h0 : 0 ≤ k) (h1 : k ≤ 4398046511104) : ∀ (d i : Nat), i + d = n → laws_heldIntS.l0.v (fromOn k n) (k + i) i = some (k + n) := by
  intro d
  induction d with
  | zero =>
    intro i hd
    rw [laws_heldIntS.l0.v_eq, fromOn_length, if_neg (cast_nlt (by omega)), show i = n by omega]
  | succ d ih =>
    intro i hd
    have h : i < n := by omega
    rw [laws_heldIntS.l0.v_eq, fromOn_length, if_pos (cast_lt h), if_pos (Int.natCast_nonneg i), if_pos (rd_fromOn k n i h), succ_wrap h (by omega), wrap_id (x := k + (i : Int) + 1) (by omega) (by omega), show k + (i : Int) + 1 = k + ((i + 1 : Nat) : Int) by omega]
    exact ih (i + 1) (by omega)
theorem laws_heldIntS.ok (n : Nat) (k : Int) (hn : n ≤ 1099511627776) (h0 : 0 ≤ k) (h1 : k ≤ 4398046511104) : laws_heldIntS.f.v (fromOn k n) k = some (k + n) := by
  rw [laws_heldIntS.f.v_eq]
  have := laws_heldIntS.ok_l n k hn h0 h1 n 0 (by omega)
  simpa using this

theorem laws_markIntS.ok_l : ∀ (d i : Nat) (xs : List Int) (k : Int), i + d = xs.length → xs.length ≤ 1099511627776 → 0 ≤ k → k ≤ 4398046511104 → laws_markIntS.l0.v xs (k + i) i = some (k + (xs.length : Int), xs.take i ++ fromOn (k + i) d) := by
  intro d
  induction d with
  | zero =>
    intro i xs k hd hn h0 h1
    rw [laws_markIntS.l0.v_eq, if_neg (cast_nlt (by omega)), List.take_of_length_le (by omega), show i = xs.length by omega]
    simp [fromOn]
  | succ d ih =>
    intro i xs k hd hn h0 h1
    have h : i < xs.length := by omega
    rw [laws_markIntS.l0.v_eq, if_pos (cast_lt h), if_pos (Int.natCast_nonneg i), succ_wrap h (by omega), toNat_cast, wrap_id (x := k + (i : Int) + 1) (by omega) (by omega), show k + (i : Int) + 1 = k + ((i + 1 : Nat) : Int) by omega, ih (i + 1) _ k (by rw [List.length_set]; omega) (by rw [List.length_set]; omega) h0 h1, List.length_set, fromOn, List.take_succ_eq_append_getElem (by rw [List.length_set]; omega), List.getElem_set_self, List.take_set_of_le (Nat.le_refl i), List.append_assoc, show k + (i : Int) + 1 = k + ((i + 1 : Nat) : Int) by omega]
    rfl
theorem laws_markIntS.ok (xs : List Int) (k : Int) (hn : xs.length ≤ 1099511627776) (h0 : 0 ≤ k) (h1 : k ≤ 4398046511104) : laws_markIntS.f.v xs k = some (k + (xs.length : Int), fromOn k xs.length) := by
  rw [laws_markIntS.f.v_eq]
  have := laws_markIntS.ok_l xs.length 0 xs k (by omega) hn h0 h1
  simpa using this

theorem laws_toIntS.ok_l (xs : List Int) (hn : xs.length ≤ 140737488355328) : ∀ (d i : Nat) (ys : List Int), xs.length - i = d → ys.length = xs.length → ys.take i = xs.take i → laws_toIntS.l0.v xs ys i = some xs := by
  intro d
  induction d with
  | zero =>
    intro i ys hd hl ht
    rw [laws_toIntS.l0.v_eq, if_neg (cast_nlt (by omega))]
    rw [List.take_of_length_le (by omega), List.take_of_length_le (by omega)] at ht
    rw [ht]
  | succ d ih =>
    intro i ys hd hl ht
    have h : i < xs.length := by omega
    rw [laws_toIntS.l0.v_eq, if_pos (cast_lt h), if_pos (Int.natCast_nonneg i), if_pos (cast_lt (by omega)), succ_wrap h hn, toNat_cast]
    refine ih (i + 1) _ (by omega) (by rw [List.length_set]; exact hl) ?_
    rw [take_rd xs i h, ← ht, rd_lt xs i h, List.take_succ_eq_append_getElem (by rw [List.length_set]; omega), List.getElem_set_self, List.take_set_of_le (Nat.le_refl i)]
theorem laws_toIntS.ok (xs : List Int) (hn : xs.length ≤ 1048576) : laws_toIntS.f.v xs = some xs := by
  rw [laws_toIntS.f.v_eq, if_pos (Int.natCast_nonneg _), toNat_cast, if_pos (by omega)]
  exact laws_toIntS.ok_l xs (by omega) xs.length 0 _ (by omega) (by simp) (by simp)

theorem spec_alRank.ok_i (p : List Int) (hp : p.length ≤ 8) (acc : Int) (i : Nat) (x : Int) (ys : List Int) (hy : ys.length ≤ 8) (hi : i < p.length) (h0 : 0 ≤ acc) (h1 : acc ≤ 100000000) : ∀ (d j c : Nat), j + d = ys.length → c ≤ j → spec_alRank.l1.v p acc i x c p p.length i ys ys.length j = spec_alRank.l0.v p (acc * ((p.length : Int) - i) + ((c + fewer x (ys.drop j) : Nat) : Int)) p p.length ((i + 1 : Nat) : Int) := by
  intro d
  induction d with
  | zero =>
    intro j c hd hc
    have hm : 0 ≤ acc * ((p.length : Int) - i) ∧ acc * ((p.length : Int) - i) ≤ 100000000 * 8 := ⟨Int.mul_nonneg h0 (by omega), Int.mul_le_mul h1 (by omega) (by omega) (by omega)⟩
    rw [spec_alRank.l1.v_eq, if_neg (cast_nlt (by omega)), succ_wrap hi (by omega), List.drop_eq_nil_of_le (by omega), fewer, Nat.add_zero, wrap_id (x := (p.length : Int) - i) (by omega) (by omega), wrap_id (x := acc * ((p.length : Int) - i)) (by omega) (by omega), wrap_id (x := acc * ((p.length : Int) - i) + (c : Int)) (by omega) (by omega)]
    simp only [Nat.add_zero]
  | succ d ih =>
    intro j c hd hc
    have h : j < ys.length := by omega
    rw [spec_alRank.l1.v_eq, if_pos (cast_lt h), if_pos (Int.natCast_nonneg j), if_pos (cast_lt h), succ_wrap h (by omega), drop_rd ys j h, fewer]
    by_cases e : rd ys (j : Int) < x
    · rw [if_pos e, if_pos e, wrap_id (x := (c : Int) + 1) (by omega) (by omega), show (c : Int) + 1 = ((c + 1 : Nat) : Int) by omega, ih (j + 1) (c + 1) (by omega) (by omega), Nat.add_assoc]
    · rw [if_neg e, if_neg e, ih (j + 1) c (by omega) (by omega), Nat.zero_add]
theorem spec_alRank.ok_o (p : List Int) (hp : p.length ≤ 8) : ∀ (d i : Nat) (acc : Int), i + d = p.length → 0 ≤ acc → acc < ((9 ^ i : Nat) : Int) → spec_alRank.l0.v p acc p p.length i = some (rkGo acc (p.drop i)) := by
  intro d
  induction d with
  | zero =>
    intro i acc hd h0 h1
    rw [spec_alRank.l0.v_eq, if_neg (cast_nlt (by omega)), List.drop_eq_nil_of_le (by omega), rkGo]
  | succ d ih =>
    intro i acc hd h0 h1
    have h : i < p.length := by omega
    have h9 : 9 ^ i ≤ 9 ^ 8 := Nat.pow_le_pow_right (by decide) (by omega)
    have h98 : 9 ^ 8 = 43046721 := by decide
    have h2 := spec_alRank.ok_i p hp acc i (rd p (i : Int)) (p.drop (i + 1)) (by rw [List.length_drop]; omega) h h0 (by omega) (p.drop (i + 1)).length 0 0 (by omega) (by omega)
    rw [spec_alRank.l0.v_eq, if_pos (cast_lt h), if_pos (Int.natCast_nonneg i), if_pos (cast_lt h), succ_wrap h (by omega), if_pos (Int.natCast_nonneg _), if_pos (by omega), toNat_cast, Option.bind_some]
    rw [show ((0 : Nat) : Int) = 0 from rfl] at h2
    have hf := fewer_len (rd p (i : Int)) (p.drop (i + 1))
    rw [List.length_drop] at hf
    have hb : acc * ((p.length : Int) - i) + ((fewer (rd p (i : Int)) (p.drop (i + 1)) : Nat) : Int) < ((9 ^ (i + 1) : Nat) : Int) := by
      have h3 : acc * ((p.length : Int) - i) ≤ (((9 ^ i : Nat) : Int) - 1) * 8 := Int.mul_le_mul (by omega) (by omega) (by omega) (by omega)
      rw [Nat.pow_succ]
      omega
    rw [h2, List.drop_zero, Nat.zero_add, ih (i + 1) _ (by omega) (by have := Int.mul_nonneg h0 (show (0 : Int) ≤ (p.length : Int) - i by omega); omega) hb, drop_rd p i h, rkGo, List.length_drop, show ((p.length - (i + 1) : Nat) : Int) + 1 = (p.length : Int) - i by omega]
theorem spec_alRank.ok (p : List Int) (hp : p.length ≤ 8) : spec_alRank.f.v p = some (rankL p) := by
  rw [spec_alRank.f.v_eq]
  have := spec_alRank.ok_o p hp p.length 0 0 (by omega) (by omega) (by decide)
  simpa [rankL] using this

theorem spec_l1Own.ok (l : List Int) (h : l.length ≤ 1048576) : spec_l1Own.f l = some l := by
  unfold spec_l1Own.f
  rw [Option.bind_some, if_pos (by simp; omega)]; rfl

theorem spec_alSwap.ok (p : List Int) (j : Nat) (hj : j + 1 < p.length) (hp : p.length ≤ 1048576) : spec_alSwap.f p (j : Int) = some (swp p j (j + 1)) := by
  have e : wrap64 ((j : Int) + 1) = ((j + 1 : Nat) : Int) := succ_wrap (show j < p.length by omega) (by omega)
  unfold spec_alSwap.f
  rw [spec_l1Own.ok p hp, Option.bind_some, e, if_pos (Int.natCast_nonneg _), if_pos (cast_lt hj), if_pos (Int.natCast_nonneg _), if_pos (cast_lt (by omega)), if_pos (cast_lt (by omega)), if_pos (cast_lt hj), toNat_cast, toNat_cast]
  rfl

theorem spec_alCounter_count.good_of {p : List Int} (h : isOrd p = true) : spec_alCounter_count.good p := ⟨(isOrd_all h).2, (isOrd_all h).1⟩
theorem spec_alCounter_count.ord_of {p : List Int} (h : spec_alCounter_count.good p) (h1 : 1 ≤ p.length) (h8 : p.length ≤ 8) : isOrd p = true := by
  unfold isOrd
  rw [if_pos ⟨h1, h8⟩]
  exact ordGo_of _ p [] (fun x hx => by have := h.2 x hx; exact ⟨this.1, by omega, by simp⟩) h.1
theorem spec_alCounter_count.rank_of {p : List Int} (hp : p.length ≤ 8) {k : Nat} {a : Int} (h : spec_alRank.f k p = some a) : a = rankL p := by
  have h1 : spec_alRank.f.v p = some a := lim_of (fun k => spec_alRank.mono p k) h
  rw [spec_alRank.ok p hp] at h1
  exact (Option.some.inj h1).symm
theorem spec_alCounter_count.inj_ok : spec_alCounter_count.inj := by
  intro q q' k k' a hq hq' h8 hl h h'
  rcases Nat.eq_zero_or_pos q.length with h0 | h0
  · rw [List.length_eq_zero_iff.1 h0, List.length_eq_zero_iff.1 (show q'.length = 0 by omega)]
  · have h1 := spec_alCounter_count.ord_of hq h0 h8
    have h2 := spec_alCounter_count.ord_of hq' (by omega) (by omega)
    have e1 := spec_alCounter_count.rank_of (isOrd_len h1).2 h
    have e2 := spec_alCounter_count.rank_of (isOrd_len h2).2 h'
    exact rank_inj h1 h2 hl (e1.symm.trans e2)
theorem spec_alCounter_count.fc_eq : ∀ n, spec_alNew.fc n = fct n
  | 0 => rfl
  | n + 1 => by rw [spec_alNew.fc, fct, spec_alCounter_count.fc_eq n]
theorem spec_alCounter_count.ok_lp (g : List Int → Option Int) (c : List Int → Nat) (p : List Int) (hp : p.length ≤ 8) (M : Nat) (hM : M ≤ 1152921504606846976) : ∀ (m i n : Nat) (b : Bool), i + m + 1 = p.length → (∀ j : Nat, j + 1 < p.length → rd p (j : Int) > rd p ((j : Int) + 1) → g (swp p j (j + 1)) = some ((c (swp p j (j + 1)) : Nat) : Int)) → n + ((descGo p m i).map fun x => c (swp p x.toNat (x.toNat + 1))).sum ≤ M →
    spec_alCounter_count.lp g p m i (n : Int) b = some (((n + ((descGo p m i).map fun x => c (swp p x.toNat (x.toNat + 1))).sum : Nat) : Int), if (descGo p m i).length = 0 then b else false)
  | 0, i, n, b, _, _, _ => by rw [spec_alCounter_count.lp, descGo]; rfl
  | m + 1, i, n, b, hi, hg, hn => by
    rw [spec_alCounter_count.lp, descGo]
    rw [descGo] at hn
    by_cases e : rd p (i : Int) > rd p ((i : Int) + 1)
    · rw [if_pos e] at hn ⊢
      rw [if_pos e]
      rw [List.map_cons, List.sum_cons] at hn
      simp only [toNat_cast] at hn
      rw [spec_alSwap.ok p i (by omega) (by omega)]
      simp only [Option.bind_some]
      rw [hg i (by omega) e]
      simp only [Option.bind_some]
      rw [wrap_id (by omega) (by omega), show (n : Int) + ((c (swp p i (i + 1)) : Nat) : Int) = ((n + c (swp p i (i + 1)) : Nat) : Int) by omega]
      rw [spec_alCounter_count.ok_lp g c p hp M hM m (i + 1) _ false (by omega) hg (by omega), List.map_cons, List.sum_cons]
      simp only [toNat_cast, List.length_cons, Nat.add_assoc]
      congr 2
      by_cases hz : (descGo p m (i + 1)).length = 0
      · rw [if_pos hz, if_neg (by omega)]
      · rw [if_neg hz, if_neg (by omega)]
    · rw [if_neg e] at hn ⊢
      rw [if_neg e]
      exact spec_alCounter_count.ok_lp g c p hp M hM m (i + 1) n b (by omega) hg hn
theorem spec_alCounter_count.ok_g (n : Nat) (hn8 : n ≤ 8) : ∀ (d : Nat) (p : List Int), isOrd p = true → p.length = n → invC p ≤ d → d ≤ 16 → spec_alCounter_count.g (spec_alNew.fc n) n (d + 1) p = some ((cntF (d + 1) p : Nat) : Int) := by
  intro d
  induction d with
  | zero =>
    intro p ho hl hi hd
    have hr := rank_lt p
    have hln := isOrd_len ho
    have hds : desc p = [] := by
      cases e : desc p with
      | nil => rfl
      | cons a r =>
        obtain ⟨j, _, _, _, hc⟩ := desc_head e
        omega
    rw [spec_alCounter_count.g, if_pos ⟨spec_alCounter_count.inj_ok, spec_alCounter_count.good_of ho, hl, hn8⟩]
    rw [show (spec_alCounter_count.ev fun k => spec_alRank.f k p) = spec_alRank.f.v p from rfl, spec_alRank.ok p (by omega), Option.bind_some, if_pos (by rw [spec_alCounter_count.fc_eq, ← hl]; exact hr)]
    have := spec_alCounter_count.ok_lp (spec_alCounter_count.g (spec_alNew.fc n) n 0) (cntF 0) p (by omega) (8 ^ 18) (by decide) (p.length - 1) 0 0 true (by omega) (fun j hj hgt => by
      have hh : (j : Int) ∈ desc p := (desc_iff p j hj).2 hgt
      rw [hds] at hh; cases hh) (by rw [show descGo p (p.length - 1) 0 = desc p from rfl, hds]; simp)
    rw [show descGo p (p.length - 1) 0 = desc p from rfl, hds] at this
    rw [show ((0 : Nat) : Int) = 0 from rfl] at this
    rw [this, cntF, hds]
    rfl
  | succ d ih =>
    intro p ho hl hi hd
    have hr := rank_lt p
    have hln := isOrd_len ho
    rw [spec_alCounter_count.g, if_pos ⟨spec_alCounter_count.inj_ok, spec_alCounter_count.good_of ho, hl, hn8⟩]
    rw [show (spec_alCounter_count.ev fun k => spec_alRank.f k p) = spec_alRank.f.v p from rfl, spec_alRank.ok p (by omega), Option.bind_some, if_pos (by rw [spec_alCounter_count.fc_eq, ← hl]; exact hr)]
    have hle := cntF_le (d + 1 + 1) p (by omega)
    rw [cntF] at hle ⊢
    have h818 : (8 : Nat) ^ (d + 1 + 1) ≤ 8 ^ 18 := Nat.pow_le_pow_right (by decide) (by omega)
    have hlp := spec_alCounter_count.ok_lp (spec_alCounter_count.g (spec_alNew.fc n) n (d + 1)) (cntF (d + 1)) p (by omega) (8 ^ 18) (by decide) (p.length - 1) 0 0 true (by omega) (fun j hj hgt => ih _ (isOrd_swp ho j hj) (by rw [swp_length]; exact hl) (by have := invC_fall p j hj hgt; omega) (by omega))
    rw [show descGo p (p.length - 1) 0 = desc p from rfl] at hlp
    rw [show ((0 : Nat) : Int) = 0 from rfl] at hlp
    by_cases hz : (desc p).length = 0
    · have hds := List.length_eq_zero_iff.1 hz
      rw [hds] at hlp
      rw [hlp (by simp), if_pos hz]
      rfl
    · rw [if_neg hz] at hle
      rw [hlp (by omega), if_neg hz]
      simp only [if_neg hz, Option.bind_some, Nat.zero_add, Bool.false_eq_true, if_false]
theorem spec_alCounter_count.ok (p : List Int) (h : isOrd p = true) (h6 : p.length ≤ 6) : spec_alCounter_count.f (spec_alNew.fc p.length) p = some ((cntF 16 p : Nat) : Int) := by
  have hl := isOrd_len h
  exact spec_alCounter_count.ok_g p.length hl.2 15 p h rfl (invC_six h6) (by decide)
theorem spec_alCounter_count.ok_n (n : Nat) (h6 : n ≤ 6) (p : List Int) (h : isOrd p = true) (hl : p.length = n) : spec_alCounter_count.g (spec_alNew.fc n) n 16 p = some ((cntF 16 p : Nat) : Int) := spec_alCounter_count.ok_g n (by omega) 15 p h hl (invC_six (by omega)) (by decide)

theorem spec_l1Has.ok_l (v : Int) (xs : List Int) (hn : xs.length ≤ 140737488355328) : ∀ (d i : Nat), xs.length - i = d → spec_l1Has.l0.v v xs xs.length i = some (decide (v ∈ xs.drop i)) := by
  intro d
  induction d with
  | zero =>
    intro i hd
    rw [spec_l1Has.l0.v_eq, if_neg (cast_nlt (by omega)), List.drop_eq_nil_of_le (by omega)]
    simp
  | succ d ih =>
    intro i hd
    have h : i < xs.length := by omega
    rw [spec_l1Has.l0.v_eq, if_pos (cast_lt h), if_pos (Int.natCast_nonneg i), if_pos (cast_lt h), succ_wrap h hn, ih (i + 1) (by omega), drop_rd xs i h]
    by_cases e : rd xs (i : Int) = v
    · rw [if_pos e]; simp [e]
    · have e' : ¬ v = rd xs (i : Int) := fun h => e h.symm
      rw [if_neg e]; simp [e']
theorem spec_l1Has.ok (v : Int) (xs : List Int) (hn : xs.length ≤ 140737488355328) : spec_l1Has.f.v xs v = some (decide (v ∈ xs)) := by
  rw [spec_l1Has.f.v_eq]
  have := spec_l1Has.ok_l v xs hn xs.length 0 (by omega)
  simpa using this

theorem spec_laOrder.ok_l (p : List Int) (hn : p.length ≤ 8) : ∀ (d i : Nat), p.length - i = d → spec_laOrder.l0.v p p p.length i = some (ordGo p.length (p.take i) (p.drop i)) := by
  intro d
  induction d with
  | zero =>
    intro i hd
    rw [spec_laOrder.l0.v_eq, if_neg (cast_nlt (by omega)), List.drop_eq_nil_of_le (by omega)]
    rfl
  | succ d ih =>
    intro i hd
    have h : i < p.length := by omega
    rw [spec_laOrder.l0.v_eq, if_pos (cast_lt h), if_pos (Int.natCast_nonneg i), if_pos (cast_lt h), succ_wrap h (by omega), ih (i + 1) (by omega), drop_rd p i h, take_rd p i h]
    rw [wrap_id (x := (p.length : Int) - 1) (by omega) (by omega), toNat_cast, spec_l1Has.ok _ _ (by rw [List.length_take]; omega)]
    unfold spec_l1In.f
    rw [ordGo_cons]
    by_cases a : 0 ≤ rd p (i : Int)
    · by_cases b : rd p (i : Int) ≤ (p.length : Int) - 1
      · have hi : (i : Int) ≤ (p.length : Int) := by omega
        by_cases c : rd p (i : Int) ∈ p.take i
        · simp only [ge_iff_le, a, b, c, hi, decide_true, decide_false, if_true, if_false, Option.bind_some, true_and, and_true, and_self, Bool.false_eq_true]
        · simp only [ge_iff_le, a, b, c, hi, decide_true, decide_false, if_true, if_false, Option.bind_some, true_and, and_true, and_self, Bool.false_eq_true]
      · simp [a, b]
    · simp [a]
theorem spec_laOrder.ok (p : List Int) : spec_laOrder.f.v p = some (isOrd p) := by
  rw [spec_laOrder.f.v_eq]
  unfold spec_l1In.f isOrd
  by_cases h : 1 ≤ p.length ∧ p.length ≤ 8
  · have := spec_laOrder.ok_l p h.2 p.length 0 (by omega)
    have h1 : (p.length : Int) ≥ 1 := by omega
    have h2 : (p.length : Int) ≤ 8 := by omega
    rw [if_pos h1, if_pos h, decide_eq_true h2]
    simpa using this
  · rw [if_neg h]
    by_cases h1 : (p.length : Int) ≥ 1
    · have h2 : ¬ (p.length : Int) ≤ 8 := by omega
      rw [if_pos h1, decide_eq_false h2]; rfl
    · rw [if_neg h1]; rfl

theorem spec_alGood.ok (p : List Int) : spec_alGood.f.v p = some (cntd p) := by
  rw [spec_alGood.f.v_eq, spec_laOrder.ok, Option.bind_some]
  unfold cntd
  cases h : isOrd p
  · rfl
  · rw [if_pos rfl]
    unfold spec_l1In.f
    by_cases h2 : (p.length : Int) ≥ 2
    · rw [if_pos h2, Option.bind_some]
      have : decide (2 ≤ p.length) = true := decide_eq_true (by omega)
      rw [this]
      congr 1
      simp only [Bool.true_and]
      exact decide_eq_decide.2 (by omega)
    · rw [if_neg h2, Option.bind_some]
      have : decide (2 ≤ p.length) = false := decide_eq_false (by omega)
      rw [this]; rfl

theorem spec_lsInversions.ok_i (p : List Int) (hp : p.length ≤ 8) (i : Nat) (hi : i < p.length) : ∀ (d j : Nat) (acc : List (List Int)), j + d = p.length → acc.length + d ≤ 1000 → spec_lsInversions.l1.v p acc i j p.length i = spec_lsInversions.l0.v p (acc ++ invRow p i j d) p.length ((i + 1 : Nat) : Int) := by
  intro d
  induction d with
  | zero =>
    intro j acc hd ha
    rw [spec_lsInversions.l1.v_eq, if_neg (cast_nlt (by omega)), succ_wrap hi (by omega), invRow, List.append_nil]
  | succ d ih =>
    intro j acc hd ha
    have hj : j < p.length := by omega
    rw [spec_lsInversions.l1.v_eq, if_pos (cast_lt hj), if_pos (Int.natCast_nonneg i), if_pos (cast_lt hi), if_pos (Int.natCast_nonneg j), succ_wrap hj (by omega), invRow]
    by_cases e : rd p (i : Int) > rd p (j : Int)
    · rw [if_pos e, if_pos e, if_pos (by omega), ih (j + 1) _ (by omega) (by simp; omega), List.append_assoc]; rfl
    · rw [if_neg e, if_neg e, ih (j + 1) _ (by omega) (by omega)]
theorem spec_lsInversions.ok_o (p : List Int) (hp : p.length ≤ 8) : ∀ (d i : Nat) (acc : List (List Int)), i + d = p.length → acc.length + d * p.length ≤ 900 → spec_lsInversions.l0.v p acc p.length i = some (acc ++ invFrom p i d) := by
  intro d
  induction d with
  | zero =>
    intro i acc hd ha
    rw [spec_lsInversions.l0.v_eq, if_neg (cast_nlt (by omega)), invFrom, List.append_nil]
  | succ d ih =>
    intro i acc hd ha
    have hi : i < p.length := by omega
    rw [Nat.succ_mul] at ha
    have h1 := invRow_length p i (p.length - (i + 1)) (i + 1)
    rw [spec_lsInversions.l0.v_eq, if_pos (cast_lt hi), succ_wrap hi (by omega), spec_lsInversions.ok_i p hp i hi (p.length - (i + 1)) (i + 1) acc (by omega) (by omega), ih (i + 1) _ (by omega) (by rw [List.length_append]; omega), invFrom, List.append_assoc]
theorem spec_lsInversions.ok (p : List Int) (hp : p.length ≤ 8) : spec_lsInversions.f.v p = some (invs p) := by
  rw [spec_lsInversions.f.v_eq]
  have h2 : p.length * p.length ≤ 8 * 8 := Nat.mul_le_mul hp hp
  have := spec_lsInversions.ok_o p hp p.length 0 [] (by omega) (by simp; omega)
  simpa [invs] using this

theorem spec_LeastOfRank.ok_i (n : Nat) (hn : n ≤ 6) (p : List Int) (ho : isOrd p = true) (hp : p.length = n) (out : List Int) (hout : out.length ≤ 1000) (z x8 : Int) (x : Int) (r' : Nat) : ∀ (d i r k : Nat), i + 1 + d = p.length → pickL p (descGo p d i) r = some (x, r') → r ≤ 1152921504606846976 → d + 1 ≤ k → ∃ k', k ≤ k' + d + 1 ∧ spec_LeastOfRank.l1 k p (r : Int) z x8 (i : Int) (n : Int) out = spec_LeastOfRank.l0 k' (swp p x.toNat (x.toNat + 1)) (r' : Int) z (wrap64 (x8 - 1)) (n : Int) (out ++ [x]) := by
  have hl := isOrd_len ho
  intro d
  induction d with
  | zero => intro i r k hd h; rw [descGo] at h; cases h
  | succ d ih =>
    intro i r k hd h hr hk
    obtain ⟨k, rfl⟩ : ∃ m, k = m + 1 := ⟨k - 1, by omega⟩
    have hi : i + 1 < p.length := by omega
    rw [spec_LeastOfRank.l1, succ_wrap (show i < p.length by omega) (by omega), if_pos (by omega), if_pos (by omega), if_pos (by omega), if_pos (by omega)]
    rw [descGo] at h
    by_cases f : rd p (i : Int) > rd p ((i : Int) + 1)
    · rw [if_pos f, pickL] at h
      have hc := cnt16_le p (i : Int) (by omega)
      have h8 : (8 : Nat) ^ 16 = 281474976710656 := by decide
      have hcn : spec_LeastOfRank.ct (n : Int) (swp p i (i + 1)) = some ((cnt16 p (i : Int) : Nat) : Int) := by
        unfold spec_LeastOfRank.ct
        rw [toNat_cast, spec_alCounter_count.ok_n n hn _ (isOrd_swp ho i hi) (by rw [swp_length]; exact hp)]; rfl
      rw [if_neg (by have e_ : ((i + 1 : Nat) : Int) = (i : Int) + 1 := by omega
                     rw [e_]; omega), spec_alSwap.ok p i hi (by omega)]
      simp only [Option.bind_some]
      rw [hcn]
      simp only [Option.bind_some]
      by_cases e : r < cnt16 p (i : Int)
      · rw [if_pos e] at h
        obtain ⟨rfl, rfl⟩ : (i : Int) = x ∧ r = r' := by simpa using h
        rw [if_pos (by omega), if_pos (by omega), toNat_cast]
        exact ⟨k, by omega, rfl⟩
      · rw [if_neg e] at h
        rw [if_neg (by omega), wrap_id (x := (r : Int) - _) (by omega) (by omega), show (r : Int) - ((cnt16 p (i : Int) : Nat) : Int) = ((r - cnt16 p (i : Int) : Nat) : Int) by omega]
        obtain ⟨k', h1, h2⟩ := ih (i + 1) (r - cnt16 p (i : Int)) k (by omega) h (by omega) (by omega)
        exact ⟨k', by omega, h2⟩
    · rw [if_neg f] at h
      have hne : rd p (i : Int) ≠ rd p ((i + 1 : Nat) : Int) := fun e => by
        have := (isOrd_all ho).2
        rw [rd_lt p i (by omega), rd_lt p (i + 1) hi] at e
        have := (List.nodup_iff_pairwise_ne.1 this)
        exact (List.pairwise_iff_getElem.1 this i (i + 1) (by omega) hi (by omega)) e
      have f' : rd p (i : Int) < rd p ((i + 1 : Nat) : Int) := by
        have e_ : ((i + 1 : Nat) : Int) = (i : Int) + 1 := by omega
        rw [e_] at hne ⊢; omega
      rw [if_pos f']
      obtain ⟨k', h1, h2⟩ := ih (i + 1) r k (by omega) h (by omega) (by omega)
      exact ⟨k', by omega, h2⟩
theorem spec_LeastOfRank.ok_o (n : Nat) (hn2 : 2 ≤ n) (hn : n ≤ 6) (z : Int) : ∀ (m : Nat) (p : List Int) (r k : Nat) (out : List Int), invC p = m → isOrd p = true → p.length = n → r < cntF 16 p → 10 * m + 1 ≤ k → out.length + m ≤ 100 → spec_LeastOfRank.l0 k p (r : Int) z (m : Int) (n : Int) out = some ((n : Int), out ++ lorF m p r, true) := by
  intro m
  induction m with
  | zero =>
    intro p r k out hm ho h6 hr hk hout
    obtain ⟨k, rfl⟩ : ∃ z, k = z + 1 := ⟨k - 1, by omega⟩
    rw [spec_LeastOfRank.l0, if_neg (by omega), lorF, List.append_nil]
  | succ m ih =>
    intro p r k out hm ho h6 hr hk hout
    have hdn : desc p ≠ [] := fun e => by have := desc_nil_inv e ho; omega
    have h15 := invC_six (p := p) (by omega)
    have h8 : (8 : Nat) ^ 16 = 281474976710656 := by decide
    have hcl := cntF_le 16 p (by omega)
    rw [cntF_sum h15 hdn] at hr
    obtain ⟨x, r', hp, hx, hr'⟩ := pickL_some p (desc p) r hr
    rw [← cntF_sum h15 hdn] at hr
    obtain ⟨k, rfl⟩ : ∃ z, k = z + 1 := ⟨k - 1, by omega⟩
    rw [spec_LeastOfRank.l0, if_pos (by omega)]
    obtain ⟨k', h1, h2⟩ := spec_LeastOfRank.ok_i n hn p ho h6 out (by omega) z ((m + 1 : Nat) : Int) x r' (p.length - 1) 0 r k (by omega) hp (by omega) (by omega)
    rw [show ((0 : Nat) : Int) = 0 from rfl] at h2
    rw [h2]
    obtain ⟨j, rfl, hj, hf⟩ := desc_mem hx
    have hi := invC_fall p j hj hf
    rw [wrap_id (by omega) (by omega), show ((m + 1 : Nat) : Int) - 1 = (m : Int) by omega, toNat_cast, ih (swp p j (j + 1)) r' k' _ (by omega) (isOrd_swp ho j hj) (by rw [swp_length]; exact h6) (by unfold cnt16 at hr'; rw [toNat_cast] at hr'; exact hr') (by omega) (by simp; omega), lorF, hp]
    simp
theorem spec_LeastOfRank.ok (p : List Int) (r : Int) : spec_LeastOfRank.f p r = some (lorM p r) := by
  unfold spec_LeastOfRank.f spec_LeastOfRank.g lorM
  rw [show (spec_LeastOfRank.ev fun k_ => spec_alGood.f k_ p) = spec_alGood.f.v p from rfl, spec_alGood.ok, Option.bind_some]
  by_cases h : cntd p = true
  · have hc := cntd_iff.1 h
    have h8 : (8 : Nat) ^ 16 = 281474976710656 := by decide
    rw [if_pos h, spec_LeastOfRank.j0]
    by_cases h3 : r < 0
    · rw [decide_eq_true h3, if_pos rfl, if_neg (by omega)]
    · rw [decide_eq_false h3, if_neg (by simp)]
      unfold spec_LeastOfRank.nw
      rw [if_pos (by omega), Option.bind_some]
      unfold spec_LeastOfRank.ct
      rw [toNat_cast, spec_alCounter_count.ok_n p.length hc.2.2 p hc.1 rfl, Option.bind_some]
      by_cases h4 : r ≥ ((cntF 16 p : Nat) : Int)
      · rw [if_pos h4, if_neg (by omega)]
      · obtain ⟨r, rfl⟩ := Int.eq_ofNat_of_zero_le (show 0 ≤ r by omega)
        have hi := invC_six hc.2.2
        rw [if_neg h4, show (spec_LeastOfRank.ev fun k_ => spec_lsInversions.f k_ p) = spec_lsInversions.f.v p from rfl, spec_lsInversions.ok p (by omega), Option.bind_some, invs_invC, spec_LeastOfRank.ok_o p.length hc.2.1 hc.2.2 _ (invC p) p r 199 [] rfl hc.1 rfl (by omega) (by omega) (by simp; omega), if_pos ⟨h, by omega, by omega⟩, toNat_cast, List.nil_append]
  · rw [if_neg h, if_neg (fun z => h z.1), spec_LeastOfRank.j0, if_pos rfl]

theorem FnExactLeastOfRank : laws_FnExactLeastOfRank.Pure := by
  intro p rk _ _ hb hw
  have hr := wf_bounds hw
  refine laws_FnExactLeastOfRank.f.ends p rk ?_
  rw [laws_FnExactLeastOfRank.f.v_eq]
  by_cases h : (p.length : Int) > 1048576
  · rw [if_pos h]
  · rw [if_neg h]
    obtain ⟨m, r, t, hs, hi, hr⟩ : ∃ m r t, spec_LeastOfRank.f p rk = some (m, r, t) ∧ impl_LeastOfRank.f p rk = some (m, r, t) ∧ r.length ≤ 1048576 := by
      rw [spec_LeastOfRank.ok, impl_LeastOfRank.ok p rk hr.1 hr.2]
      unfold lorM
      split
      · rename_i hh
        exact ⟨_, _, _, rfl, rfl, by have := lorF_length (invC p) p rk.toNat; have := invC_six (cntd_iff.1 hh.1).2.2; omega⟩
      · exact ⟨_, _, _, rfl, rfl, by simp⟩
    have n1 : ¬ ((1 : Int) + (p.length : Int) < 0) := by omega
    have n2 : ¬ ((1 : Int) + (r.length : Int) < 0) := by omega
    have e0 := laws_toIntS.ok p (by omega)
    have e1 := laws_eqIntS.ok p (by omega)
    have e3 := laws_markIntS.ok p 1 (by omega) (by omega) (by omega)
    have e4 := laws_markIntS.ok r 1 (by omega) (by omega) (by omega)
    have e5 := laws_heldIntS.ok r.length 1 (by omega) (by omega) (by omega)
    have e2 := laws_eqLadder.ok m r (by omega)
    simp only [e0, e1, hs, hi, laws_markLadder.f.v_eq, e3, e4, e5, if_neg n1, if_neg n2, e2, laws_heldLadder.f.v_eq, laws_FnExactLeastOfRank.j0.v_eq, laws_FnExactLeastOfRank.j1.v_eq, laws_FnExactLeastOfRank.j2.v_eq, Option.bind_some, bne_self_eq_false, Bool.false_eq_true, if_false, if_true]

end Go.Proofs.Ytnddmmjofpfmfaa.Pure
