/- Proved: for every input the law FnExactRankOfLeast returns true (its plain statement, over numbers and lists). No condition. -/
import Derived.Test.YtheeffchjdkhnaaPRlx11
import Derived.Test.YtheeffchjdkhnaaPRlx8
import Derived.Test.YtheeffchjdkhnaaVRlx1
import Derived.Test.YtheeffchjdkhnaaVRlx10
import Derived.Test.YtheeffchjdkhnaaVRlx11
import Derived.Test.YtheeffchjdkhnaaVRlx2
import Derived.Test.YtheeffchjdkhnaaVRlx3
import Derived.Test.YtheeffchjdkhnaaVRlx4
import Derived.Test.YtheeffchjdkhnaaVRlx5
import Derived.Test.YtheeffchjdkhnaaVRlx6
import Derived.Test.YtheeffchjdkhnaaVRlx7
import Derived.Test.YtheeffchjdkhnaaVRlx9
import Derived.Test.YtheeffchjdkhnaaCounts
import Derived.Test.YtheeffchjdkhnaaInvs
import Derived.Test.YtheeffchjdkhnaaLadders
import Derived.Test.YtheeffchjdkhnaaOrders
import Derived.Test.YtheeffchjdkhnaaPerms
import Derived.Test.YtheeffchjdkhnaaPlain
namespace Go.Proofs.Ytheeffchjdkhnaa.Pure
open Go.RowKit Go.Proofs.Ytheeffchjdkhnaa.PRl Go.Proofs.YtheeffchjdkhnaaW.PrintWords Go.Proofs.YtheeffchjdkhnaaW.PrintLast Go.Proofs.YtheeffchjdkhnaaW.PrintMore Go.Proofs.YtheeffchjdkhnaaL
set_option linter.unusedVariables false
set_option linter.unusedSimpArgs false

theorem impl_descents.ok_l (p : List Int) (h1 : 1 ≤ p.length) (hp : p.length ≤ 1000) : ∀ (d i : Nat) (acc : List Int), i + 1 + d = p.length → acc.length ≤ i → impl_descents.l0.v p acc i = some (acc ++ descGo p d i) := by
  intro d
  induction d with
  | zero =>
    intro i acc hd ha
    rw [impl_descents.l0.v_eq, succ_wrap (show i < p.length by omega) (by omega), if_neg (cast_nlt (by omega)), descGo, List.append_nil]
  | succ d ih =>
    intro i acc hd ha
    rw [impl_descents.l0.v_eq, succ_wrap (show i < p.length by omega) (by omega), if_pos (cast_lt (by omega)), if_pos (Int.natCast_nonneg i), if_pos (cast_lt (by omega)), if_pos (Int.natCast_nonneg _), descGo]
    by_cases e : rd p (i : Int) > rd p ((i : Int) + 1)
    · have e' : rd p (i : Int) > rd p ((i + 1 : Nat) : Int) := e
      rw [if_pos e', if_pos e, if_pos (by omega), ih (i + 1) _ (by omega) (by simp; omega), List.append_assoc]; rfl
    · have e' : ¬ rd p (i : Int) > rd p ((i + 1 : Nat) : Int) := e
      rw [if_neg e', if_neg e, ih (i + 1) _ (by omega) (by omega)]
theorem impl_descents.ok (p : List Int) (h1 : 1 ≤ p.length) (hp : p.length ≤ 1000) : impl_descents.f.v p = some (desc p) := by
  rw [impl_descents.f.v_eq]
  have := impl_descents.ok_l p h1 hp (p.length - 1) 0 [] (by omega) (by simp)
  simpa [desc] using this

theorem slices_Clone_int_int.ok (l : List Int) (h : l.length ≤ 1048576) : slices_Clone_int_int.f l = some l := by
  unfold slices_Clone_int_int.f
  rw [if_pos (by omega)]

theorem impl_exchanged.ok (p : List Int) (j : Nat) (hj : j + 1 < p.length) (hp : p.length ≤ 1048576) : impl_exchanged.f p (j : Int) = some (swp p j (j + 1)) := by
  have e : wrap64 ((j : Int) + 1) = ((j + 1 : Nat) : Int) := succ_wrap (show j < p.length by omega) (by omega)
  unfold impl_exchanged.f
  rw [slices_Clone_int_int.ok p hp, Option.bind_some, e, if_pos (Int.natCast_nonneg _), if_pos (cast_lt hj), if_pos (Int.natCast_nonneg _), if_pos (cast_lt (by omega)), toNat_cast, toNat_cast]
  rfl

theorem impl_counter_count.ok_sm (g : List Int → Option Int) (c : List Int → Nat) (p : List Int) (hp : p.length ≤ 8) (M : Nat) (hM : M ≤ 1152921504606846976) : ∀ (ds : List Int) (n : Nat), (∀ x ∈ ds, ∃ j : Nat, x = (j : Int) ∧ j + 1 < p.length ∧ g (swp p j (j + 1)) = some ((c (swp p j (j + 1)) : Nat) : Int)) → n + (ds.map fun x => c (swp p x.toNat (x.toNat + 1))).sum ≤ M → impl_counter_count.sm g p ds (n : Int) = some ((n + (ds.map fun x => c (swp p x.toNat (x.toNat + 1))).sum : Nat) : Int)
  | [], n, _, _ => by rw [impl_counter_count.sm]; rfl
  | x :: ds, n, h, hn => by
    obtain ⟨j, rfl, hj, hg⟩ := h x (by simp)
    rw [List.map_cons, List.sum_cons] at hn
    simp only [toNat_cast] at hn
    rw [impl_counter_count.sm, impl_exchanged.ok p j hj (by omega)]
    simp only [Option.bind_some]
    rw [hg]
    simp only [Option.bind_some]
    rw [wrap_id (by omega) (by omega), show (n : Int) + ((c (swp p j (j + 1)) : Nat) : Int) = ((n + c (swp p j (j + 1)) : Nat) : Int) by omega]
    rw [impl_counter_count.ok_sm g c p hp M hM ds _ (fun y hy => h y (by simp [hy])) (by omega), List.map_cons, List.sum_cons]
    simp only [toNat_cast]
    rw [Nat.add_assoc]
theorem impl_counter_count.ok_g : ∀ (d : Nat) (p : List Int), (∀ x ∈ p, 0 ≤ x ∧ x ≤ 100) → 1 ≤ p.length → p.length ≤ 8 → invC p ≤ d → d ≤ 16 → impl_counter_count.g (d + 1) p = some ((cntF (d + 1) p : Nat) : Int) := by
  intro d
  induction d with
  | zero =>
    intro p hg h1 h8 hi hd
    have hds : desc p = [] := by
      cases e : desc p with
      | nil => rfl
      | cons a r =>
        obtain ⟨j, _, _, _, hc⟩ := desc_head e
        omega
    rw [impl_counter_count.g, if_pos ⟨List.all_eq_true.2 fun x hx => by have := hg x hx; simp; omega, h8⟩]
    rw [show (impl_counter_count.ev fun k => impl_descents.f k p) = impl_descents.f.v p from rfl, impl_descents.ok p h1 (by omega), Option.bind_some, hds, cntF, hds]
    rfl
  | succ d ih =>
    intro p hg h1 h8 hi hd
    rw [impl_counter_count.g, if_pos ⟨List.all_eq_true.2 fun x hx => by have := hg x hx; simp; omega, h8⟩]
    rw [show (impl_counter_count.ev fun k => impl_descents.f k p) = impl_descents.f.v p from rfl, impl_descents.ok p h1 (by omega), Option.bind_some, cntF]
    by_cases hz : (desc p).length = 0
    · rw [if_pos hz, if_pos hz]; rfl
    · rw [if_neg hz, if_neg hz, if_pos (Nat.le_trans (desc_length p) h8)]
      have hle := cntF_le (d + 1 + 1) p h8
      rw [cntF, if_neg hz] at hle
      have h818 : (8 : Nat) ^ (d + 1 + 1) ≤ 8 ^ 18 := Nat.pow_le_pow_right (by decide) (by omega)
      have := impl_counter_count.ok_sm (impl_counter_count.g (d + 1)) (cntF (d + 1)) p h8 (8 ^ 18) (by decide) (desc p) 0 (fun x hx => by
        obtain ⟨j, e, hj, hr⟩ := desc_mem hx
        refine ⟨j, e, hj, ih _ ?_ (by rw [swp_length]; omega) (by rw [swp_length]; omega) ?_ (by omega)⟩
        · intro y hy
          exact hg y ((swp_perm p j (j + 1) (by omega) hj).mem_iff.1 hy)
        · have := invC_fall p j hj hr; omega) (by omega)
      rw [Nat.zero_add] at this
      exact this
theorem impl_counter_count.ok (p : List Int) (h : isOrd p = true) (h6 : p.length ≤ 6) : impl_counter_count.f p = some ((cntF 16 p : Nat) : Int) := by
  have hl := isOrd_len h
  exact impl_counter_count.ok_g 15 p (fun x hx => by have := (isOrd_all h).1 x hx; omega) hl.1 hl.2 (invC_six h6) (by decide)

theorem impl_isLadder.ok (n : Int) (l : List Int) : impl_isLadder.f n l = some (good n l) := by
  unfold impl_isLadder.f good
  have h : (!(l.any (impl_isLadder.bad n))) = l.all (inB n) := by
    rw [List.not_any_eq_all_not]
    congr 1; funext x
    unfold impl_isLadder.bad inB
    exact Bool.not_not _
  rw [h]

theorem impl_inverted.ok_i (p : List Int) (hp : p.length ≤ 8) (i : Nat) (hi : i < p.length) : ∀ (d j : Nat) (acc : List (List Int)), j + d = p.length → acc.length + d ≤ 1000 → impl_inverted.l1.v p acc i j p.length i = impl_inverted.l0.v p (acc ++ invRow p i j d) p.length ((i + 1 : Nat) : Int) := by
  intro d
  induction d with
  | zero =>
    intro j acc hd ha
    rw [impl_inverted.l1.v_eq, if_neg (cast_nlt (by omega)), succ_wrap hi (by omega), invRow, List.append_nil]
  | succ d ih =>
    intro j acc hd ha
    have hj : j < p.length := by omega
    rw [impl_inverted.l1.v_eq, if_pos (cast_lt hj), if_pos (Int.natCast_nonneg i), if_pos (cast_lt hi), if_pos (Int.natCast_nonneg j), succ_wrap hj (by omega), invRow]
    by_cases e : rd p (i : Int) > rd p (j : Int)
    · rw [if_pos e, if_pos e, if_pos (by omega), ih (j + 1) _ (by omega) (by simp; omega), List.append_assoc]; rfl
    · rw [if_neg e, if_neg e, ih (j + 1) _ (by omega) (by omega)]
theorem impl_inverted.ok_o (p : List Int) (hp : p.length ≤ 8) : ∀ (d i : Nat) (acc : List (List Int)), i + d = p.length → acc.length + d * p.length ≤ 900 → impl_inverted.l0.v p acc p.length i = some (acc ++ invFrom p i d) := by
  intro d
  induction d with
  | zero =>
    intro i acc hd ha
    rw [impl_inverted.l0.v_eq, if_neg (cast_nlt (by omega)), invFrom, List.append_nil]
  | succ d ih =>
    intro i acc hd ha
    have hi : i < p.length := by omega
    rw [Nat.succ_mul] at ha
    have h1 := invRow_length p i (p.length - (i + 1)) (i + 1)
    rw [impl_inverted.l0.v_eq, if_pos (cast_lt hi), succ_wrap hi (by omega), impl_inverted.ok_i p hp i hi (p.length - (i + 1)) (i + 1) acc (by omega) (by omega), ih (i + 1) _ (by omega) (by rw [List.length_append]; omega), invFrom, List.append_assoc]
theorem impl_inverted.ok (p : List Int) (hp : p.length ≤ 8) : impl_inverted.f.v p = some (invs p) := by
  rw [impl_inverted.f.v_eq]
  have h2 : p.length * p.length ≤ 8 * 8 := Nat.mul_le_mul hp hp
  have := impl_inverted.ok_o p hp p.length 0 [] (by omega) (by simp; omega)
  simpa [invs] using this

theorem impl_inversions.ok (p : List Int) (hp : p.length ≤ 8) : impl_inversions.f.v p = some ((invs p).length : Int) := by
  rw [impl_inversions.f.v_eq, impl_inverted.ok p hp]; rfl

theorem impl_over.ok (w r : Int) (h0 : -1000 ≤ r) (h1 : r ≤ 1000) : impl_over.f w r = some (over w r) := by
  unfold impl_over.f over
  rw [wrap_id (x := r + 1) (by omega) (by omega)]
  by_cases a : w = r
  · rw [if_pos a, if_pos a]
  · rw [if_neg a, if_neg a]
    by_cases b : w = r + 1
    · rw [if_pos b, if_pos b]
    · rw [if_neg b, if_neg b]

theorem impl_way.ok_l (xs : List Int) (hn : xs.length ≤ 1000) (hb : ∀ x ∈ xs, -1000 ≤ x ∧ x ≤ 1000) : ∀ (d i : Nat) (w : Int) (acc : List Int), i + d = xs.length → acc.length ≤ i + 1 → impl_way.l0.v w acc xs xs.length i = some (acc ++ wayT w (xs.drop i)) := by
  intro d
  induction d with
  | zero =>
    intro i w acc hd ha
    rw [impl_way.l0.v_eq, if_neg (cast_nlt (by omega)), List.drop_eq_nil_of_le (by omega), wayT, List.append_nil]
  | succ d ih =>
    intro i w acc hd ha
    have h : i < xs.length := by omega
    obtain ⟨h0, h1⟩ := hb _ (rd_mem xs i h)
    rw [impl_way.l0.v_eq, if_pos (cast_lt h), if_pos (Int.natCast_nonneg i), if_pos (cast_lt h), impl_over.ok w _ h0 h1, Option.bind_some, if_pos (by omega), succ_wrap h (by omega), ih (i + 1) _ _ (by omega) (by simp; omega), drop_rd xs i h, wayT, List.append_assoc]
    rfl
theorem impl_way.ok (n : Int) (xs : List Int) (w : Int) (hn : xs.length ≤ 1000) (hb : ∀ x ∈ xs, -1000 ≤ x ∧ x ≤ 1000) : impl_way.f.v n xs w = some (wayL w xs) := by
  rw [impl_way.f.v_eq]
  have := impl_way.ok_l xs hn hb xs.length 0 w [w] (by omega) (by simp)
  simpa [wayL] using this
theorem good_wide' {n : Int} {l : List Int} (h : good n l = true) : l.length ≤ 1000 ∧ ∀ x ∈ l, -1000 ≤ x ∧ x ≤ 1000 := by
  obtain ⟨_, h2, h3, h4⟩ := good_iff.1 h
  exact ⟨by omega, fun x hx => by have := h4 x hx; omega⟩

theorem impl_result.ok_l (n : Int) (l : List Int) (hg : good n l = true) : ∀ (d i : Nat) (acc : List Int), i + d = n.toNat → acc.length ≤ i → impl_result.l0.v n l acc n i = some (acc ++ resGo l d i) := by
  obtain ⟨g1, g2, _, _⟩ := good_iff.1 hg
  obtain ⟨h1, h2⟩ := good_wide' hg
  intro d
  induction d with
  | zero =>
    intro i acc hd ha
    rw [impl_result.l0.v_eq, if_neg (by omega), resGo, List.append_nil]
  | succ d ih =>
    intro i acc hd ha
    rw [impl_result.l0.v_eq, if_pos (by omega), impl_way.ok n l _ h1 h2, Option.bind_some, wayL_length, wrap_id (x := ((l.length + 1 : Nat) : Int) - 1) (by omega) (by omega), show ((l.length + 1 : Nat) : Int) - 1 = (l.length : Int) by omega, if_pos (Int.natCast_nonneg _), if_pos (by omega), if_pos (by omega), wayL_last, succ_wrap (show i < n.toNat by omega) (by omega), ih (i + 1) _ (by omega) (by simp; omega), resGo, List.append_assoc]; rfl
theorem impl_result.ok (n : Int) (l : List Int) (hg : good n l = true) : impl_result.f.v n l = some (resL n l) := by
  rw [impl_result.f.v_eq]
  have := impl_result.ok_l n l hg n.toNat 0 [] (by omega) (by simp)
  simpa [resL] using this

theorem impl_needless.ok (n : Int) (l : List Int) (hg : good n l = true) : impl_needless.f.v n l = some (needL n l) := by
  obtain ⟨g1, g2, _, _⟩ := good_iff.1 hg
  have hb := needL_bounds hg
  unfold needL at hb
  rw [impl_needless.f.v_eq, impl_result.ok n l hg, Option.bind_some, impl_inversions.ok _ (by rw [resL_length]; omega), Option.bind_some, wrap_id (by omega) (by omega)]; rfl

theorem impl_isCountedLadder.ok (n : Int) (l : List Int) : impl_isCountedLadder.f.v n l = some (cLad n l) := by
  rw [impl_isCountedLadder.f.v_eq, impl_isLadder.ok, Option.bind_some]
  unfold cLad
  by_cases h : good n l = true
  · have hg := good_iff.1 h
    rw [if_pos h, h, Bool.true_and]
    by_cases h6 : n ≤ 6
    · rw [if_pos h6, impl_needless.ok n l h, Option.bind_some, decide_eq_true h6, Bool.true_and]
      rfl
    · rw [if_neg h6, decide_eq_false h6]; rfl
  · rw [if_neg h, Bool.eq_false_iff.2 h]; rfl

theorem impl_RankOfLeast.ok_di (p : List Int) (ho : isOrd p = true) (h6 : p.length ≤ 6) (r : Int) : ∀ (ds : List Int) (s : Nat), (∀ x ∈ ds, ∃ j : Nat, x = (j : Int) ∧ j + 1 < p.length) → s + ((ds.filter fun x => decide (x < r)).map fun x => cntF 16 (swp p x.toNat (x.toNat + 1))).sum ≤ 1152921504606846976 → impl_RankOfLeast.di impl_counter_count.f p r ds (s : Int) = some ((s + ((ds.filter fun x => decide (x < r)).map fun x => cntF 16 (swp p x.toNat (x.toNat + 1))).sum : Nat) : Int)
  | [], s, _, _ => by rw [impl_RankOfLeast.di]; rfl
  | x :: ds, s, h, hs => by
    obtain ⟨j, rfl, hj⟩ := h x (by simp)
    rw [impl_RankOfLeast.di]
    by_cases e : (j : Int) < r
    · rw [if_pos e]
      rw [List.filter_cons, if_pos (decide_eq_true e), List.map_cons, List.sum_cons] at hs ⊢
      simp only [toNat_cast] at hs ⊢
      rw [impl_exchanged.ok p j hj (by omega)]
      simp only [Option.bind_some]
      rw [impl_counter_count.ok _ (isOrd_swp ho j hj) (by rw [swp_length]; exact h6)]
      simp only [Option.bind_some]
      rw [wrap_id (by omega) (by omega), show (s : Int) + ((cntF 16 (swp p j (j + 1)) : Nat) : Int) = ((s + cntF 16 (swp p j (j + 1)) : Nat) : Int) by omega]
      rw [impl_RankOfLeast.ok_di p ho h6 r ds _ (fun y hy => h y (by simp [hy])) (by omega), Nat.add_assoc]
    · rw [if_neg e]
      rw [List.filter_cons, if_neg (by simpa using e)] at hs ⊢
      exact impl_RankOfLeast.ok_di p ho h6 r ds s (fun y hy => h y (by simp [hy])) hs
theorem impl_RankOfLeast.ok_ro (n : Nat) (hn2 : 2 ≤ n) (hn6 : n ≤ 6) : ∀ (rs p : List Int) (s : Nat), (∀ x ∈ rs, 0 ≤ x ∧ x ≤ (n : Int) - 2) → isOrd p = true → p.length = n → s + rs.length * (8 * 8 ^ 16) ≤ 1152921504606846976 → impl_RankOfLeast.ro impl_counter_count.f rs p (s : Int) = some ((s + rkLad rs p : Nat) : Int)
  | [], p, s, _, _, _, _ => by rw [impl_RankOfLeast.ro]; rfl
  | r :: rs, p, s, hr, ho, hp, hs => by
    have h0 := hr r (by simp)
    obtain ⟨j, rfl⟩ := Int.eq_ofNat_of_zero_le h0.1
    have hk := rkS_le (j : Int) p (by omega) (by omega)
    rw [List.length_cons, Nat.add_mul, Nat.one_mul] at hs
    have hf : (desc p).filter (fun x => decide (x < (j : Int))) = descGo p j 0 := descGo_filter p j (p.length - 1) 0 (by omega) (by omega)
    have h1 := impl_RankOfLeast.ok_di p ho (by omega) (j : Int) (desc p) s (fun x hx => by
      obtain ⟨i, e, hi, _⟩ := desc_mem hx
      exact ⟨i, e, hi⟩) (by rw [hf]; unfold rkS at hk; rw [toNat_cast] at hk; omega)
    rw [hf] at h1
    rw [impl_RankOfLeast.ro, show (impl_RankOfLeast.ev fun k => impl_descents.f k p) = impl_descents.f.v p from rfl, impl_descents.ok p (by omega) (by omega), Option.bind_some, if_pos (by have := desc_length p; omega), h1]
    simp only [Option.bind_some]
    rw [impl_exchanged.ok p j (by omega) (by omega)]
    simp only [Option.bind_some]
    have h2 := impl_RankOfLeast.ok_ro n hn2 hn6 rs (swp p j (j + 1)) (s + rkS (j : Int) p) (fun x hx => hr x (by simp [hx])) (isOrd_swp ho j (by omega)) (by rw [swp_length]; exact hp) (by omega)
    unfold rkS at h2
    rw [toNat_cast] at h2
    rw [h2, rkLad, rkS, toNat_cast, Nat.add_assoc]
theorem impl_RankOfLeast.ok (n : Int) (l : List Int) : impl_RankOfLeast.f n l = some (if cLad n l = true then (((rkLad l (resL n l) : Nat) : Int), true) else (0, false)) := by
  unfold impl_RankOfLeast.f
  rw [show (impl_RankOfLeast.ev fun k => impl_isCountedLadder.f k n l) = impl_isCountedLadder.f.v n l from rfl, impl_isCountedLadder.ok, Option.bind_some]
  by_cases h : cLad n l = true
  · have hc := cLad_iff.1 h
    have hg := good_iff.1 hc.1
    obtain ⟨m, rfl⟩ := Int.eq_ofNat_of_zero_le (show 0 ≤ n by omega)
    rw [if_pos h, if_pos h, if_pos hg.2.2.1]
    rw [show (impl_RankOfLeast.ev fun k => impl_result.f k (m : Int) l) = impl_result.f.v (m : Int) l from rfl, impl_result.ok _ l hc.1, Option.bind_some]
    have := impl_RankOfLeast.ok_ro m (by omega) (by omega) l (resL (m : Int) l) 0 hg.2.2.2 (isOrd_resL hc.1) (by rw [resL_length]; rfl) (by have : l.length * (8 * 8 ^ 16) ≤ 60 * (8 * 8 ^ 16) := Nat.mul_le_mul_right _ hg.2.2.1; omega)
    rw [show ((0 : Nat) : Int) = 0 from rfl, Nat.zero_add] at this
    rw [this]; rfl
  · rw [if_neg h, if_neg h]

theorem laws_eqIntS.ok_l (xs : List Int) (hn : xs.length ≤ 140737488355328) : ∀ (d i : Nat), xs.length - i = d → laws_eqIntS.l0.v xs xs i = some true := by
  intro d
  induction d with
  | zero =>
    intro i hd
    rw [laws_eqIntS.l0.v_eq, if_neg (cast_nlt (by omega))]
  | succ d ih =>
    intro i hd
    have h : i < xs.length := by omega
    rw [laws_eqIntS.l0.v_eq, if_pos (cast_lt h), if_pos (Int.natCast_nonneg i), if_pos (cast_lt h), if_pos rfl, succ_wrap h hn]
    exact ih (i + 1) (by omega)
theorem laws_eqIntS.ok (xs : List Int) (hn : xs.length ≤ 140737488355328) : laws_eqIntS.f.v xs xs = some true := by
  rw [laws_eqIntS.f.v_eq, if_pos rfl]
  exact laws_eqIntS.ok_l xs hn xs.length 0 (by omega)

theorem laws_eqLadder.ok (n : Int) (l : List Int) (h : l.length ≤ 140737488355328) : laws_eqLadder.f.v n l n l = some true := by
  rw [laws_eqLadder.f.v_eq, if_pos rfl, laws_eqIntS.ok l h]; rfl

theorem laws_szLadder.ok (n : Int) (l : List Int) (h : l.length ≤ 1048576) : laws_szLadder.f n l 1048576 = some (1048576 - (l.length : Int)) := by
  unfold laws_szLadder.f laws_szIntS.f
  rw [wrap_id (by omega) (by omega), if_neg (by omega), Option.bind_some, if_neg (by omega)]
theorem laws_szLadder.no (n : Int) (l : List Int) (h : ¬ l.length ≤ 1048576) (h2 : l.length * 8 ≤ 140737488351232) : laws_szLadder.f n l 1048576 = some (-1) := by
  unfold laws_szLadder.f laws_szIntS.f
  rw [wrap_id (by omega) (by omega), if_pos (by omega), Option.bind_some, if_pos (by omega)]

theorem laws_toIntS.ok_l (xs : List Int) (hn : xs.length ≤ 140737488355328) : ∀ (d i : Nat) (ys : List Int), xs.length - i = d → ys.length = xs.length → ys.take i = xs.take i → laws_toIntS.l0.v xs ys i = some xs := by
  intro d
  induction d with
  | zero =>
    intro i ys hd hl ht
    rw [laws_toIntS.l0.v_eq, if_neg (cast_nlt (by omega))]
    rw [List.take_of_length_le (by omega), List.take_of_length_le (by omega)] at ht
    rw [ht]
  | succ d ih =>
    intro i ys hd hl ht
    have h : i < xs.length := by omega
    rw [laws_toIntS.l0.v_eq, if_pos (cast_lt h), if_pos (Int.natCast_nonneg i), if_pos (cast_lt (by omega)), succ_wrap h hn, toNat_cast]
    refine ih (i + 1) _ (by omega) (by rw [List.length_set]; exact hl) ?_
    rw [take_rd xs i h, ← ht, rd_lt xs i h, List.take_succ_eq_append_getElem (by rw [List.length_set]; omega), List.getElem_set_self, List.take_set_of_le (Nat.le_refl i)]
theorem laws_toIntS.ok (xs : List Int) (hn : xs.length ≤ 1048576) : laws_toIntS.f.v xs = some xs := by
  rw [laws_toIntS.f.v_eq, if_pos (Int.natCast_nonneg _), toNat_cast, if_pos (by omega)]
  exact laws_toIntS.ok_l xs (by omega) xs.length 0 _ (by omega) (by simp) (by simp)

theorem laws_toLadder.ok (n : Int) (l : List Int) (h : l.length ≤ 1048576) : laws_toLadder.f.v n l = some (n, l) := by
  rw [laws_toLadder.f.v_eq, laws_toIntS.ok l h]; rfl

theorem spec_alRank.ok_i (p : List Int) (hp : p.length ≤ 8) (acc : Int) (i : Nat) (x : Int) (ys : List Int) (hy : ys.length ≤ 8) (hi : i < p.length) (h0 : 0 ≤ acc) (h1 : acc ≤ 100000000) : ∀ (d j c : Nat), j + d = ys.length → c ≤ j → spec_alRank.l1.v p acc i x c p p.length i ys ys.length j = spec_alRank.l0.v p (acc * ((p.length : Int) - i) + ((c + fewer x (ys.drop j) : Nat) : Int)) p p.length ((i + 1 : Nat) : Int) := by
  intro d
  induction d with
  | zero =>
    intro j c hd hc
    have hm : 0 ≤ acc * ((p.length : Int) - i) ∧ acc * ((p.length : Int) - i) ≤ 100000000 * 8 := ⟨Int.mul_nonneg h0 (by omega), Int.mul_le_mul h1 (by omega) (by omega) (by omega)⟩
    rw [spec_alRank.l1.v_eq, if_neg (cast_nlt (by omega)), succ_wrap hi (by omega), List.drop_eq_nil_of_le (by omega), fewer, Nat.add_zero, wrap_id (x := (p.length : Int) - i) (by omega) (by omega), wrap_id (x := acc * ((p.length : Int) - i)) (by omega) (by omega), wrap_id (x := acc * ((p.length : Int) - i) + (c : Int)) (by omega) (by omega)]
    simp only [Nat.add_zero]
  | succ d ih =>
    intro j c hd hc
    have h : j < ys.length := by omega
    rw [spec_alRank.l1.v_eq, if_pos (cast_lt h), if_pos (Int.natCast_nonneg j), if_pos (cast_lt h), succ_wrap h (by omega), drop_rd ys j h, fewer]
    by_cases e : rd ys (j : Int) < x
    · rw [if_pos e, if_pos e, wrap_id (x := (c : Int) + 1) (by omega) (by omega), show (c : Int) + 1 = ((c + 1 : Nat) : Int) by omega, ih (j + 1) (c + 1) (by omega) (by omega), Nat.add_assoc]
    · rw [if_neg e, if_neg e, ih (j + 1) c (by omega) (by omega), Nat.zero_add]
theorem spec_alRank.ok_o (p : List Int) (hp : p.length ≤ 8) : ∀ (d i : Nat) (acc : Int), i + d = p.length → 0 ≤ acc → acc < ((9 ^ i : Nat) : Int) → spec_alRank.l0.v p acc p p.length i = some (rkGo acc (p.drop i)) := by
  intro d
  induction d with
  | zero =>
    intro i acc hd h0 h1
    rw [spec_alRank.l0.v_eq, if_neg (cast_nlt (by omega)), List.drop_eq_nil_of_le (by omega), rkGo]
  | succ d ih =>
    intro i acc hd h0 h1
    have h : i < p.length := by omega
    have h9 : 9 ^ i ≤ 9 ^ 8 := Nat.pow_le_pow_right (by decide) (by omega)
    have h98 : 9 ^ 8 = 43046721 := by decide
    have h2 := spec_alRank.ok_i p hp acc i (rd p (i : Int)) (p.drop (i + 1)) (by rw [List.length_drop]; omega) h h0 (by omega) (p.drop (i + 1)).length 0 0 (by omega) (by omega)
    rw [spec_alRank.l0.v_eq, if_pos (cast_lt h), if_pos (Int.natCast_nonneg i), if_pos (cast_lt h), succ_wrap h (by omega), if_pos (Int.natCast_nonneg _), if_pos (by omega), toNat_cast, Option.bind_some]
    rw [show ((0 : Nat) : Int) = 0 from rfl] at h2
    have hf := fewer_len (rd p (i : Int)) (p.drop (i + 1))
    rw [List.length_drop] at hf
    have hb : acc * ((p.length : Int) - i) + ((fewer (rd p (i : Int)) (p.drop (i + 1)) : Nat) : Int) < ((9 ^ (i + 1) : Nat) : Int) := by
      have h3 : acc * ((p.length : Int) - i) ≤ (((9 ^ i : Nat) : Int) - 1) * 8 := Int.mul_le_mul (by omega) (by omega) (by omega) (by omega)
      rw [Nat.pow_succ]
      omega
    rw [h2, List.drop_zero, Nat.zero_add, ih (i + 1) _ (by omega) (by have := Int.mul_nonneg h0 (show (0 : Int) ≤ (p.length : Int) - i by omega); omega) hb, drop_rd p i h, rkGo, List.length_drop, show ((p.length - (i + 1) : Nat) : Int) + 1 = (p.length : Int) - i by omega]
theorem spec_alRank.ok (p : List Int) (hp : p.length ≤ 8) : spec_alRank.f.v p = some (rankL p) := by
  rw [spec_alRank.f.v_eq]
  have := spec_alRank.ok_o p hp p.length 0 0 (by omega) (by omega) (by decide)
  simpa [rankL] using this

theorem spec_l1Own.ok (l : List Int) (h : l.length ≤ 1048576) : spec_l1Own.f l = some l := by
  unfold spec_l1Own.f
  rw [Option.bind_some, if_pos (by simp; omega)]; rfl

theorem spec_alSwap.ok (p : List Int) (j : Nat) (hj : j + 1 < p.length) (hp : p.length ≤ 1048576) : spec_alSwap.f p (j : Int) = some (swp p j (j + 1)) := by
  have e : wrap64 ((j : Int) + 1) = ((j + 1 : Nat) : Int) := succ_wrap (show j < p.length by omega) (by omega)
  unfold spec_alSwap.f
  rw [spec_l1Own.ok p hp, Option.bind_some, e, if_pos (Int.natCast_nonneg _), if_pos (cast_lt hj), if_pos (Int.natCast_nonneg _), if_pos (cast_lt (by omega)), if_pos (cast_lt (by omega)), if_pos (cast_lt hj), toNat_cast, toNat_cast]
  rfl

theorem spec_alCounter_count.good_of {p : List Int} (h : isOrd p = true) : spec_alCounter_count.good p := ⟨(isOrd_all h).2, (isOrd_all h).1⟩
theorem spec_alCounter_count.ord_of {p : List Int} (h : spec_alCounter_count.good p) (h1 : 1 ≤ p.length) (h8 : p.length ≤ 8) : isOrd p = true := by
  unfold isOrd
  rw [if_pos ⟨h1, h8⟩]
  exact ordGo_of _ p [] (fun x hx => by have := h.2 x hx; exact ⟨this.1, by omega, by simp⟩) h.1
theorem spec_alCounter_count.rank_of {p : List Int} (hp : p.length ≤ 8) {k : Nat} {a : Int} (h : spec_alRank.f k p = some a) : a = rankL p := by
  have h1 : spec_alRank.f.v p = some a := lim_of (fun k => spec_alRank.mono p k) h
  rw [spec_alRank.ok p hp] at h1
  exact (Option.some.inj h1).symm
theorem spec_alCounter_count.inj_ok : spec_alCounter_count.inj := by
  intro q q' k k' a hq hq' h8 hl h h'
  rcases Nat.eq_zero_or_pos q.length with h0 | h0
  · rw [List.length_eq_zero_iff.1 h0, List.length_eq_zero_iff.1 (show q'.length = 0 by omega)]
  · have h1 := spec_alCounter_count.ord_of hq h0 h8
    have h2 := spec_alCounter_count.ord_of hq' (by omega) (by omega)
    have e1 := spec_alCounter_count.rank_of (isOrd_len h1).2 h
    have e2 := spec_alCounter_count.rank_of (isOrd_len h2).2 h'
    exact rank_inj h1 h2 hl (e1.symm.trans e2)
theorem spec_alCounter_count.fc_eq : ∀ n, spec_alNew.fc n = fct n
  | 0 => rfl
  | n + 1 => by rw [spec_alNew.fc, fct, spec_alCounter_count.fc_eq n]
theorem spec_alCounter_count.ok_lp (g : List Int → Option Int) (c : List Int → Nat) (p : List Int) (hp : p.length ≤ 8) (M : Nat) (hM : M ≤ 1152921504606846976) : ∀ (m i n : Nat) (b : Bool), i + m + 1 = p.length → (∀ j : Nat, j + 1 < p.length → rd p (j : Int) > rd p ((j : Int) + 1) → g (swp p j (j + 1)) = some ((c (swp p j (j + 1)) : Nat) : Int)) → n + ((descGo p m i).map fun x => c (swp p x.toNat (x.toNat + 1))).sum ≤ M →
    spec_alCounter_count.lp g p m i (n : Int) b = some (((n + ((descGo p m i).map fun x => c (swp p x.toNat (x.toNat + 1))).sum : Nat) : Int), if (descGo p m i).length = 0 then b else false)
  | 0, i, n, b, _, _, _ => by rw [spec_alCounter_count.lp, descGo]; rfl
  | m + 1, i, n, b, hi, hg, hn => by
    rw [spec_alCounter_count.lp, descGo]
    rw [descGo] at hn
    by_cases e : rd p (i : Int) > rd p ((i : Int) + 1)
    · rw [if_pos e] at hn ⊢
      rw [if_pos e]
      rw [List.map_cons, List.sum_cons] at hn
      simp only [toNat_cast] at hn
      rw [spec_alSwap.ok p i (by omega) (by omega)]
      simp only [Option.bind_some]
      rw [hg i (by omega) e]
      simp only [Option.bind_some]
      rw [wrap_id (by omega) (by omega), show (n : Int) + ((c (swp p i (i + 1)) : Nat) : Int) = ((n + c (swp p i (i + 1)) : Nat) : Int) by omega]
      rw [spec_alCounter_count.ok_lp g c p hp M hM m (i + 1) _ false (by omega) hg (by omega), List.map_cons, List.sum_cons]
      simp only [toNat_cast, List.length_cons, Nat.add_assoc]
      congr 2
      by_cases hz : (descGo p m (i + 1)).length = 0
      · rw [if_pos hz, if_neg (by omega)]
      · rw [if_neg hz, if_neg (by omega)]
    · rw [if_neg e] at hn ⊢
      rw [if_neg e]
      exact spec_alCounter_count.ok_lp g c p hp M hM m (i + 1) n b (by omega) hg hn
theorem spec_alCounter_count.ok_g (n : Nat) (hn8 : n ≤ 8) : ∀ (d : Nat) (p : List Int), isOrd p = true → p.length = n → invC p ≤ d → d ≤ 16 → spec_alCounter_count.g (spec_alNew.fc n) n (d + 1) p = some ((cntF (d + 1) p : Nat) : Int) := by
  intro d
  induction d with
  | zero =>
    intro p ho hl hi hd
    have hr := rank_lt p
    have hln := isOrd_len ho
    have hds : desc p = [] := by
      cases e : desc p with
      | nil => rfl
      | cons a r =>
        obtain ⟨j, _, _, _, hc⟩ := desc_head e
        omega
    rw [spec_alCounter_count.g, if_pos ⟨spec_alCounter_count.inj_ok, spec_alCounter_count.good_of ho, hl, hn8⟩]
    rw [show (spec_alCounter_count.ev fun k => spec_alRank.f k p) = spec_alRank.f.v p from rfl, spec_alRank.ok p (by omega), Option.bind_some, if_pos (by rw [spec_alCounter_count.fc_eq, ← hl]; exact hr)]
    have := spec_alCounter_count.ok_lp (spec_alCounter_count.g (spec_alNew.fc n) n 0) (cntF 0) p (by omega) (8 ^ 18) (by decide) (p.length - 1) 0 0 true (by omega) (fun j hj hgt => by
      have hh : (j : Int) ∈ desc p := (desc_iff p j hj).2 hgt
      rw [hds] at hh; cases hh) (by rw [show descGo p (p.length - 1) 0 = desc p from rfl, hds]; simp)
    rw [show descGo p (p.length - 1) 0 = desc p from rfl, hds] at this
    rw [show ((0 : Nat) : Int) = 0 from rfl] at this
    rw [this, cntF, hds]
    rfl
  | succ d ih =>
    intro p ho hl hi hd
    have hr := rank_lt p
    have hln := isOrd_len ho
    rw [spec_alCounter_count.g, if_pos ⟨spec_alCounter_count.inj_ok, spec_alCounter_count.good_of ho, hl, hn8⟩]
    rw [show (spec_alCounter_count.ev fun k => spec_alRank.f k p) = spec_alRank.f.v p from rfl, spec_alRank.ok p (by omega), Option.bind_some, if_pos (by rw [spec_alCounter_count.fc_eq, ← hl]; exact hr)]
    have hle := cntF_le (d + 1 + 1) p (by omega)
    rw [cntF] at hle ⊢
    have h818 : (8 : Nat) ^ (d + 1 + 1) ≤ 8 ^ 18 := Nat.pow_le_pow_right (by decide) (by omega)
    have hlp := spec_alCounter_count.ok_lp (spec_alCounter_count.g (spec_alNew.fc n) n (d + 1)) (cntF (d + 1)) p (by omega) (8 ^ 18) (by decide) (p.length - 1) 0 0 true (by omega) (fun j hj hgt => ih _ (isOrd_swp ho j hj) (by rw [swp_length]; exact hl) (by have := invC_fall p j hj hgt; omega) (by omega))
    rw [show descGo p (p.length - 1) 0 = desc p from rfl] at hlp
    rw [show ((0 : Nat) : Int) = 0 from rfl] at hlp
    by_cases hz : (desc p).length = 0
    · have hds := List.length_eq_zero_iff.1 hz
      rw [hds] at hlp
      rw [hlp (by simp), if_pos hz]
      rfl
    · rw [if_neg hz] at hle
      rw [hlp (by omega), if_neg hz]
      simp only [if_neg hz, Option.bind_some, Nat.zero_add, Bool.false_eq_true, if_false]
theorem spec_alCounter_count.ok (p : List Int) (h : isOrd p = true) (h6 : p.length ≤ 6) : spec_alCounter_count.f (spec_alNew.fc p.length) p = some ((cntF 16 p : Nat) : Int) := by
  have hl := isOrd_len h
  exact spec_alCounter_count.ok_g p.length hl.2 15 p h rfl (invC_six h6) (by decide)
theorem spec_alCounter_count.ok_n (n : Nat) (h6 : n ≤ 6) (p : List Int) (h : isOrd p = true) (hl : p.length = n) : spec_alCounter_count.g (spec_alNew.fc n) n 16 p = some ((cntF 16 p : Nat) : Int) := spec_alCounter_count.ok_g n (by omega) 15 p h hl (invC_six (by omega)) (by decide)

theorem spec_l1All.ok_l (a b : Int) (xs : List Int) (hn : xs.length ≤ 140737488355328) : ∀ (d i : Nat), i + d = xs.length → spec_l1All.l0.v a b xs xs.length i = some ((xs.drop i).all fun x => decide (a ≤ x) && decide (x ≤ b)) := by
  intro d
  induction d with
  | zero =>
    intro i hd
    rw [spec_l1All.l0.v_eq, if_neg (cast_nlt (by omega)), List.drop_eq_nil_of_le (by omega)]
    rfl
  | succ d ih =>
    intro i hd
    have h : i < xs.length := by omega
    rw [spec_l1All.l0.v_eq, if_pos (cast_lt h), if_pos (Int.natCast_nonneg i), if_pos (cast_lt h), succ_wrap h hn, ih (i + 1) (by omega), drop_rd xs i h, List.all_cons]
    unfold spec_l1In.f
    by_cases e : a ≤ rd xs (i : Int)
    · rw [if_pos (show rd xs (i : Int) ≥ a from e), Option.bind_some, decide_eq_true e, Bool.true_and]
      by_cases e2 : rd xs (i : Int) ≤ b
      · rw [decide_eq_true e2, if_pos rfl, Bool.true_and]
      · rw [decide_eq_false e2, if_neg (by simp), Bool.false_and]
    · rw [if_neg (show ¬ rd xs (i : Int) ≥ a from e), Option.bind_some, decide_eq_false e, if_neg (by simp), Bool.false_and, Bool.false_and]
theorem spec_l1All.ok (xs : List Int) (a b : Int) (hn : xs.length ≤ 140737488355328) : spec_l1All.f.v xs a b = some (xs.all fun x => decide (a ≤ x) && decide (x ≤ b)) := by
  rw [spec_l1All.f.v_eq]
  have := spec_l1All.ok_l a b xs hn xs.length 0 (by omega)
  simpa using this

theorem spec_laGood.ok (n : Int) (l : List Int) : spec_laGood.f.v n l = some (good n l) := by
  rw [spec_laGood.f.v_eq]
  unfold spec_l1In.f good
  by_cases h1 : 2 ≤ n
  · rw [if_pos (show n ≥ 2 from h1), Option.bind_some, decide_eq_true h1, Bool.true_and]
    by_cases h2 : n ≤ 8
    · rw [decide_eq_true h2, if_pos rfl, Bool.true_and]
      by_cases h3 : l.length ≤ 60
      · rw [if_pos (by omega), decide_eq_true h3, Bool.true_and, spec_l1All.ok l 0 _ (by omega), wrap_id (x := n - 2) (by omega) (by omega)]; rfl
      · rw [if_neg (by omega), decide_eq_false h3, Bool.false_and]
    · rw [decide_eq_false h2, if_neg (by simp), Bool.false_and, Bool.false_and]
  · rw [if_neg (show ¬ n ≥ 2 from h1), Option.bind_some, decide_eq_false h1, if_neg (by simp), Bool.false_and, Bool.false_and, Bool.false_and]

theorem spec_laOver.ok (w r : Int) (h0 : -1000 ≤ r) (h1 : r ≤ 1000) : spec_laOver.f w r = some (over w r) := by
  unfold spec_laOver.f over
  rw [wrap_id (x := r + 1) (by omega) (by omega)]
  by_cases a : w = r
  · rw [if_pos a, if_pos a]
  · rw [if_neg a, if_neg a]
    by_cases b : w = r + 1
    · rw [if_pos b, if_pos b]
    · rw [if_neg b, if_neg b]

theorem spec_laDown.ok_l (xs : List Int) (hn : xs.length ≤ 1000) (hb : ∀ x ∈ xs, -1000 ≤ x ∧ x ≤ 1000) : ∀ (d i : Nat) (w : Int) (acc : List Int), i + d = xs.length → acc.length ≤ i + 1 → spec_laDown.l0.v w acc xs xs.length i = some (acc ++ wayT w (xs.drop i)) := by
  intro d
  induction d with
  | zero =>
    intro i w acc hd ha
    rw [spec_laDown.l0.v_eq, if_neg (cast_nlt (by omega)), List.drop_eq_nil_of_le (by omega), wayT, List.append_nil]
  | succ d ih =>
    intro i w acc hd ha
    have h : i < xs.length := by omega
    obtain ⟨h0, h1⟩ := hb _ (rd_mem xs i h)
    rw [spec_laDown.l0.v_eq, if_pos (cast_lt h), if_pos (Int.natCast_nonneg i), if_pos (cast_lt h), spec_laOver.ok w _ h0 h1, Option.bind_some, if_pos (by omega), succ_wrap h (by omega), ih (i + 1) _ _ (by omega) (by simp; omega), drop_rd xs i h, wayT, List.append_assoc]
    rfl
theorem spec_laDown.ok (xs : List Int) (w : Int) (hn : xs.length ≤ 1000) (hb : ∀ x ∈ xs, -1000 ≤ x ∧ x ≤ 1000) : spec_laDown.f.v xs w = some (wayL w xs) := by
  rw [spec_laDown.f.v_eq]
  have := spec_laDown.ok_l xs hn hb xs.length 0 w [w] (by omega) (by simp)
  simpa [wayL] using this
theorem good_wide {n : Int} {l : List Int} (h : good n l = true) : l.length ≤ 1000 ∧ ∀ x ∈ l, -1000 ≤ x ∧ x ≤ 1000 := by
  obtain ⟨_, h2, h3, h4⟩ := good_iff.1 h
  exact ⟨by omega, fun x hx => by have := h4 x hx; omega⟩

theorem spec_laResult.ok_l (n : Int) (l : List Int) (hg : good n l = true) : ∀ (d i : Nat) (acc : List Int), i + d = n.toNat → acc.length ≤ i → spec_laResult.l0.v n l acc i = some (acc ++ resGo l d i) := by
  obtain ⟨g1, g2, _, _⟩ := good_iff.1 hg
  obtain ⟨h1, h2⟩ := good_wide hg
  intro d
  induction d with
  | zero =>
    intro i acc hd ha
    rw [spec_laResult.l0.v_eq, if_neg (by omega), resGo, List.append_nil]
  | succ d ih =>
    intro i acc hd ha
    rw [spec_laResult.l0.v_eq, if_pos (by omega), spec_laDown.ok l _ h1 h2, Option.bind_some, if_pos (Int.natCast_nonneg _), if_pos (by rw [wayL_length]; omega), if_pos (by omega), wayL_last, succ_wrap (show i < n.toNat by omega) (by omega), ih (i + 1) _ (by omega) (by simp; omega), resGo, List.append_assoc]; rfl
theorem spec_laResult.ok (n : Int) (l : List Int) (hg : good n l = true) : spec_laResult.f.v n l = some (resL n l) := by
  rw [spec_laResult.f.v_eq]
  have := spec_laResult.ok_l n l hg n.toNat 0 [] (by omega) (by simp)
  simpa [resL] using this

theorem spec_lsInversions.ok_i (p : List Int) (hp : p.length ≤ 8) (i : Nat) (hi : i < p.length) : ∀ (d j : Nat) (acc : List (List Int)), j + d = p.length → acc.length + d ≤ 1000 → spec_lsInversions.l1.v p acc i j p.length i = spec_lsInversions.l0.v p (acc ++ invRow p i j d) p.length ((i + 1 : Nat) : Int) := by
  intro d
  induction d with
  | zero =>
    intro j acc hd ha
    rw [spec_lsInversions.l1.v_eq, if_neg (cast_nlt (by omega)), succ_wrap hi (by omega), invRow, List.append_nil]
  | succ d ih =>
    intro j acc hd ha
    have hj : j < p.length := by omega
    rw [spec_lsInversions.l1.v_eq, if_pos (cast_lt hj), if_pos (Int.natCast_nonneg i), if_pos (cast_lt hi), if_pos (Int.natCast_nonneg j), succ_wrap hj (by omega), invRow]
    by_cases e : rd p (i : Int) > rd p (j : Int)
    · rw [if_pos e, if_pos e, if_pos (by omega), ih (j + 1) _ (by omega) (by simp; omega), List.append_assoc]; rfl
    · rw [if_neg e, if_neg e, ih (j + 1) _ (by omega) (by omega)]
theorem spec_lsInversions.ok_o (p : List Int) (hp : p.length ≤ 8) : ∀ (d i : Nat) (acc : List (List Int)), i + d = p.length → acc.length + d * p.length ≤ 900 → spec_lsInversions.l0.v p acc p.length i = some (acc ++ invFrom p i d) := by
  intro d
  induction d with
  | zero =>
    intro i acc hd ha
    rw [spec_lsInversions.l0.v_eq, if_neg (cast_nlt (by omega)), invFrom, List.append_nil]
  | succ d ih =>
    intro i acc hd ha
    have hi : i < p.length := by omega
    rw [Nat.succ_mul] at ha
    have h1 := invRow_length p i (p.length - (i + 1)) (i + 1)
    rw [spec_lsInversions.l0.v_eq, if_pos (cast_lt hi), succ_wrap hi (by omega), spec_lsInversions.ok_i p hp i hi (p.length - (i + 1)) (i + 1) acc (by omega) (by omega), ih (i + 1) _ (by omega) (by rw [List.length_append]; omega), invFrom, List.append_assoc]
theorem spec_lsInversions.ok (p : List Int) (hp : p.length ≤ 8) : spec_lsInversions.f.v p = some (invs p) := by
  rw [spec_lsInversions.f.v_eq]
  have h2 : p.length * p.length ≤ 8 * 8 := Nat.mul_le_mul hp hp
  have := spec_lsInversions.ok_o p hp p.length 0 [] (by omega) (by simp; omega)
  simpa [invs] using this

theorem spec_alLadder.ok (n : Int) (l : List Int) : spec_alLadder.f.v n l = some (cLad n l) := by
  rw [spec_alLadder.f.v_eq, spec_laGood.ok, Option.bind_some]
  unfold cLad
  by_cases h : good n l = true
  · have hg := good_iff.1 h
    rw [if_pos h, h, Bool.true_and]
    by_cases h6 : n ≤ 6
    · rw [if_pos h6, spec_laResult.ok n l h, Option.bind_some, spec_lsInversions.ok _ (by rw [resL_length]; omega), Option.bind_some, decide_eq_true h6, Bool.true_and]
      congr 1
      unfold needL
      by_cases e : (l.length : Int) = ((invs (resL n l)).length : Int)
      · rw [decide_eq_true (by omega)]; exact beq_iff_eq.2 e
      · rw [decide_eq_false (by omega)]; exact beq_eq_false_iff_ne.2 e
    · rw [if_neg h6, decide_eq_false h6]; rfl
  · rw [if_neg h, Bool.eq_false_iff.2 h]; rfl

theorem spec_RankOfLeast.ok_ri (n : Nat) (hn6 : n ≤ 6) (p : List Int) (ho : isOrd p = true) (hp : p.length = n) : ∀ (m i s : Nat), i + m + 1 ≤ p.length → s + ((descGo p m i).map fun x => cntF 16 (swp p x.toNat (x.toNat + 1))).sum ≤ 1152921504606846976 → spec_RankOfLeast.ri (spec_alCounter_count.g (spec_alNew.fc n) n 16) p m i (s : Int) = some ((s + ((descGo p m i).map fun x => cntF 16 (swp p x.toNat (x.toNat + 1))).sum : Nat) : Int)
  | 0, i, s, _, _ => by rw [spec_RankOfLeast.ri, descGo]; rfl
  | m + 1, i, s, hi, hs => by
    rw [spec_RankOfLeast.ri, descGo, if_pos ⟨by omega, by omega⟩]
    rw [descGo] at hs
    by_cases e : rd p (i : Int) > rd p ((i : Int) + 1)
    · rw [if_pos e] at hs ⊢
      rw [if_pos e]
      rw [List.map_cons, List.sum_cons] at hs
      simp only [toNat_cast] at hs
      rw [spec_alSwap.ok p i (by omega) (by omega)]
      simp only [Option.bind_some]
      rw [spec_alCounter_count.ok_n n hn6 _ (isOrd_swp ho i (by omega)) (by rw [swp_length]; exact hp)]
      simp only [Option.bind_some]
      rw [wrap_id (by omega) (by omega), show (s : Int) + ((cntF 16 (swp p i (i + 1)) : Nat) : Int) = ((s + cntF 16 (swp p i (i + 1)) : Nat) : Int) by omega]
      rw [spec_RankOfLeast.ok_ri n hn6 p ho hp m (i + 1) _ (by omega) (by omega), List.map_cons, List.sum_cons]
      simp only [toNat_cast, Nat.add_assoc]
    · rw [if_neg e] at hs ⊢
      rw [if_neg e]
      exact spec_RankOfLeast.ok_ri n hn6 p ho hp m (i + 1) s (by omega) hs
theorem spec_RankOfLeast.ok_ro (n : Nat) (hn2 : 2 ≤ n) (hn6 : n ≤ 6) : ∀ (rs p : List Int) (s : Nat), (∀ x ∈ rs, 0 ≤ x ∧ x ≤ (n : Int) - 2) → isOrd p = true → p.length = n → s + rs.length * (8 * 8 ^ 16) ≤ 1152921504606846976 → spec_RankOfLeast.ro (spec_alCounter_count.g (spec_alNew.fc n) n 16) rs p (s : Int) = some ((s + rkLad rs p : Nat) : Int)
  | [], p, s, _, _, _, _ => by rw [spec_RankOfLeast.ro]; rfl
  | r :: rs, p, s, hr, ho, hp, hs => by
    have h0 := hr r (by simp)
    obtain ⟨j, rfl⟩ := Int.eq_ofNat_of_zero_le h0.1
    have hk := rkS_le (j : Int) p (by omega) (by omega)
    rw [List.length_cons, Nat.add_mul, Nat.one_mul] at hs
    have h1 := spec_RankOfLeast.ok_ri n hn6 p ho hp j 0 s (by omega) (by unfold rkS at hk; rw [toNat_cast] at hk; omega)
    rw [spec_RankOfLeast.ro, if_pos h0.1, toNat_cast, h1]
    simp only [Option.bind_some]
    rw [spec_alSwap.ok p j (by omega) (by omega)]
    simp only [Option.bind_some]
    have h2 := spec_RankOfLeast.ok_ro n hn2 hn6 rs (swp p j (j + 1)) (s + rkS (j : Int) p) (fun x hx => hr x (by simp [hx])) (isOrd_swp ho j (by omega)) (by rw [swp_length]; exact hp) (by omega)
    unfold rkS at h2
    rw [toNat_cast] at h2
    rw [h2, rkLad, rkS, toNat_cast, Nat.add_assoc]
theorem spec_RankOfLeast.ok (n : Int) (l : List Int) : spec_RankOfLeast.f n l = some (if cLad n l = true then (((rkLad l (resL n l) : Nat) : Int), true) else (0, false)) := by
  unfold spec_RankOfLeast.f
  rw [show (spec_RankOfLeast.ev fun k => spec_alLadder.f k n l) = spec_alLadder.f.v n l from rfl, spec_alLadder.ok, Option.bind_some]
  by_cases h : cLad n l = true
  · have hc := cLad_iff.1 h
    have hg := good_iff.1 hc.1
    obtain ⟨m, rfl⟩ := Int.eq_ofNat_of_zero_le (show 0 ≤ n by omega)
    rw [if_pos h, if_pos h, if_pos (by omega)]
    rw [show (spec_RankOfLeast.ev fun k => spec_laResult.f k (m : Int) l) = spec_laResult.f.v (m : Int) l from rfl, spec_laResult.ok _ l hc.1, Option.bind_some, toNat_cast]
    have := spec_RankOfLeast.ok_ro m (by omega) (by omega) l (resL (m : Int) l) 0 hg.2.2.2 (isOrd_resL hc.1) (by rw [resL_length]; rfl) (by have : l.length * (8 * 8 ^ 16) ≤ 60 * (8 * 8 ^ 16) := Nat.mul_le_mul_right _ hg.2.2.1; omega)
    rw [show ((0 : Nat) : Int) = 0 from rfl, Nat.zero_add] at this
    rw [this]; rfl
  · rw [if_neg h, if_neg h]

theorem FnExactRankOfLeast : laws_FnExactRankOfLeast.Pure := by
  intro n l _ _ hb _
  refine laws_FnExactRankOfLeast.f.ends n l ?_
  rw [laws_FnExactRankOfLeast.f.v_eq]
  by_cases h : l.length ≤ 1048576
  · obtain ⟨r, b, hs, hi⟩ : ∃ r b, spec_RankOfLeast.f n l = some (r, b) ∧ impl_RankOfLeast.f n l = some (r, b) := by
      rw [spec_RankOfLeast.ok, impl_RankOfLeast.ok]
      split
      · exact ⟨_, _, rfl, rfl⟩
      · exact ⟨_, _, rfl, rfl⟩
    have e0 := laws_toLadder.ok n l h
    have e1 := laws_eqLadder.ok n l (by omega)
    have n0 : ¬ ((1048576 : Int) - (l.length : Int) < 0) := by omega
    simp only [laws_szLadder.ok n l h, e0, e1, hs, hi, if_neg n0, laws_FnExactRankOfLeast.j0.v_eq, Option.bind_some, bne_self_eq_false, Bool.false_eq_true, if_false, if_true]
  · rw [laws_szLadder.no n l h hb, Option.bind_some, if_pos (by omega)]

end Go.Proofs.Ytheeffchjdkhnaa.Pure
