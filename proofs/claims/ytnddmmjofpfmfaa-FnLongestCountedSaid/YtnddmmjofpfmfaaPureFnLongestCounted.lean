/- Proved: for every input the law FnLongestCounted returns true (its plain statement, over numbers and lists). No condition. -/
import Derived.Test.YtnddmmjofpfmfaaPLcx6
import Derived.Test.YtnddmmjofpfmfaaVLcx1
import Derived.Test.YtnddmmjofpfmfaaVLcx2
import Derived.Test.YtnddmmjofpfmfaaVLcx3
import Derived.Test.YtnddmmjofpfmfaaVLcx4
import Derived.Test.YtnddmmjofpfmfaaVLcx5
import Derived.Test.YtnddmmjofpfmfaaVLcx6
import Derived.Test.YtnddmmjofpfmfaaCounts
import Derived.Test.YtnddmmjofpfmfaaDraw
import Derived.Test.YtnddmmjofpfmfaaInvs
import Derived.Test.YtnddmmjofpfmfaaLongest
import Derived.Test.YtnddmmjofpfmfaaOrders
import Derived.Test.YtnddmmjofpfmfaaPerms
import Derived.Test.YtnddmmjofpfmfaaPlain
import Derived.Test.YtnddmmjofpfmfaaTallies
namespace Go.Proofs.Ytnddmmjofpfmfaa.Pure
open Go.RowKit Go.Proofs.Ytnddmmjofpfmfaa.PLc Go.Proofs.YtnddmmjofpfmfaaW.PrintWords Go.Proofs.YtnddmmjofpfmfaaW.PrintLast Go.Proofs.YtnddmmjofpfmfaaW.PrintMore Go.Proofs.YtnddmmjofpfmfaaL
set_option linter.unusedVariables false
set_option linter.unusedSimpArgs false

theorem impl_descents.ok_l (p : List Int) (h1 : 1 ≤ p.length) (hp : p.length ≤ 1000) : ∀ (d i : Nat) (acc : List Int), i + 1 + d = p.length → acc.length ≤ i → impl_descents.l0.v p acc i = some (acc ++ descGo p d i) := by
  intro d
  induction d with
  | zero =>
    intro i acc hd ha
    rw [impl_descents.l0.v_eq, succ_wrap (show i < p.length by omega) (by omega), if_neg (cast_nlt (by omega)), descGo, List.append_nil]
  | succ d ih =>
    intro i acc hd ha
    rw [impl_descents.l0.v_eq, succ_wrap (show i < p.length by omega) (by omega), if_pos (cast_lt (by omega)), if_pos (Int.natCast_nonneg i), if_pos (cast_lt (by omega)), if_pos (Int.natCast_nonneg _), descGo]
    by_cases e : rd p (i : Int) > rd p ((i : Int) + 1)
    · have e' : rd p (i : Int) > rd p ((i + 1 : Nat) : Int) := e
      rw [if_pos e', if_pos e, if_pos (by omega), ih (i + 1) _ (by omega) (by simp; omega), List.append_assoc]; rfl
    · have e' : ¬ rd p (i : Int) > rd p ((i + 1 : Nat) : Int) := e
      rw [if_neg e', if_neg e, ih (i + 1) _ (by omega) (by omega)]
theorem impl_descents.ok (p : List Int) (h1 : 1 ≤ p.length) (hp : p.length ≤ 1000) : impl_descents.f.v p = some (desc p) := by
  rw [impl_descents.f.v_eq]
  have := impl_descents.ok_l p h1 hp (p.length - 1) 0 [] (by omega) (by simp)
  simpa [desc] using this

theorem slices_Clone_int_int.ok (l : List Int) (h : l.length ≤ 1048576) : slices_Clone_int_int.f l = some l := by
  unfold slices_Clone_int_int.f
  rw [if_pos (by omega)]

theorem impl_exchanged.ok (p : List Int) (j : Nat) (hj : j + 1 < p.length) (hp : p.length ≤ 1048576) : impl_exchanged.f p (j : Int) = some (swp p j (j + 1)) := by
  have e : wrap64 ((j : Int) + 1) = ((j + 1 : Nat) : Int) := succ_wrap (show j < p.length by omega) (by omega)
  unfold impl_exchanged.f
  rw [slices_Clone_int_int.ok p hp, Option.bind_some, e, if_pos (Int.natCast_nonneg _), if_pos (cast_lt hj), if_pos (Int.natCast_nonneg _), if_pos (cast_lt (by omega)), toNat_cast, toNat_cast]
  rfl

theorem impl_counter_count.ok_sm (g : List Int → Option Int) (c : List Int → Nat) (p : List Int) (hp : p.length ≤ 8) (M : Nat) (hM : M ≤ 1152921504606846976) : ∀ (ds : List Int) (n : Nat), (∀ x ∈ ds, ∃ j : Nat, x = (j : Int) ∧ j + 1 < p.length ∧ g (swp p j (j + 1)) = some ((c (swp p j (j + 1)) : Nat) : Int)) → n + (ds.map fun x => c (swp p x.toNat (x.toNat + 1))).sum ≤ M → impl_counter_count.sm g p ds (n : Int) = some ((n + (ds.map fun x => c (swp p x.toNat (x.toNat + 1))).sum : Nat) : Int)
  | [], n, _, _ => by rw [impl_counter_count.sm]; rfl
  | x :: ds, n, h, hn => by
    obtain ⟨j, rfl, hj, hg⟩ := h x (by simp)
    rw [List.map_cons, List.sum_cons] at hn
    simp only [toNat_cast] at hn
    rw [impl_counter_count.sm, impl_exchanged.ok p j hj (by omega)]
    simp only [Option.bind_some]
    rw [hg]
    simp only [Option.bind_some]
    rw [wrap_id (by omega) (by omega), show (n : Int) + ((c (swp p j (j + 1)) : Nat) : Int) = ((n + c (swp p j (j + 1)) : Nat) : Int) by omega]
    rw [impl_counter_count.ok_sm g c p hp M hM ds _ (fun y hy => h y (by simp [hy])) (by omega), List.map_cons, List.sum_cons]
    simp only [toNat_cast]
    rw [Nat.add_assoc]
theorem impl_counter_count.ok_g : ∀ (d : Nat) (p : List Int), (∀ x ∈ p, 0 ≤ x ∧ x ≤ 100) → 1 ≤ p.length → p.length ≤ 8 → invC p ≤ d → d ≤ 16 → impl_counter_count.g (d + 1) p = some ((cntF (d + 1) p : Nat) : Int) := by
  intro d
  induction d with
  | zero =>
    intro p hg h1 h8 hi hd
    have hds : desc p = [] := by
      cases e : desc p with
      | nil => rfl
      | cons a r =>
        obtain ⟨j, _, _, _, hc⟩ := desc_head e
        omega
    rw [impl_counter_count.g, if_pos ⟨List.all_eq_true.2 fun x hx => by have := hg x hx; simp; omega, h8⟩]
    rw [show (impl_counter_count.ev fun k => impl_descents.f k p) = impl_descents.f.v p from rfl, impl_descents.ok p h1 (by omega), Option.bind_some, hds, cntF, hds]
    rfl
  | succ d ih =>
    intro p hg h1 h8 hi hd
    rw [impl_counter_count.g, if_pos ⟨List.all_eq_true.2 fun x hx => by have := hg x hx; simp; omega, h8⟩]
    rw [show (impl_counter_count.ev fun k => impl_descents.f k p) = impl_descents.f.v p from rfl, impl_descents.ok p h1 (by omega), Option.bind_some, cntF]
    by_cases hz : (desc p).length = 0
    · rw [if_pos hz, if_pos hz]; rfl
    · rw [if_neg hz, if_neg hz, if_pos (Nat.le_trans (desc_length p) h8)]
      have hle := cntF_le (d + 1 + 1) p h8
      rw [cntF, if_neg hz] at hle
      have h818 : (8 : Nat) ^ (d + 1 + 1) ≤ 8 ^ 18 := Nat.pow_le_pow_right (by decide) (by omega)
      have := impl_counter_count.ok_sm (impl_counter_count.g (d + 1)) (cntF (d + 1)) p h8 (8 ^ 18) (by decide) (desc p) 0 (fun x hx => by
        obtain ⟨j, e, hj, hr⟩ := desc_mem hx
        refine ⟨j, e, hj, ih _ ?_ (by rw [swp_length]; omega) (by rw [swp_length]; omega) ?_ (by omega)⟩
        · intro y hy
          exact hg y ((swp_perm p j (j + 1) (by omega) hj).mem_iff.1 hy)
        · have := invC_fall p j hj hr; omega) (by omega)
      rw [Nat.zero_add] at this
      exact this
theorem impl_counter_count.ok (p : List Int) (h : isOrd p = true) (h6 : p.length ≤ 6) : impl_counter_count.f p = some ((cntF 16 p : Nat) : Int) := by
  have hl := isOrd_len h
  exact impl_counter_count.ok_g 15 p (fun x hx => by have := (isOrd_all h).1 x hx; omega) hl.1 hl.2 (invC_six h6) (by decide)

theorem impl_identity.ok_l (n : Nat) (hn : n ≤ 1000) : ∀ (d i : Nat) (acc : List Int), i + d = n → acc.length ≤ i → impl_identity.l0.v acc n i = some (acc ++ upFrom d i) := by
  intro d
  induction d with
  | zero =>
    intro i acc hd ha
    rw [impl_identity.l0.v_eq, if_neg (cast_nlt (by omega)), upFrom, List.append_nil]
  | succ d ih =>
    intro i acc hd ha
    have h : i < n := by omega
    rw [impl_identity.l0.v_eq, if_pos (cast_lt h), if_pos (by omega), succ_wrap h (by omega), ih (i + 1) _ (by omega) (by simp; omega), upFrom, List.append_assoc]; rfl
theorem impl_identity.ok (n : Nat) (hn : n ≤ 1000) : impl_identity.f.v n = some (ident n) := by
  rw [impl_identity.f.v_eq]
  have := impl_identity.ok_l n hn n 0 [] (by omega) (by simp)
  simpa [ident] using this

theorem impl_inverted.ok_i (p : List Int) (hp : p.length ≤ 8) (i : Nat) (hi : i < p.length) : ∀ (d j : Nat) (acc : List (List Int)), j + d = p.length → acc.length + d ≤ 1000 → impl_inverted.l1.v p acc i j p.length i = impl_inverted.l0.v p (acc ++ invRow p i j d) p.length ((i + 1 : Nat) : Int) := by
  intro d
  induction d with
  | zero =>
    intro j acc hd ha
    rw [impl_inverted.l1.v_eq, if_neg (cast_nlt (by omega)), succ_wrap hi (by omega), invRow, List.append_nil]
  | succ d ih =>
    intro j acc hd ha
    have hj : j < p.length := by omega
    rw [impl_inverted.l1.v_eq, if_pos (cast_lt hj), if_pos (Int.natCast_nonneg i), if_pos (cast_lt hi), if_pos (Int.natCast_nonneg j), succ_wrap hj (by omega), invRow]
    by_cases e : rd p (i : Int) > rd p (j : Int)
    · rw [if_pos e, if_pos e, if_pos (by omega), ih (j + 1) _ (by omega) (by simp; omega), List.append_assoc]; rfl
    · rw [if_neg e, if_neg e, ih (j + 1) _ (by omega) (by omega)]
theorem impl_inverted.ok_o (p : List Int) (hp : p.length ≤ 8) : ∀ (d i : Nat) (acc : List (List Int)), i + d = p.length → acc.length + d * p.length ≤ 900 → impl_inverted.l0.v p acc p.length i = some (acc ++ invFrom p i d) := by
  intro d
  induction d with
  | zero =>
    intro i acc hd ha
    rw [impl_inverted.l0.v_eq, if_neg (cast_nlt (by omega)), invFrom, List.append_nil]
  | succ d ih =>
    intro i acc hd ha
    have hi : i < p.length := by omega
    rw [Nat.succ_mul] at ha
    have h1 := invRow_length p i (p.length - (i + 1)) (i + 1)
    rw [impl_inverted.l0.v_eq, if_pos (cast_lt hi), succ_wrap hi (by omega), impl_inverted.ok_i p hp i hi (p.length - (i + 1)) (i + 1) acc (by omega) (by omega), ih (i + 1) _ (by omega) (by rw [List.length_append]; omega), invFrom, List.append_assoc]
theorem impl_inverted.ok (p : List Int) (hp : p.length ≤ 8) : impl_inverted.f.v p = some (invs p) := by
  rw [impl_inverted.f.v_eq]
  have h2 : p.length * p.length ≤ 8 * 8 := Nat.mul_le_mul hp hp
  have := impl_inverted.ok_o p hp p.length 0 [] (by omega) (by simp; omega)
  simpa [invs] using this

theorem impl_inversions.ok (p : List Int) (hp : p.length ≤ 8) : impl_inversions.f.v p = some ((invs p).length : Int) := by
  rw [impl_inversions.f.v_eq, impl_inverted.ok p hp]; rfl

theorem slices_Delete_int_int.ok (l : List Int) (a b : Int) (h0 : 0 ≤ a) (h1 : a ≤ b) (h2 : b ≤ l.length) : slices_Delete_int_int.f l a b = some (l.take a.toNat ++ l.drop b.toNat) := by
  unfold slices_Delete_int_int.f
  rw [if_pos h0, if_pos h1, if_pos h2]

theorem impl_without.ok (l : List Int) (i : Int) (h : l.length ≤ 1048576) (h0 : 0 ≤ i) (h1 : i < l.length) : impl_without.f l i = some (woL l i) := by
  unfold impl_without.f
  rw [slices_Clone_int_int.ok l h, Option.bind_some, wrap_id (x := i + 1) (by omega) (by omega), slices_Delete_int_int.ok l i (i + 1) h0 (by omega) (by omega), Option.bind_some, show (i + 1).toNat = i.toNat + 1 by omega]
  rfl

theorem impl_CountByLength.mono_lp {G G' : List Int → List Int → List Int × Nat → Option (List Int × Nat)} (h : ∀ a b c r, G a b c = some r → G' a b c = some r) (done left : List Int) : ∀ (m i : Nat) (s r : List Int × Nat), impl_CountByLength.lp G done left m i s = some r → impl_CountByLength.lp G' done left m i s = some r := by
  intro m
  induction m with
  | zero => intro i s r hr; exact hr
  | succ m ih =>
    intro i s r hr
    rw [impl_CountByLength.lp] at hr ⊢
    obtain ⟨c, hc, hr⟩ := Option.bind_eq_some_iff.1 hr
    rw [hc, Option.bind_some]
    by_cases h1 : c.length < 1000
    · rw [if_pos h1] at hr ⊢
      obtain ⟨q, hq, hr⟩ := Option.bind_eq_some_iff.1 hr
      rw [hq, Option.bind_some]
      obtain ⟨ys, hy, hr⟩ := Option.bind_eq_some_iff.1 hr
      rw [h _ _ _ _ hy, Option.bind_some]
      exact ih _ _ _ hr
    · rw [if_neg h1] at hr; cases hr
theorem impl_CountByLength.mono_g : ∀ (d : Nat) (done left : List Int) (s r : List Int × Nat), impl_CountByLength.g d done left s = some r → impl_CountByLength.g (d + 1) done left s = some r := by
  intro d
  induction d with
  | zero => intro done left s r h; cases h
  | succ d ih =>
    intro done left s r h
    rw [impl_CountByLength.g] at h ⊢
    obtain ⟨s1, hd, h⟩ := Option.bind_eq_some_iff.1 h
    rw [hd, Option.bind_some]
    exact impl_CountByLength.mono_lp (fun a b c r hr => ih a b c r hr) done left _ _ _ _ h
theorem impl_CountByLength.ev_of {α : Type} {g : Nat → Option α} {K : Nat} {r : α} (hm : ∀ k r, g k = some r → g (k + 1) = some r) (h : g K = some r) : impl_CountByLength.ev g = some r := by
  have hup : ∀ (n k : Nat) (r : α), g k = some r → g (k + n) = some r := by
    intro n
    induction n with
    | zero => intro k r h; exact h
    | succ n ih => intro k r h; exact hm _ _ (ih k r h)
  have hx : ∃ k r, g k = some r := ⟨K, r, h⟩
  unfold impl_CountByLength.ev
  rw [dif_pos hx]
  obtain ⟨r', hr'⟩ := hx.choose_spec
  have e1 := hup K _ _ hr'
  have e2 := hup hx.choose _ _ h
  rw [Nat.add_comm, e2] at e1
  rw [hr', Option.some.inj e1]
theorem impl_CountByLength.ok_cb (n : Nat) (h6 : n ≤ 6) (p xs : List Int) (m : Nat) (hp : okP n p = true) (hx : xs.length = n * (n - 1) / 2 + 1) (hm : m < 2000) : impl_CountByLength.cb p (xs, m) = some (tally xs p, m + 1) := by
  obtain ⟨h1, h2, h3⟩ := okP_iff.1 hp
  have hl := isOrd_len h1
  unfold impl_CountByLength.cb
  rw [show (impl_CountByLength.ev fun k => impl_inversions.f k p) = impl_inversions.f.v p from rfl, impl_inversions.ok p hl.2, Option.bind_some, invs_invC, if_pos ⟨Int.natCast_nonneg _, by show ((invC p : Nat) : Int) < (xs.length : Int); omega, hm⟩, impl_counter_count.ok p h1 (by omega), Option.bind_some, toNat_cast]
  rfl
theorem impl_CountByLength.ok_lp (n : Nat) (G : List Int → List Int → List Int × Nat → Option (List Int × Nat)) (F : List Int → List Int → List (List Int)) (done left : List Int) (hdn : done.length < 1000) (hll : left.length ≤ 1000)
    (hG : ∀ (i : Nat), i < left.length → ∀ (xs : List Int) (m : Nat), xs.length = n * (n - 1) / 2 + 1 → m + (F (done ++ [rd left (i : Int)]) (woL left (i : Int))).length ≤ 2000 → G (done ++ [rd left (i : Int)]) (woL left (i : Int)) (xs, m) = some ((F (done ++ [rd left (i : Int)]) (woL left (i : Int))).foldl tally xs, m + (F (done ++ [rd left (i : Int)]) (woL left (i : Int))).length)) :
    ∀ (d i : Nat) (xs : List Int) (m : Nat), i + d = left.length → xs.length = n * (n - 1) / 2 + 1 → m + ((List.range' i d).flatMap fun (j : Nat) => F (done ++ [rd left (j : Int)]) (woL left (j : Int))).length ≤ 2000 → impl_CountByLength.lp G done left d i (xs, m) = some (((List.range' i d).flatMap fun (j : Nat) => F (done ++ [rd left (j : Int)]) (woL left (j : Int))).foldl tally xs, m + ((List.range' i d).flatMap fun (j : Nat) => F (done ++ [rd left (j : Int)]) (woL left (j : Int))).length) := by
  intro d
  induction d with
  | zero => intro i xs m hi hx hM; rfl
  | succ d ih =>
    intro i xs m hi hx hM
    rw [List.range'_succ, List.flatMap_cons, List.length_append] at hM
    rw [impl_CountByLength.lp, slices_Clone_int_int.ok done (by omega), Option.bind_some, if_pos hdn, impl_without.ok left (i : Int) (by omega) (by omega) (by omega), Option.bind_some, hG i (by omega) xs m hx (by omega), Option.bind_some, ih (i + 1) _ _ (by omega) (by rw [tallies_length]; exact hx) (by omega), List.range'_succ, List.flatMap_cons, List.foldl_append, List.length_append, Nat.add_assoc]
theorem impl_CountByLength.ok_g (n : Nat) (h6 : n ≤ 6) : ∀ (d : Nat) (done left : List Int) (xs : List Int) (m : Nat), left.length < d → done.length + left.length ≤ 100 → xs.length = n * (n - 1) / 2 + 1 → (∀ p ∈ permsD d done left, okP n p = true) → m + (permsD d done left).length ≤ 2000 → impl_CountByLength.g d done left (xs, m) = some ((permsD d done left).foldl tally xs, m + (permsD d done left).length) := by
  intro d
  induction d with
  | zero => intro done left xs m hl; omega
  | succ d ih =>
    intro done left xs m hl hdl hx hok hM
    rw [impl_CountByLength.g]
    rw [permsD] at hok hM ⊢
    by_cases hz : left.length = 0
    · rw [if_pos hz] at hok hM ⊢
      rw [if_pos hz, impl_CountByLength.ok_cb n h6 done xs m (hok done (by simp)) hx (by simp at hM; omega), Option.bind_some, hz]
      rfl
    · rw [if_neg hz] at hok hM ⊢
      rw [if_neg hz, Option.bind_some]
      rw [List.range_eq_range'] at hok hM ⊢
      refine impl_CountByLength.ok_lp n (impl_CountByLength.g d) (permsD d) done left (by omega) (by omega) (fun i hi xs m hx hM => ?_) left.length 0 xs m (by omega) hx hM
      refine ih _ _ xs m (by rw [woL_length left (i : Int) (by omega) (by omega)]; omega) (by rw [woL_length left (i : Int) (by omega) (by omega)]; simp; omega) hx (fun p hp => hok p ?_) hM
      exact List.mem_flatMap.2 ⟨i, by simp [List.mem_range'_1]; omega, hp⟩
theorem impl_CountByLength.ok (a : Int) : impl_CountByLength.f a = some (if 2 ≤ a ∧ a ≤ 6 then (byLen a.toNat, true) else ([], false)) := by
  unfold impl_CountByLength.f
  by_cases h : 2 ≤ a ∧ a ≤ 6
  · obtain ⟨n, rfl⟩ : ∃ n : Nat, a = (n : Int) := ⟨a.toNat, by omega⟩
    have h2 : 2 ≤ n := by omega
    have h7 : n < 7 := by omega
    have hall := List.all_eq_true.1 (ords_ok n h7 h2)
    have hsm := (ords_small n h7 n h7).1
    have hlen : ((n : Int) * ((n : Int) - 1) / 2 + 1).toNat = n * (n - 1) / 2 + 1 := by
      obtain rfl | rfl | rfl | rfl | rfl : n = 2 ∨ n = 3 ∨ n = 4 ∨ n = 5 ∨ n = 6 := by omega
      all_goals rfl
    rw [if_pos h, if_pos h, show (impl_CountByLength.ev fun k => impl_identity.f k (n : Int)) = impl_identity.f.v (n : Int) from rfl, impl_identity.ok n (by omega), Option.bind_some, hlen, toNat_cast]
    have hg := impl_CountByLength.ok_g n (by omega) (n + 1) [] (ident n) (List.replicate (n * (n - 1) / 2 + 1) 0) 0 (by rw [ident_length]; omega) (by rw [ident_length]; simp; omega) List.length_replicate (by rw [perms_ords n h7 h2]; exact hall) (by rw [perms_ords n h7 h2]; omega)
    rw [impl_CountByLength.ev_of (fun k r => impl_CountByLength.mono_g k _ _ _ r) hg, Option.bind_some, perms_ords n h7 h2]
    rfl
  · rw [if_neg h, if_neg h]

theorem impl_CountAllLeast.ok_l (b : Bool) (xs : List Int) (hx : xs.length ≤ 1000) : ∀ (d i : Nat) (s : Int), i + d = xs.length → impl_CountAllLeast.l0.v b s xs (xs.length : Int) (i : Int) = some ((xs.drop i).foldl (fun s x => wrap64 (s + x)) s, b) := by
  intro d
  induction d with
  | zero => intro i s hi; rw [impl_CountAllLeast.l0.v_eq, if_neg (by omega), List.drop_eq_nil_of_le (by omega)]; rfl
  | succ d ih =>
    intro i s hi
    have h : i < xs.length := by omega
    rw [impl_CountAllLeast.l0.v_eq, if_pos (cast_lt h), if_pos (Int.natCast_nonneg _), if_pos (cast_lt h), succ_wrap h (by omega), ih (i + 1) _ (by omega), drop_rd xs i h, List.foldl_cons]
theorem impl_CountAllLeast.ok (a : Int) : impl_CountAllLeast.f.v a = some (if 2 ≤ a ∧ a ≤ 6 then (sumW (byLen a.toNat), true) else (0, false)) := by
  rw [impl_CountAllLeast.f.v_eq, impl_CountByLength.ok, Option.bind_some]
  by_cases h : 2 ≤ a ∧ a ≤ 6
  · have hs := byLen_short a.toNat (by omega)
    have := impl_CountAllLeast.ok_l true (byLen a.toNat) (by omega) _ 0 0 (Nat.zero_add _)
    rw [if_pos h, if_pos h]
    exact this
  · have := impl_CountAllLeast.ok_l false [] (by simp) _ 0 0 (Nat.zero_add _)
    rw [if_neg h, if_neg h]
    exact this

theorem slices_Index_int_int.ok_l (v : Int) (xs : List Int) (hn : xs.length ≤ 140737488355328) : ∀ (d i : Nat), xs.length - i = d → ∃ r, slices_Index_int_int.l0.v xs v xs.length i = some r ∧ decide (r ≥ 0) = decide (v ∈ xs.drop i) := by
  intro d
  induction d with
  | zero =>
    intro i hd
    refine ⟨-1, ?_, ?_⟩
    · rw [slices_Index_int_int.l0.v_eq, if_neg (cast_nlt (by omega))]
    · rw [List.drop_eq_nil_of_le (by omega)]; simp
  | succ d ih =>
    intro i hd
    have h : i < xs.length := by omega
    obtain ⟨r, hr, hr'⟩ := ih (i + 1) (by omega)
    rw [slices_Index_int_int.l0.v_eq, if_pos (cast_lt h), if_pos (Int.natCast_nonneg i), if_pos (cast_lt h), succ_wrap h hn, hr, drop_rd xs i h]
    by_cases e : v = rd xs (i : Int)
    · rw [if_pos e]; exact ⟨i, rfl, by simp [e, Int.natCast_nonneg]⟩
    · rw [if_neg e]; exact ⟨r, rfl, by rw [hr']; simp [e]⟩

theorem slices_Contains_int_int.ok (v : Int) (xs : List Int) (hn : xs.length ≤ 140737488355328) : slices_Contains_int_int.f.v xs v = some (decide (v ∈ xs)) := by
  obtain ⟨r, hr, hr'⟩ := slices_Index_int_int.ok_l v xs hn xs.length 0 (by omega)
  have e : slices_Index_int_int.f.v xs v = some r := by rw [slices_Index_int_int.f.v_eq]; exact hr
  rw [slices_Contains_int_int.f.v_eq, e, Option.bind_some, hr', List.drop_zero]

theorem impl_isOrder.ok_l (p : List Int) (hn : p.length ≤ 8) : ∀ (d i : Nat), p.length - i = d → impl_isOrder.l0.v p p p.length i = some (ordGo p.length (p.take i) (p.drop i)) := by
  intro d
  induction d with
  | zero =>
    intro i hd
    rw [impl_isOrder.l0.v_eq, if_neg (cast_nlt (by omega)), List.drop_eq_nil_of_le (by omega)]
    rfl
  | succ d ih =>
    intro i hd
    have h : i < p.length := by omega
    rw [impl_isOrder.l0.v_eq, if_pos (cast_lt h), if_pos (Int.natCast_nonneg i), if_pos (cast_lt h), succ_wrap h (by omega), ih (i + 1) (by omega), drop_rd p i h, take_rd p i h]
    rw [wrap_id (x := (p.length : Int) - 1) (by omega) (by omega), toNat_cast, slices_Contains_int_int.ok _ _ (by rw [List.length_take]; omega)]
    unfold impl_between.f
    rw [ordGo_cons]
    by_cases a : 0 ≤ rd p (i : Int)
    · by_cases b : rd p (i : Int) ≤ (p.length : Int) - 1
      · have hi : (i : Int) ≤ (p.length : Int) := by omega
        by_cases c : rd p (i : Int) ∈ p.take i
        · simp only [ge_iff_le, a, b, c, hi, decide_true, decide_false, if_true, if_false, Option.bind_some, true_and, and_true, and_self, Bool.false_eq_true]
        · simp only [ge_iff_le, a, b, c, hi, decide_true, decide_false, if_true, if_false, Option.bind_some, true_and, and_true, and_self, Bool.false_eq_true]
      · simp [a, b]
    · simp [a]
theorem impl_isOrder.ok (p : List Int) : impl_isOrder.f.v p = some (isOrd p) := by
  rw [impl_isOrder.f.v_eq]
  unfold impl_between.f isOrd
  by_cases h : 1 ≤ p.length ∧ p.length ≤ 8
  · have := impl_isOrder.ok_l p h.2 p.length 0 (by omega)
    have h1 : (p.length : Int) ≥ 1 := by omega
    have h2 : (p.length : Int) ≤ 8 := by omega
    rw [if_pos h1, if_pos h, decide_eq_true h2]
    simpa using this
  · rw [if_neg h]
    by_cases h1 : (p.length : Int) ≥ 1
    · have h2 : ¬ (p.length : Int) ≤ 8 := by omega
      rw [if_pos h1, decide_eq_false h2]; rfl
    · rw [if_neg h1]; rfl

theorem impl_isCounted.ok (p : List Int) : impl_isCounted.f.v p = some (cntd p) := by
  rw [impl_isCounted.f.v_eq, impl_isOrder.ok, Option.bind_some]
  unfold cntd
  cases h : isOrd p
  · rfl
  · rw [if_pos rfl]
    unfold impl_between.f
    by_cases h2 : (p.length : Int) ≥ 2
    · rw [if_pos h2, Option.bind_some]
      have : decide (2 ≤ p.length) = true := decide_eq_true (by omega)
      rw [this]
      congr 1
      simp only [Bool.true_and]
      exact decide_eq_decide.2 (by omega)
    · rw [if_neg h2, Option.bind_some]
      have : decide (2 ≤ p.length) = false := decide_eq_false (by omega)
      rw [this]; rfl

theorem impl_CountLeast.ok (p : List Int) : impl_CountLeast.f p = some (if cntd p = true then (((cntF 16 p : Nat) : Int), true) else (0, false)) := by
  unfold impl_CountLeast.f
  rw [show (impl_CountLeast.ev fun k => impl_isCounted.f k p) = impl_isCounted.f.v p from rfl, impl_isCounted.ok, Option.bind_some]
  by_cases h : cntd p = true
  · have hc := cntd_iff.1 h
    rw [if_pos h, if_pos h, impl_counter_count.ok p hc.1 hc.2.2]; rfl
  · rw [if_neg h, if_neg h]

theorem impl_LongestByFormula.ok (n : Int) : impl_LongestByFormula.f.v n = some (if 2 ≤ n ∧ n ≤ 6 then (longF n.toNat, true) else (0, false)) := by
  by_cases h : 2 ≤ n ∧ n ≤ 6
  · have hc : n = 2 ∨ n = 3 ∨ n = 4 ∨ n = 5 ∨ n = 6 := by omega
    rcases hc with rfl | rfl | rfl | rfl | rfl
    all_goals exact lim_of (impl_LongestByFormula.f.m _) (k := 60) (by decide +kernel)
  · rw [if_neg h, impl_LongestByFormula.f.v_eq]
    have : impl_between.f n 2 6 = some false := by
      unfold impl_between.f
      by_cases h1 : n ≥ 2
      · rw [if_pos h1, decide_eq_false (by omega)]
      · rw [if_neg h1]
    rw [this]; rfl

theorem laws_nSame.ok_l (a b : List Int) (hab : a.length = b.length) (ha : a.length ≤ 1000) : ∀ (d i : Nat), i + d = a.length → laws_nSame.l0.v a b a.length i = some (decide (a.drop i = b.drop i)) := by
  intro d
  induction d with
  | zero =>
    intro i hd
    rw [laws_nSame.l0.v_eq, if_neg (cast_nlt (by omega)), List.drop_eq_nil_of_le (by omega), List.drop_eq_nil_of_le (by omega)]; rfl
  | succ d ih =>
    intro i hd
    have h : i < a.length := by omega
    rw [laws_nSame.l0.v_eq, if_pos (cast_lt h), if_pos (Int.natCast_nonneg i), if_pos (cast_lt h), if_pos (cast_lt (by omega)), succ_wrap h (by omega), ih (i + 1) (by omega), drop_rd a i h, drop_rd b i (by omega)]
    by_cases e : rd a (i : Int) = rd b (i : Int)
    · rw [if_pos e, e]
      congr 1
      rw [decide_eq_decide, List.cons.injEq]
      exact ⟨fun x => ⟨rfl, x⟩, fun x => x.2⟩
    · rw [if_neg e, decide_eq_false (fun x => e (List.cons.inj x).1)]
theorem laws_nSame.ok (a b : List Int) (hab : a.length = b.length) (ha : a.length ≤ 1000) : laws_nSame.f.v a b = some (decide (a = b)) := by
  rw [laws_nSame.f.v_eq, if_pos (by omega)]
  have := laws_nSame.ok_l a b hab ha a.length 0 (by omega)
  simpa using this
theorem laws_nSame.self (a : List Int) (ha : a.length ≤ 1000) : laws_nSame.f.v a a = some true := by
  rw [laws_nSame.ok a a rfl ha]; simp

theorem laws_nSum.ok_l (l : List Int) (hl : l.length ≤ 1000) : ∀ (d i : Nat) (s : Int), i + d = l.length → laws_nSum.l0.v s l l.length i = some ((l.drop i).foldl (fun s x => wrap64 (s + x)) s) := by
  intro d
  induction d with
  | zero =>
    intro i s hd
    rw [laws_nSum.l0.v_eq, if_neg (cast_nlt (by omega)), List.drop_eq_nil_of_le (by omega)]; rfl
  | succ d ih =>
    intro i s hd
    have h : i < l.length := by omega
    rw [laws_nSum.l0.v_eq, if_pos (cast_lt h), if_pos (Int.natCast_nonneg i), if_pos (cast_lt h), succ_wrap h (by omega), ih (i + 1) _ (by omega), drop_rd l i h, List.foldl_cons]
theorem laws_nSum.ok (l : List Int) (hl : l.length ≤ 1000) : laws_nSum.f.v l = some (sumW l) := by
  rw [laws_nSum.f.v_eq]
  exact laws_nSum.ok_l l hl l.length 0 0 (by omega)

theorem spec_alRank.ok_i (p : List Int) (hp : p.length ≤ 8) (acc : Int) (i : Nat) (x : Int) (ys : List Int) (hy : ys.length ≤ 8) (hi : i < p.length) (h0 : 0 ≤ acc) (h1 : acc ≤ 100000000) : ∀ (d j c : Nat), j + d = ys.length → c ≤ j → spec_alRank.l1.v p acc i x c p p.length i ys ys.length j = spec_alRank.l0.v p (acc * ((p.length : Int) - i) + ((c + fewer x (ys.drop j) : Nat) : Int)) p p.length ((i + 1 : Nat) : Int) := by
  intro d
  induction d with
  | zero =>
    intro j c hd hc
    have hm : 0 ≤ acc * ((p.length : Int) - i) ∧ acc * ((p.length : Int) - i) ≤ 100000000 * 8 := ⟨Int.mul_nonneg h0 (by omega), Int.mul_le_mul h1 (by omega) (by omega) (by omega)⟩
    rw [spec_alRank.l1.v_eq, if_neg (cast_nlt (by omega)), succ_wrap hi (by omega), List.drop_eq_nil_of_le (by omega), fewer, Nat.add_zero, wrap_id (x := (p.length : Int) - i) (by omega) (by omega), wrap_id (x := acc * ((p.length : Int) - i)) (by omega) (by omega), wrap_id (x := acc * ((p.length : Int) - i) + (c : Int)) (by omega) (by omega)]
    simp only [Nat.add_zero]
  | succ d ih =>
    intro j c hd hc
    have h : j < ys.length := by omega
    rw [spec_alRank.l1.v_eq, if_pos (cast_lt h), if_pos (Int.natCast_nonneg j), if_pos (cast_lt h), succ_wrap h (by omega), drop_rd ys j h, fewer]
    by_cases e : rd ys (j : Int) < x
    · rw [if_pos e, if_pos e, wrap_id (x := (c : Int) + 1) (by omega) (by omega), show (c : Int) + 1 = ((c + 1 : Nat) : Int) by omega, ih (j + 1) (c + 1) (by omega) (by omega), Nat.add_assoc]
    · rw [if_neg e, if_neg e, ih (j + 1) c (by omega) (by omega), Nat.zero_add]
theorem spec_alRank.ok_o (p : List Int) (hp : p.length ≤ 8) : ∀ (d i : Nat) (acc : Int), i + d = p.length → 0 ≤ acc → acc < ((9 ^ i : Nat) : Int) → spec_alRank.l0.v p acc p p.length i = some (rkGo acc (p.drop i)) := by
  intro d
  induction d with
  | zero =>
    intro i acc hd h0 h1
    rw [spec_alRank.l0.v_eq, if_neg (cast_nlt (by omega)), List.drop_eq_nil_of_le (by omega), rkGo]
  | succ d ih =>
    intro i acc hd h0 h1
    have h : i < p.length := by omega
    have h9 : 9 ^ i ≤ 9 ^ 8 := Nat.pow_le_pow_right (by decide) (by omega)
    have h98 : 9 ^ 8 = 43046721 := by decide
    have h2 := spec_alRank.ok_i p hp acc i (rd p (i : Int)) (p.drop (i + 1)) (by rw [List.length_drop]; omega) h h0 (by omega) (p.drop (i + 1)).length 0 0 (by omega) (by omega)
    rw [spec_alRank.l0.v_eq, if_pos (cast_lt h), if_pos (Int.natCast_nonneg i), if_pos (cast_lt h), succ_wrap h (by omega), if_pos (Int.natCast_nonneg _), if_pos (by omega), toNat_cast, Option.bind_some]
    rw [show ((0 : Nat) : Int) = 0 from rfl] at h2
    have hf := fewer_len (rd p (i : Int)) (p.drop (i + 1))
    rw [List.length_drop] at hf
    have hb : acc * ((p.length : Int) - i) + ((fewer (rd p (i : Int)) (p.drop (i + 1)) : Nat) : Int) < ((9 ^ (i + 1) : Nat) : Int) := by
      have h3 : acc * ((p.length : Int) - i) ≤ (((9 ^ i : Nat) : Int) - 1) * 8 := Int.mul_le_mul (by omega) (by omega) (by omega) (by omega)
      rw [Nat.pow_succ]
      omega
    rw [h2, List.drop_zero, Nat.zero_add, ih (i + 1) _ (by omega) (by have := Int.mul_nonneg h0 (show (0 : Int) ≤ (p.length : Int) - i by omega); omega) hb, drop_rd p i h, rkGo, List.length_drop, show ((p.length - (i + 1) : Nat) : Int) + 1 = (p.length : Int) - i by omega]
theorem spec_alRank.ok (p : List Int) (hp : p.length ≤ 8) : spec_alRank.f.v p = some (rankL p) := by
  rw [spec_alRank.f.v_eq]
  have := spec_alRank.ok_o p hp p.length 0 0 (by omega) (by omega) (by decide)
  simpa [rankL] using this

theorem spec_l1Own.ok (l : List Int) (h : l.length ≤ 1048576) : spec_l1Own.f l = some l := by
  unfold spec_l1Own.f
  rw [Option.bind_some, if_pos (by simp; omega)]; rfl

theorem spec_alSwap.ok (p : List Int) (j : Nat) (hj : j + 1 < p.length) (hp : p.length ≤ 1048576) : spec_alSwap.f p (j : Int) = some (swp p j (j + 1)) := by
  have e : wrap64 ((j : Int) + 1) = ((j + 1 : Nat) : Int) := succ_wrap (show j < p.length by omega) (by omega)
  unfold spec_alSwap.f
  rw [spec_l1Own.ok p hp, Option.bind_some, e, if_pos (Int.natCast_nonneg _), if_pos (cast_lt hj), if_pos (Int.natCast_nonneg _), if_pos (cast_lt (by omega)), if_pos (cast_lt (by omega)), if_pos (cast_lt hj), toNat_cast, toNat_cast]
  rfl

theorem spec_alCounter_count.good_of {p : List Int} (h : isOrd p = true) : spec_alCounter_count.good p := ⟨(isOrd_all h).2, (isOrd_all h).1⟩
theorem spec_alCounter_count.ord_of {p : List Int} (h : spec_alCounter_count.good p) (h1 : 1 ≤ p.length) (h8 : p.length ≤ 8) : isOrd p = true := by
  unfold isOrd
  rw [if_pos ⟨h1, h8⟩]
  exact ordGo_of _ p [] (fun x hx => by have := h.2 x hx; exact ⟨this.1, by omega, by simp⟩) h.1
theorem spec_alCounter_count.rank_of {p : List Int} (hp : p.length ≤ 8) {k : Nat} {a : Int} (h : spec_alRank.f k p = some a) : a = rankL p := by
  have h1 : spec_alRank.f.v p = some a := lim_of (fun k => spec_alRank.mono p k) h
  rw [spec_alRank.ok p hp] at h1
  exact (Option.some.inj h1).symm
theorem spec_alCounter_count.inj_ok : spec_alCounter_count.inj := by
  intro q q' k k' a hq hq' h8 hl h h'
  rcases Nat.eq_zero_or_pos q.length with h0 | h0
  · rw [List.length_eq_zero_iff.1 h0, List.length_eq_zero_iff.1 (show q'.length = 0 by omega)]
  · have h1 := spec_alCounter_count.ord_of hq h0 h8
    have h2 := spec_alCounter_count.ord_of hq' (by omega) (by omega)
    have e1 := spec_alCounter_count.rank_of (isOrd_len h1).2 h
    have e2 := spec_alCounter_count.rank_of (isOrd_len h2).2 h'
    exact rank_inj h1 h2 hl (e1.symm.trans e2)
theorem spec_alCounter_count.fc_eq : ∀ n, spec_alNew.fc n = fct n
  | 0 => rfl
  | n + 1 => by rw [spec_alNew.fc, fct, spec_alCounter_count.fc_eq n]
theorem spec_alCounter_count.ok_lp (g : List Int → Option Int) (c : List Int → Nat) (p : List Int) (hp : p.length ≤ 8) (M : Nat) (hM : M ≤ 1152921504606846976) : ∀ (m i n : Nat) (b : Bool), i + m + 1 = p.length → (∀ j : Nat, j + 1 < p.length → rd p (j : Int) > rd p ((j : Int) + 1) → g (swp p j (j + 1)) = some ((c (swp p j (j + 1)) : Nat) : Int)) → n + ((descGo p m i).map fun x => c (swp p x.toNat (x.toNat + 1))).sum ≤ M →
    spec_alCounter_count.lp g p m i (n : Int) b = some (((n + ((descGo p m i).map fun x => c (swp p x.toNat (x.toNat + 1))).sum : Nat) : Int), if (descGo p m i).length = 0 then b else false)
  | 0, i, n, b, _, _, _ => by rw [spec_alCounter_count.lp, descGo]; rfl
  | m + 1, i, n, b, hi, hg, hn => by
    rw [spec_alCounter_count.lp, descGo]
    rw [descGo] at hn
    by_cases e : rd p (i : Int) > rd p ((i : Int) + 1)
    · rw [if_pos e] at hn ⊢
      rw [if_pos e]
      rw [List.map_cons, List.sum_cons] at hn
      simp only [toNat_cast] at hn
      rw [spec_alSwap.ok p i (by omega) (by omega)]
      simp only [Option.bind_some]
      rw [hg i (by omega) e]
      simp only [Option.bind_some]
      rw [wrap_id (by omega) (by omega), show (n : Int) + ((c (swp p i (i + 1)) : Nat) : Int) = ((n + c (swp p i (i + 1)) : Nat) : Int) by omega]
      rw [spec_alCounter_count.ok_lp g c p hp M hM m (i + 1) _ false (by omega) hg (by omega), List.map_cons, List.sum_cons]
      simp only [toNat_cast, List.length_cons, Nat.add_assoc]
      congr 2
      by_cases hz : (descGo p m (i + 1)).length = 0
      · rw [if_pos hz, if_neg (by omega)]
      · rw [if_neg hz, if_neg (by omega)]
    · rw [if_neg e] at hn ⊢
      rw [if_neg e]
      exact spec_alCounter_count.ok_lp g c p hp M hM m (i + 1) n b (by omega) hg hn
theorem spec_alCounter_count.ok_g (n : Nat) (hn8 : n ≤ 8) : ∀ (d : Nat) (p : List Int), isOrd p = true → p.length = n → invC p ≤ d → d ≤ 16 → spec_alCounter_count.g (spec_alNew.fc n) n (d + 1) p = some ((cntF (d + 1) p : Nat) : Int) := by
  intro d
  induction d with
  | zero =>
    intro p ho hl hi hd
    have hr := rank_lt p
    have hln := isOrd_len ho
    have hds : desc p = [] := by
      cases e : desc p with
      | nil => rfl
      | cons a r =>
        obtain ⟨j, _, _, _, hc⟩ := desc_head e
        omega
    rw [spec_alCounter_count.g, if_pos ⟨spec_alCounter_count.inj_ok, spec_alCounter_count.good_of ho, hl, hn8⟩]
    rw [show (spec_alCounter_count.ev fun k => spec_alRank.f k p) = spec_alRank.f.v p from rfl, spec_alRank.ok p (by omega), Option.bind_some, if_pos (by rw [spec_alCounter_count.fc_eq, ← hl]; exact hr)]
    have := spec_alCounter_count.ok_lp (spec_alCounter_count.g (spec_alNew.fc n) n 0) (cntF 0) p (by omega) (8 ^ 18) (by decide) (p.length - 1) 0 0 true (by omega) (fun j hj hgt => by
      have hh : (j : Int) ∈ desc p := (desc_iff p j hj).2 hgt
      rw [hds] at hh; cases hh) (by rw [show descGo p (p.length - 1) 0 = desc p from rfl, hds]; simp)
    rw [show descGo p (p.length - 1) 0 = desc p from rfl, hds] at this
    rw [show ((0 : Nat) : Int) = 0 from rfl] at this
    rw [this, cntF, hds]
    rfl
  | succ d ih =>
    intro p ho hl hi hd
    have hr := rank_lt p
    have hln := isOrd_len ho
    rw [spec_alCounter_count.g, if_pos ⟨spec_alCounter_count.inj_ok, spec_alCounter_count.good_of ho, hl, hn8⟩]
    rw [show (spec_alCounter_count.ev fun k => spec_alRank.f k p) = spec_alRank.f.v p from rfl, spec_alRank.ok p (by omega), Option.bind_some, if_pos (by rw [spec_alCounter_count.fc_eq, ← hl]; exact hr)]
    have hle := cntF_le (d + 1 + 1) p (by omega)
    rw [cntF] at hle ⊢
    have h818 : (8 : Nat) ^ (d + 1 + 1) ≤ 8 ^ 18 := Nat.pow_le_pow_right (by decide) (by omega)
    have hlp := spec_alCounter_count.ok_lp (spec_alCounter_count.g (spec_alNew.fc n) n (d + 1)) (cntF (d + 1)) p (by omega) (8 ^ 18) (by decide) (p.length - 1) 0 0 true (by omega) (fun j hj hgt => ih _ (isOrd_swp ho j hj) (by rw [swp_length]; exact hl) (by have := invC_fall p j hj hgt; omega) (by omega))
    rw [show descGo p (p.length - 1) 0 = desc p from rfl] at hlp
    rw [show ((0 : Nat) : Int) = 0 from rfl] at hlp
    by_cases hz : (desc p).length = 0
    · have hds := List.length_eq_zero_iff.1 hz
      rw [hds] at hlp
      rw [hlp (by simp), if_pos hz]
      rfl
    · rw [if_neg hz] at hle
      rw [hlp (by omega), if_neg hz]
      simp only [if_neg hz, Option.bind_some, Nat.zero_add, Bool.false_eq_true, if_false]
theorem spec_alCounter_count.ok (p : List Int) (h : isOrd p = true) (h6 : p.length ≤ 6) : spec_alCounter_count.f (spec_alNew.fc p.length) p = some ((cntF 16 p : Nat) : Int) := by
  have hl := isOrd_len h
  exact spec_alCounter_count.ok_g p.length hl.2 15 p h rfl (invC_six h6) (by decide)
theorem spec_alCounter_count.ok_n (n : Nat) (h6 : n ≤ 6) (p : List Int) (h : isOrd p = true) (hl : p.length = n) : spec_alCounter_count.g (spec_alNew.fc n) n 16 p = some ((cntF 16 p : Nat) : Int) := spec_alCounter_count.ok_g n (by omega) 15 p h hl (invC_six (by omega)) (by decide)

theorem spec_l1Has.ok_l (v : Int) (xs : List Int) (hn : xs.length ≤ 140737488355328) : ∀ (d i : Nat), xs.length - i = d → spec_l1Has.l0.v v xs xs.length i = some (decide (v ∈ xs.drop i)) := by
  intro d
  induction d with
  | zero =>
    intro i hd
    rw [spec_l1Has.l0.v_eq, if_neg (cast_nlt (by omega)), List.drop_eq_nil_of_le (by omega)]
    simp
  | succ d ih =>
    intro i hd
    have h : i < xs.length := by omega
    rw [spec_l1Has.l0.v_eq, if_pos (cast_lt h), if_pos (Int.natCast_nonneg i), if_pos (cast_lt h), succ_wrap h hn, ih (i + 1) (by omega), drop_rd xs i h]
    by_cases e : rd xs (i : Int) = v
    · rw [if_pos e]; simp [e]
    · have e' : ¬ v = rd xs (i : Int) := fun h => e h.symm
      rw [if_neg e]; simp [e']
theorem spec_l1Has.ok (v : Int) (xs : List Int) (hn : xs.length ≤ 140737488355328) : spec_l1Has.f.v xs v = some (decide (v ∈ xs)) := by
  rw [spec_l1Has.f.v_eq]
  have := spec_l1Has.ok_l v xs hn xs.length 0 (by omega)
  simpa using this

theorem spec_alOrders.ok_2 (n : Nat) (hn : n ≤ 6) (p : List Int) (hp : p.length ≤ 6) (L : List (List Int)) (l i : Int) : ∀ (d j : Nat) (acc : List (List Int)), j + d = n → acc.length + d ≤ 100000 → spec_alOrders.l2.v (n : Int) acc p (j : Int) L l i = spec_alOrders.l1.v (n : Int) (acc ++ ((upFrom d j).filter fun x => !decide (x ∈ p)).map fun x => p ++ [x]) L l (wrap64 (i + 1)) := by
  intro d
  induction d with
  | zero => intro j acc hj ha; rw [spec_alOrders.l2.v_eq, if_neg (by omega)]; simp [upFrom]
  | succ d ih =>
    intro j acc hj ha
    have hw : wrap64 ((j : Int) + 1) = ((j + 1 : Nat) : Int) := succ_wrap (show j < n by omega) (by omega)
    rw [spec_alOrders.l2.v_eq, if_pos (by omega), spec_l1Has.ok (j : Int) p (by omega), Option.bind_some, hw, upFrom]
    by_cases hm : (j : Int) ∈ p
    · rw [if_pos (by simp [hm]), ih (j + 1) acc (by omega) (by omega), List.filter_cons_of_neg (by simp [hm])]
    · rw [if_neg (by simp [hm]), spec_l1Own.ok p (by omega), Option.bind_some, if_pos (by omega), if_pos (by omega), ih (j + 1) _ (by omega) (by simp; omega), List.filter_cons_of_pos (by simp [hm]), List.map_cons, List.append_assoc]
      rfl
theorem spec_alOrders.ok_1 (n : Nat) (hn : n ≤ 6) (L : List (List Int)) (hL : L.length ≤ 1000) (hp : ∀ p ∈ L, p.length ≤ 6) : ∀ (d i : Nat) (acc : List (List Int)), i + d = L.length → acc.length ≤ 10 * i → spec_alOrders.l1.v (n : Int) acc L (L.length : Int) (i : Int) = spec_alOrders.l0.v (n : Int) (acc ++ (L.drop i).flatMap fun p => ((ident n).filter fun x => !decide (x ∈ p)).map fun x => p ++ [x]) := by
  intro d
  induction d with
  | zero => intro i acc hi ha; rw [spec_alOrders.l1.v_eq, if_neg (by omega), List.drop_eq_nil_of_le (by omega)]; simp
  | succ d ih =>
    intro i acc hi ha
    have h : i < L.length := by omega
    have e : rd_L1 L (i : Int) = L[i] := by
      unfold rd_L1
      rw [Int.toNat_natCast, List.getD_eq_getElem?_getD, List.getElem?_eq_getElem h, Option.getD_some]
    have h2 := spec_alOrders.ok_2 n hn L[i] (hp _ (List.getElem_mem h)) L (L.length : Int) (i : Int) n 0 acc (by omega) (by omega)
    have hf : (((upFrom n 0).filter fun x => !decide (x ∈ L[i])).map fun x => L[i] ++ [x]).length ≤ n := by
      rw [List.length_map]
      exact Nat.le_trans (List.length_filter_le _ _) (by rw [upFrom_length]; omega)
    rw [spec_alOrders.l1.v_eq, if_pos (cast_lt h), if_pos (Int.natCast_nonneg _), if_pos (cast_lt h), e]
    rw [show ((0 : Nat) : Int) = 0 from rfl] at h2
    rw [h2, succ_wrap h (by omega), ih (i + 1) _ (by omega) (by rw [List.length_append]; omega), List.drop_eq_getElem_cons h, List.flatMap_cons, List.append_assoc]
    rfl
theorem spec_alOrders.ok_0 (n : Nat) (hn : n ≤ 6) : ∀ (d k : Nat), k + d = n → spec_alOrders.l0.v (n : Int) (ordsB n k) = some (ordsB n n) := by
  intro d
  induction d with
  | zero =>
    intro k hk
    obtain ⟨h1, h2, h3⟩ := ords_small n (by omega) k (by omega)
    have h3 := h3 (by omega)
    have h2 := List.all_eq_true.1 h2
    have e : rd_L1 (ordsB n k) 0 = (ordsB n k)[0] := by
      unfold rd_L1
      rw [show ((0 : Int)).toNat = 0 from rfl, List.getD_eq_getElem?_getD, List.getElem?_eq_getElem h3, Option.getD_some]
    have h4 := of_decide_eq_true (h2 _ (List.getElem_mem h3))
    rw [spec_alOrders.l0.v_eq, if_pos (by omega), e, h4, if_neg (by omega), show k = n by omega]
  | succ d ih =>
    intro k hk
    obtain ⟨h1, h2, h3⟩ := ords_small n (by omega) k (by omega)
    have h3 := h3 (by omega)
    have h2 := List.all_eq_true.1 h2
    have e : rd_L1 (ordsB n k) 0 = (ordsB n k)[0] := by
      unfold rd_L1
      rw [show ((0 : Int)).toNat = 0 from rfl, List.getD_eq_getElem?_getD, List.getElem?_eq_getElem h3, Option.getD_some]
    have h4 := of_decide_eq_true (h2 _ (List.getElem_mem h3))
    have h5 := spec_alOrders.ok_1 n hn (ordsB n k) (by omega) (fun p hp => by have := of_decide_eq_true (h2 _ hp); omega) (ordsB n k).length 0 [] (by omega) (by simp)
    rw [show ((0 : Nat) : Int) = 0 from rfl, List.drop_zero, List.nil_append] at h5
    rw [spec_alOrders.l0.v_eq, if_pos (by omega), e, h4, if_pos (by omega), h5]
    exact ih (k + 1) (by omega)
theorem spec_alOrders.ok (n : Nat) (hn : n ≤ 6) : spec_alOrders.f.v (n : Int) = some (ordsB n n) := by
  rw [spec_alOrders.f.v_eq]
  exact spec_alOrders.ok_0 n hn n 0 (by omega)

theorem spec_lsInversions.ok_i (p : List Int) (hp : p.length ≤ 8) (i : Nat) (hi : i < p.length) : ∀ (d j : Nat) (acc : List (List Int)), j + d = p.length → acc.length + d ≤ 1000 → spec_lsInversions.l1.v p acc i j p.length i = spec_lsInversions.l0.v p (acc ++ invRow p i j d) p.length ((i + 1 : Nat) : Int) := by
  intro d
  induction d with
  | zero =>
    intro j acc hd ha
    rw [spec_lsInversions.l1.v_eq, if_neg (cast_nlt (by omega)), succ_wrap hi (by omega), invRow, List.append_nil]
  | succ d ih =>
    intro j acc hd ha
    have hj : j < p.length := by omega
    rw [spec_lsInversions.l1.v_eq, if_pos (cast_lt hj), if_pos (Int.natCast_nonneg i), if_pos (cast_lt hi), if_pos (Int.natCast_nonneg j), succ_wrap hj (by omega), invRow]
    by_cases e : rd p (i : Int) > rd p (j : Int)
    · rw [if_pos e, if_pos e, if_pos (by omega), ih (j + 1) _ (by omega) (by simp; omega), List.append_assoc]; rfl
    · rw [if_neg e, if_neg e, ih (j + 1) _ (by omega) (by omega)]
theorem spec_lsInversions.ok_o (p : List Int) (hp : p.length ≤ 8) : ∀ (d i : Nat) (acc : List (List Int)), i + d = p.length → acc.length + d * p.length ≤ 900 → spec_lsInversions.l0.v p acc p.length i = some (acc ++ invFrom p i d) := by
  intro d
  induction d with
  | zero =>
    intro i acc hd ha
    rw [spec_lsInversions.l0.v_eq, if_neg (cast_nlt (by omega)), invFrom, List.append_nil]
  | succ d ih =>
    intro i acc hd ha
    have hi : i < p.length := by omega
    rw [Nat.succ_mul] at ha
    have h1 := invRow_length p i (p.length - (i + 1)) (i + 1)
    rw [spec_lsInversions.l0.v_eq, if_pos (cast_lt hi), succ_wrap hi (by omega), spec_lsInversions.ok_i p hp i hi (p.length - (i + 1)) (i + 1) acc (by omega) (by omega), ih (i + 1) _ (by omega) (by rw [List.length_append]; omega), invFrom, List.append_assoc]
theorem spec_lsInversions.ok (p : List Int) (hp : p.length ≤ 8) : spec_lsInversions.f.v p = some (invs p) := by
  rw [spec_lsInversions.f.v_eq]
  have h2 : p.length * p.length ≤ 8 * 8 := Nat.mul_le_mul hp hp
  have := spec_lsInversions.ok_o p hp p.length 0 [] (by omega) (by simp; omega)
  simpa [invs] using this

theorem spec_CountByLength.ok_lp (n : Nat) (h6 : n ≤ 6) (ps : List (List Int)) (hps : ∀ p ∈ ps, okP n p = true) : ∀ (d i : Nat) (xs : List Int), i + d = ps.length → xs.length = n * (n - 1) / 2 + 1 → spec_CountByLength.lp (spec_alNew.fc n) n ps d i xs = some ((ps.drop i).foldl tally xs) := by
  intro d
  induction d with
  | zero => intro i xs hi hx; rw [spec_CountByLength.lp, List.drop_eq_nil_of_le (by omega)]; rfl
  | succ d ih =>
    intro i xs hi hx
    have h : i < ps.length := by omega
    have e : ps.getD i [] = ps[i] := by rw [List.getD_eq_getElem?_getD, List.getElem?_eq_getElem h, Option.getD_some]
    obtain ⟨h1, h2, h3⟩ := okP_iff.1 (hps _ (List.getElem_mem h))
    have hl := isOrd_len h1
    have hc := spec_alCounter_count.ok ps[i] h1 (by omega)
    unfold spec_alCounter_count.f at hc
    rw [h2] at hc
    rw [spec_CountByLength.lp, e, show (spec_CountByLength.ev fun k => spec_lsInversions.f k ps[i]) = spec_lsInversions.f.v ps[i] from rfl, spec_lsInversions.ok ps[i] hl.2, Option.bind_some, invs_invC, if_pos (by omega), hc, Option.bind_some]
    rw [show xs.set (invC ps[i]) (wrap64 (rd xs ((invC ps[i] : Nat) : Int) + ((cntF 16 ps[i] : Nat) : Int))) = tally xs ps[i] from rfl, ih (i + 1) _ (by omega) (by rw [tally_length]; exact hx), List.drop_eq_getElem_cons h, List.foldl_cons]
theorem spec_CountByLength.ok (a : Int) : spec_CountByLength.f a = some (if 2 ≤ a ∧ a ≤ 6 then (byLen a.toNat, true) else ([], false)) := by
  unfold spec_CountByLength.f
  by_cases h : 2 ≤ a ∧ a ≤ 6
  · obtain ⟨n, rfl⟩ : ∃ n : Nat, a = (n : Int) := ⟨a.toNat, by omega⟩
    have h2 : 2 ≤ n := by omega
    have h7 : n < 7 := by omega
    have hlen : ((n : Int) * ((n : Int) - 1) / 2 + 1).toNat = n * (n - 1) / 2 + 1 := by
      obtain rfl | rfl | rfl | rfl | rfl : n = 2 ∨ n = 3 ∨ n = 4 ∨ n = 5 ∨ n = 6 := by omega
      all_goals rfl
    have hsm := (ords_small n h7 n h7).1
    rw [if_pos h, if_pos h, show (spec_CountByLength.ev fun k => spec_alOrders.f k (n : Int)) = spec_alOrders.f.v (n : Int) from rfl, spec_alOrders.ok n (by omega), Option.bind_some, if_pos (by omega), hlen, toNat_cast, spec_CountByLength.ok_lp n (by omega) (ordsB n n) (List.all_eq_true.1 (ords_ok n h7 h2)) _ 0 _ (by omega) List.length_replicate]
    rfl
  · rw [if_neg h, if_neg h]

theorem spec_CountAllLeast.ok_l (b : Bool) (xs : List Int) (hx : xs.length ≤ 1000) : ∀ (d i : Nat) (s : Int), i + d = xs.length → spec_CountAllLeast.l0.v b s xs (xs.length : Int) (i : Int) = some ((xs.drop i).foldl (fun s x => wrap64 (s + x)) s, b) := by
  intro d
  induction d with
  | zero => intro i s hi; rw [spec_CountAllLeast.l0.v_eq, if_neg (by omega), List.drop_eq_nil_of_le (by omega)]; rfl
  | succ d ih =>
    intro i s hi
    have h : i < xs.length := by omega
    rw [spec_CountAllLeast.l0.v_eq, if_pos (cast_lt h), if_pos (Int.natCast_nonneg _), if_pos (cast_lt h), succ_wrap h (by omega), ih (i + 1) _ (by omega), drop_rd xs i h, List.foldl_cons]
theorem spec_CountAllLeast.ok (a : Int) : spec_CountAllLeast.f.v a = some (if 2 ≤ a ∧ a ≤ 6 then (sumW (byLen a.toNat), true) else (0, false)) := by
  rw [spec_CountAllLeast.f.v_eq, spec_CountByLength.ok, Option.bind_some]
  by_cases h : 2 ≤ a ∧ a ≤ 6
  · have hs := byLen_short a.toNat (by omega)
    have := spec_CountAllLeast.ok_l true (byLen a.toNat) (by omega) _ 0 0 (Nat.zero_add _)
    rw [if_pos h, if_pos h]
    exact this
  · have := spec_CountAllLeast.ok_l false [] (by simp) _ 0 0 (Nat.zero_add _)
    rw [if_neg h, if_neg h]
    exact this

theorem spec_l1Cur_next.ok (c : List Int) (hc : isCode c) (at_ s : Int) (h0 : 0 ≤ at_) (h1 : at_ ≤ 1000000000) : ∃ b s', spec_l1Cur_next.f c at_ s = some (b, at_ + 1, s') ∧ 0 ≤ b ∧ b ≤ 255 := by
  unfold spec_l1Cur_next.f
  rw [wrap_id (x := at_ + 1) (by omega) (by omega)]
  by_cases e : at_ < (c.length : Int)
  · have hb : 0 ≤ rd c at_ ∧ rd c at_ ≤ 255 := by
      have := rd_mem c at_.toNat (by omega)
      rw [Int.toNat_of_nonneg h0] at this
      exact hc.1 _ this
    rw [if_pos e, if_pos h0, if_pos (by omega), wrap_id (x := rd c at_) (by omega) (by omega)]
    exact ⟨_, _, rfl, hb.1, hb.2⟩
  · rw [if_neg e, if_neg (by omega)]
    exact ⟨_, _, rfl, (top_byte _).1, (top_byte _).2⟩

theorem spec_l1Cur_pick.ok (c : List Int) (hc : isCode c) (at_ s n : Int) (h0 : 0 ≤ at_) (h1 : at_ ≤ 100000000) (hn : 1 ≤ n) (hn2 : n ≤ 200) : ∃ x a' s', spec_l1Cur_pick.f c at_ s n = some (x, a', s') ∧ 0 ≤ x ∧ x < n ∧ 0 ≤ a' ∧ a' ≤ at_ + 1 := by
  unfold spec_l1Cur_pick.f
  by_cases e : n ≤ 1
  · rw [if_pos e]
    exact ⟨_, _, _, rfl, by omega, by omega, by omega, by omega⟩
  · obtain ⟨b, s', hf, hb0, hb1⟩ := spec_l1Cur_next.ok c hc at_ s h0 (by omega)
    rw [if_neg e, hf, Option.bind_some, if_neg (by omega), if_neg (by omega)]
    have := tmod_lt b n hb0 (by omega)
    exact ⟨_, _, _, rfl, this.1, this.2, by dsimp only; omega, by dsimp only; omega⟩

theorem spec_l1Cur_among.ok (c : List Int) (hc : isCode c) (at_ s : Int) (l : List Int) (h0 : 0 ≤ at_) (h1 : at_ ≤ 100000000) (hn : 1 ≤ l.length) (hn2 : l.length ≤ 200) : ∃ x a' s', spec_l1Cur_among.f c at_ s l = some (x, a', s') ∧ 0 ≤ a' ∧ a' ≤ at_ + 1 := by
  unfold spec_l1Cur_among.f
  obtain ⟨x, a', s', hf, x0, x1, a0, a1⟩ := spec_l1Cur_pick.ok c hc at_ s l.length h0 h1 (by omega) (by omega)
  rw [hf, Option.bind_some, if_pos x0, if_pos x1]
  exact ⟨_, _, _, rfl, a0, a1⟩

theorem spec_DrawCountAllLeast.ok (c : List Int) (hc : isCode c) : ∃ n, spec_DrawCountAllLeast.f c = some n := by
  obtain ⟨x, a, s, h, _⟩ := spec_l1Cur_among.ok c hc 0 0 ([2, 3, 4, 5, 4, 5, 6, 1, 7, (-1)] : List Int) (by omega) (by omega) (by decide) (by decide)
  unfold spec_DrawCountAllLeast.f
  rw [h]
  exact ⟨x, rfl⟩

theorem spec_DrawCountByLength.ok (c : List Int) (hc : isCode c) : ∃ n, spec_DrawCountByLength.f c = some n := by
  obtain ⟨n, h⟩ := spec_DrawCountAllLeast.ok c hc
  unfold spec_DrawCountByLength.f
  rw [h]
  exact ⟨n, rfl⟩

theorem spec_LongestByFormula.ok (n : Int) : spec_LongestByFormula.f.v n = some (if 2 ≤ n ∧ n ≤ 6 then (longF n.toNat, true) else (0, false)) := by
  by_cases h : 2 ≤ n ∧ n ≤ 6
  · have hc : n = 2 ∨ n = 3 ∨ n = 4 ∨ n = 5 ∨ n = 6 := by omega
    rcases hc with rfl | rfl | rfl | rfl | rfl
    all_goals exact lim_of (spec_LongestByFormula.f.m _) (k := 60) (by decide +kernel)
  · rw [if_neg h, spec_LongestByFormula.f.v_eq]
    have : spec_l1In.f n 2 6 = some false := by
      unfold spec_l1In.f
      by_cases h1 : n ≥ 2
      · rw [if_pos h1, decide_eq_false (by omega)]
      · rw [if_neg h1]
    rw [this]; rfl

theorem long_l0 (x5 x10 x14 : Int) (x6 : List Int) (r : Option Bool) : ∀ (d : Nat) (acc : List Int), acc.length + d ≤ 1000 → laws_FnLongestCounted.l0.v x5 x6 x10 x14 (acc ++ (ident d).reverse) (-1) = r → laws_FnLongestCounted.l0.v x5 x6 x10 x14 acc ((d : Int) - 1) = r := by
  intro d
  induction d with
  | zero => intro acc _ h; rw [show (ident 0).reverse = [] from rfl, List.append_nil] at h; exact h
  | succ d ih =>
    intro acc hl h
    have hw : wrap64 ((((d + 1 : Nat) : Int) - 1) - 1) = (d : Int) - 1 := by unfold wrap64; omega
    have he : ((d + 1 : Nat) : Int) - 1 = (d : Int) := by omega
    rw [laws_FnLongestCounted.l0.v_eq, if_pos (by omega), if_pos (by omega), hw, he]
    refine ih _ (by simp; omega) ?_
    rw [ident_succ, List.reverse_append] at h
    rw [List.append_assoc]
    exact h
theorem long_j0 (n : Nat) (L : List Int) (S V : Int) (hn : n ≤ 6) (h1 : 1 ≤ n) (hc : impl_CountLeast.f (downL n) = some (V, true)) (hL : L.length ≤ 1000) (r : Option Bool) (h : (if (L.length : Int) = (wrap64 ((wrap64 (Int.tdiv (wrap64 ((n : Int) * (wrap64 ((n : Int) - 1)))) 2)) + 1)) then ((some (sumW L)).bind fun t264 => (if t264 = S then (if 0 < (L.length : Int) then (if (rd L 0) = 1 then (if 1 < (L.length : Int) then (if (rd L 1) = (wrap64 ((n : Int) - 1)) then (if 0 ≤ (wrap64 ((L.length : Int) - 1)) then (if (wrap64 ((L.length : Int) - 1)) < (L.length : Int) then (if (rd L (wrap64 ((L.length : Int) - 1))) = V then (some true) else (some false)) else (none)) else (none)) else (some false)) else (none)) else (some false)) else (none)) else (some false))) else (some false)) = r) : laws_FnLongestCounted.j0.v (n : Int) L true S V false = r := by
  have hw : wrap64 ((n : Int) - 1) = (n : Int) - 1 := by unfold wrap64; omega
  rw [laws_FnLongestCounted.j0.v_eq, if_neg (by simp), if_pos rfl, hw]
  refine long_l0 _ _ _ _ _ n [] (by simp; omega) ?_
  rw [laws_FnLongestCounted.l0.v_eq, if_neg (by omega), List.nil_append, show (ident n).reverse = downL n from rfl, hc, Option.bind_some, laws_nSum.ok L hL]
  simpa using h
theorem FnLongestCounted : laws_FnLongestCounted.Pure := by
  intro l0 l1 _ _ h0 _ _ h1
  refine laws_FnLongestCounted.f.ends l0 l1 ?_
  rw [laws_FnLongestCounted.f.v_eq]
  unfold laws_big.f
  by_cases e0 : (l0.length : Int) > 1048576
  · rw [if_pos e0, Option.bind_some, if_pos rfl]
  · rw [if_neg e0, Option.bind_some, wrap_id (x := 1048576 - (l0.length : Int)) (by omega) (by omega)]
    by_cases e1 : (l1.length : Int) > 1048576 - (l0.length : Int)
    · rw [decide_eq_true e1, if_pos rfl]
    · have c0 : isCode l0 := ⟨fun x hx => u8_bounds (h0 x hx), by omega⟩
      obtain ⟨n, hn⟩ := spec_DrawCountByLength.ok l0 c0
      rw [decide_eq_false e1, if_neg (by simp), hn, Option.bind_some, impl_CountByLength.ok, spec_CountByLength.ok, impl_CountAllLeast.ok, spec_CountAllLeast.ok, impl_LongestByFormula.ok, spec_LongestByFormula.ok]
      simp only [Option.bind_some, bne_self_eq_false, Bool.false_eq_true, if_false, if_true]
      by_cases h : 2 ≤ n ∧ n ≤ 6
      · have hs := byLen_short n.toNat (by omega)
        simp only [if_pos h, bne_self_eq_false, Bool.false_eq_true, if_false, if_true]
        rw [laws_nSame.self (byLen n.toNat) (by omega), Option.bind_some, if_pos rfl]
        obtain rfl | rfl | rfl | rfl | rfl : n = 2 ∨ n = 3 ∨ n = 4 ∨ n = 5 ∨ n = 6 := by omega
        · exact long_j0 2 (byLen 2) (sumW (byLen 2)) 1 (by decide) (by decide) (by rw [impl_CountLeast.ok, if_pos (by decide), longest2]; rfl) (Nat.le_trans (byLen_short 2 (by decide)) (by decide)) _ (by rw [byLen2]; decide +kernel)
        · exact long_j0 3 (byLen 3) (sumW (byLen 3)) 2 (by decide) (by decide) (by rw [impl_CountLeast.ok, if_pos (by decide), longest3]; rfl) (Nat.le_trans (byLen_short 3 (by decide)) (by decide)) _ (by rw [byLen3]; decide +kernel)
        · exact long_j0 4 (byLen 4) (sumW (byLen 4)) 16 (by decide) (by decide) (by rw [impl_CountLeast.ok, if_pos (by decide), longest4]; rfl) (Nat.le_trans (byLen_short 4 (by decide)) (by decide)) _ (by rw [byLen4]; decide +kernel)
        · exact long_j0 5 (byLen 5) (sumW (byLen 5)) 768 (by decide) (by decide) (by rw [impl_CountLeast.ok, if_pos (by decide), longest5]; rfl) (Nat.le_trans (byLen_short 5 (by decide)) (by decide)) _ (by rw [byLen5]; decide +kernel)
        · exact long_j0 6 (byLen 6) (sumW (byLen 6)) 292864 (by decide) (by decide) (by rw [impl_CountLeast.ok, if_pos (by decide), longest6]; rfl) (Nat.le_trans (byLen_short 6 (by decide)) (by decide)) _ (by rw [byLen6]; decide +kernel)
      · simp only [if_neg h, bne_self_eq_false, Bool.false_eq_true, if_false, if_true]
        rw [laws_nSame.self [] (by simp), Option.bind_some, if_pos rfl, laws_FnLongestCounted.j0.v_eq, if_neg (by simp), if_neg (by simp)]

end Go.Proofs.Ytnddmmjofpfmfaa.Pure
