/- Proved: for every input the law FnExactAllLeast returns true (its plain statement, over numbers and lists). No condition. -/
import Derived.Test.YtnddmmjofpfmfaaPAlx9
import Derived.Test.YtnddmmjofpfmfaaVAlx1
import Derived.Test.YtnddmmjofpfmfaaVAlx2
import Derived.Test.YtnddmmjofpfmfaaVAlx3
import Derived.Test.YtnddmmjofpfmfaaVAlx4
import Derived.Test.YtnddmmjofpfmfaaVAlx5
import Derived.Test.YtnddmmjofpfmfaaVAlx6
import Derived.Test.YtnddmmjofpfmfaaVAlx7
import Derived.Test.YtnddmmjofpfmfaaVAlx8
import Derived.Test.YtnddmmjofpfmfaaVAlx9
import Derived.Test.YtnddmmjofpfmfaaAlls
import Derived.Test.YtnddmmjofpfmfaaCounts
import Derived.Test.YtnddmmjofpfmfaaMarks
import Derived.Test.YtnddmmjofpfmfaaOrders
import Derived.Test.YtnddmmjofpfmfaaPerms
import Derived.Test.YtnddmmjofpfmfaaPlain
namespace Go.Proofs.Ytnddmmjofpfmfaa.Pure
open Go.RowKit Go.Proofs.Ytnddmmjofpfmfaa.PAl Go.Proofs.YtnddmmjofpfmfaaW.PrintWords Go.Proofs.YtnddmmjofpfmfaaW.PrintLast Go.Proofs.YtnddmmjofpfmfaaW.PrintMore Go.Proofs.YtnddmmjofpfmfaaL
set_option linter.unusedVariables false
set_option linter.unusedSimpArgs false

theorem impl_descents.ok_l (p : List Int) (h1 : 1 ≤ p.length) (hp : p.length ≤ 1000) : ∀ (d i : Nat) (acc : List Int), i + 1 + d = p.length → acc.length ≤ i → impl_descents.l0.v p acc i = some (acc ++ descGo p d i) := by
  intro d
  induction d with
  | zero =>
    intro i acc hd ha
    rw [impl_descents.l0.v_eq, succ_wrap (show i < p.length by omega) (by omega), if_neg (cast_nlt (by omega)), descGo, List.append_nil]
  | succ d ih =>
    intro i acc hd ha
    rw [impl_descents.l0.v_eq, succ_wrap (show i < p.length by omega) (by omega), if_pos (cast_lt (by omega)), if_pos (Int.natCast_nonneg i), if_pos (cast_lt (by omega)), if_pos (Int.natCast_nonneg _), descGo]
    by_cases e : rd p (i : Int) > rd p ((i : Int) + 1)
    · have e' : rd p (i : Int) > rd p ((i + 1 : Nat) : Int) := e
      rw [if_pos e', if_pos e, if_pos (by omega), ih (i + 1) _ (by omega) (by simp; omega), List.append_assoc]; rfl
    · have e' : ¬ rd p (i : Int) > rd p ((i + 1 : Nat) : Int) := e
      rw [if_neg e', if_neg e, ih (i + 1) _ (by omega) (by omega)]
theorem impl_descents.ok (p : List Int) (h1 : 1 ≤ p.length) (hp : p.length ≤ 1000) : impl_descents.f.v p = some (desc p) := by
  rw [impl_descents.f.v_eq]
  have := impl_descents.ok_l p h1 hp (p.length - 1) 0 [] (by omega) (by simp)
  simpa [desc] using this

theorem slices_Clone_int_int.ok (l : List Int) (h : l.length ≤ 1048576) : slices_Clone_int_int.f l = some l := by
  unfold slices_Clone_int_int.f
  rw [if_pos (by omega)]

theorem impl_exchanged.ok (p : List Int) (j : Nat) (hj : j + 1 < p.length) (hp : p.length ≤ 1048576) : impl_exchanged.f p (j : Int) = some (swp p j (j + 1)) := by
  have e : wrap64 ((j : Int) + 1) = ((j + 1 : Nat) : Int) := succ_wrap (show j < p.length by omega) (by omega)
  unfold impl_exchanged.f
  rw [slices_Clone_int_int.ok p hp, Option.bind_some, e, if_pos (Int.natCast_nonneg _), if_pos (cast_lt hj), if_pos (Int.natCast_nonneg _), if_pos (cast_lt (by omega)), toNat_cast, toNat_cast]
  rfl

theorem impl_all.mono_lp {G G' : List Int → List Int → List S31 → Option (List S31)} (h : ∀ a b c r, G a b c = some r → G' a b c = some r) (l1 l2 ds : List Int) : ∀ (m i : Nat) (xs r : List S31), impl_all.lp G l1 l2 ds m i xs = some r → impl_all.lp G' l1 l2 ds m i xs = some r := by
  intro m
  induction m with
  | zero => intro i xs r hr; exact hr
  | succ m ih =>
    intro i xs r hr
    rw [impl_all.lp] at hr ⊢
    obtain ⟨c, hc, hr⟩ := Option.bind_eq_some_iff.1 hr
    rw [hc, Option.bind_some]
    by_cases h1 : c.length < 1000
    · rw [if_pos h1] at hr ⊢
      obtain ⟨q, hq, hr⟩ := Option.bind_eq_some_iff.1 hr
      rw [hq, Option.bind_some]
      obtain ⟨ys, hy, hr⟩ := Option.bind_eq_some_iff.1 hr
      rw [h _ _ _ _ hy, Option.bind_some]
      exact ih _ _ _ hr
    · rw [if_neg h1] at hr; cases hr
theorem impl_all.mono_g : ∀ (d : Nat) (a0 : Int) (l1 l2 : List Int) (xs r : List S31), impl_all.g d a0 l1 l2 xs = some r → impl_all.g (d + 1) a0 l1 l2 xs = some r := by
  intro d
  induction d with
  | zero => intro a0 l1 l2 xs r h; cases h
  | succ d ih =>
    intro a0 l1 l2 xs r h
    rw [impl_all.g] at h ⊢
    obtain ⟨ds, hd, h⟩ := Option.bind_eq_some_iff.1 h
    rw [hd, Option.bind_some]
    by_cases hz : ds.length = 0
    · rw [if_pos hz] at h ⊢; exact h
    · rw [if_neg hz] at h ⊢
      exact impl_all.mono_lp (fun a b c r hr => ih a0 a b c r hr) l1 l2 ds _ _ _ _ h
theorem impl_all.ok_lp (G : List Int → List Int → List S31 → Option (List S31)) (F : List Int → List (List Int)) (a0 : Int) (done p : List Int) (hp : p.length ≤ 8) (hdn : done.length < 1000) (ds : List Int) (hds : ∀ x ∈ ds, ∃ j : Nat, x = (j : Int) ∧ j + 1 < p.length) (M : Nat)
    (hG : ∀ (j : Nat), (j : Int) ∈ ds → ∀ xs, xs.length + (F (swp p j (j + 1))).length ≤ M → G (done ++ [(j : Int)]) (swp p j (j + 1)) xs = some (xs ++ (F (swp p j (j + 1))).map fun r => ⟨a0, (done ++ [(j : Int)]) ++ r⟩)) :
    ∀ (m i : Nat) (xs : List S31), i + m = ds.length → xs.length + ((ds.drop i).flatMap fun x => (F (swp p x.toNat (x.toNat + 1))).map fun r => x :: r).length ≤ M → impl_all.lp G done p ds m i xs = some (xs ++ ((ds.drop i).flatMap fun x => (F (swp p x.toNat (x.toNat + 1))).map fun r => x :: r).map fun r => ⟨a0, done ++ r⟩) := by
  intro m
  induction m with
  | zero => intro i xs hi hM; rw [impl_all.lp, List.drop_eq_nil_of_le (by omega)]; simp
  | succ m ih =>
    intro i xs hi hM
    have h : i < ds.length := by omega
    have hm := List.getElem_mem h
    obtain ⟨j, hj, hjl⟩ := hds ds[i] hm
    rw [List.drop_eq_getElem_cons h, List.flatMap_cons, List.length_append, List.length_map] at hM
    rw [hj] at hm
    rw [List.drop_eq_getElem_cons h, List.flatMap_cons, impl_all.lp, slices_Clone_int_int.ok done (by omega), Option.bind_some, if_pos hdn, rd_lt ds i h]
    simp only [hj, toNat_cast] at hM ⊢
    rw [impl_exchanged.ok p j hjl (by omega), Option.bind_some, hG j hm xs (by omega), Option.bind_some, ih (i + 1) _ (by omega) (by rw [List.length_append, List.length_map]; omega), List.append_assoc, List.map_append, List.map_map]
    congr 3
    apply List.map_congr_left
    intro r _
    simp
theorem impl_all.ok_g : ∀ (d : Nat) (p : List Int), isOrd p = true → p.length ≤ 6 → invC p < d → ∀ (a0 : Int) (done : List Int) (xs : List S31), done.length + d ≤ 900 → xs.length + (listF d p).length ≤ 99999 → impl_all.g d a0 done p xs = some (xs ++ (listF d p).map fun r => ⟨a0, done ++ r⟩) := by
  intro d
  induction d with
  | zero => intro p _ _ hi; omega
  | succ d ih =>
    intro p ho h6 hi a0 done xs hdn hM
    have hl := isOrd_len ho
    rw [impl_all.g, show (impl_all.ev fun k => impl_descents.f k p) = impl_descents.f.v p from rfl, impl_descents.ok p hl.1 (by omega), Option.bind_some]
    rw [listF] at hM ⊢
    by_cases hz : (desc p).length = 0
    · rw [if_pos hz] at hM ⊢
      rw [if_pos hz, if_pos (by simp at hM; omega)]; simp
    · rw [if_neg hz] at hM ⊢
      rw [if_neg hz]
      have := impl_all.ok_lp (fun l1' l2' xs' => impl_all.g d a0 l1' l2' xs') (listF d) a0 done p hl.2 (by omega) (desc p) (fun x hx => by
        obtain ⟨j, e, hj, _⟩ := desc_mem hx
        exact ⟨j, e, hj⟩) 99999 (fun j hm xs hx => by
        obtain ⟨j', e, hj, hr⟩ := desc_mem hm
        obtain rfl : j = j' := by omega
        have := invC_fall p j hj hr
        exact ih _ (isOrd_swp ho j hj) (by rw [swp_length]; exact h6) (by omega) a0 _ xs (by simp; omega) hx) (desc p).length 0 xs (by omega) (by rw [List.drop_zero]; exact hM)
      rw [List.drop_zero] at this
      exact this

theorem impl_counter_count.ok_sm (g : List Int → Option Int) (c : List Int → Nat) (p : List Int) (hp : p.length ≤ 8) (M : Nat) (hM : M ≤ 1152921504606846976) : ∀ (ds : List Int) (n : Nat), (∀ x ∈ ds, ∃ j : Nat, x = (j : Int) ∧ j + 1 < p.length ∧ g (swp p j (j + 1)) = some ((c (swp p j (j + 1)) : Nat) : Int)) → n + (ds.map fun x => c (swp p x.toNat (x.toNat + 1))).sum ≤ M → impl_counter_count.sm g p ds (n : Int) = some ((n + (ds.map fun x => c (swp p x.toNat (x.toNat + 1))).sum : Nat) : Int)
  | [], n, _, _ => by rw [impl_counter_count.sm]; rfl
  | x :: ds, n, h, hn => by
    obtain ⟨j, rfl, hj, hg⟩ := h x (by simp)
    rw [List.map_cons, List.sum_cons] at hn
    simp only [toNat_cast] at hn
    rw [impl_counter_count.sm, impl_exchanged.ok p j hj (by omega)]
    simp only [Option.bind_some]
    rw [hg]
    simp only [Option.bind_some]
    rw [wrap_id (by omega) (by omega), show (n : Int) + ((c (swp p j (j + 1)) : Nat) : Int) = ((n + c (swp p j (j + 1)) : Nat) : Int) by omega]
    rw [impl_counter_count.ok_sm g c p hp M hM ds _ (fun y hy => h y (by simp [hy])) (by omega), List.map_cons, List.sum_cons]
    simp only [toNat_cast]
    rw [Nat.add_assoc]
theorem impl_counter_count.ok_g : ∀ (d : Nat) (p : List Int), (∀ x ∈ p, 0 ≤ x ∧ x ≤ 100) → 1 ≤ p.length → p.length ≤ 8 → invC p ≤ d → d ≤ 16 → impl_counter_count.g (d + 1) p = some ((cntF (d + 1) p : Nat) : Int) := by
  intro d
  induction d with
  | zero =>
    intro p hg h1 h8 hi hd
    have hds : desc p = [] := by
      cases e : desc p with
      | nil => rfl
      | cons a r =>
        obtain ⟨j, _, _, _, hc⟩ := desc_head e
        omega
    rw [impl_counter_count.g, if_pos ⟨List.all_eq_true.2 fun x hx => by have := hg x hx; simp; omega, h8⟩]
    rw [show (impl_counter_count.ev fun k => impl_descents.f k p) = impl_descents.f.v p from rfl, impl_descents.ok p h1 (by omega), Option.bind_some, hds, cntF, hds]
    rfl
  | succ d ih =>
    intro p hg h1 h8 hi hd
    rw [impl_counter_count.g, if_pos ⟨List.all_eq_true.2 fun x hx => by have := hg x hx; simp; omega, h8⟩]
    rw [show (impl_counter_count.ev fun k => impl_descents.f k p) = impl_descents.f.v p from rfl, impl_descents.ok p h1 (by omega), Option.bind_some, cntF]
    by_cases hz : (desc p).length = 0
    · rw [if_pos hz, if_pos hz]; rfl
    · rw [if_neg hz, if_neg hz, if_pos (Nat.le_trans (desc_length p) h8)]
      have hle := cntF_le (d + 1 + 1) p h8
      rw [cntF, if_neg hz] at hle
      have h818 : (8 : Nat) ^ (d + 1 + 1) ≤ 8 ^ 18 := Nat.pow_le_pow_right (by decide) (by omega)
      have := impl_counter_count.ok_sm (impl_counter_count.g (d + 1)) (cntF (d + 1)) p h8 (8 ^ 18) (by decide) (desc p) 0 (fun x hx => by
        obtain ⟨j, e, hj, hr⟩ := desc_mem hx
        refine ⟨j, e, hj, ih _ ?_ (by rw [swp_length]; omega) (by rw [swp_length]; omega) ?_ (by omega)⟩
        · intro y hy
          exact hg y ((swp_perm p j (j + 1) (by omega) hj).mem_iff.1 hy)
        · have := invC_fall p j hj hr; omega) (by omega)
      rw [Nat.zero_add] at this
      exact this
theorem impl_counter_count.ok (p : List Int) (h : isOrd p = true) (h6 : p.length ≤ 6) : impl_counter_count.f p = some ((cntF 16 p : Nat) : Int) := by
  have hl := isOrd_len h
  exact impl_counter_count.ok_g 15 p (fun x hx => by have := (isOrd_all h).1 x hx; omega) hl.1 hl.2 (invC_six h6) (by decide)

theorem slices_Index_int_int.ok_l (v : Int) (xs : List Int) (hn : xs.length ≤ 140737488355328) : ∀ (d i : Nat), xs.length - i = d → ∃ r, slices_Index_int_int.l0.v xs v xs.length i = some r ∧ decide (r ≥ 0) = decide (v ∈ xs.drop i) := by
  intro d
  induction d with
  | zero =>
    intro i hd
    refine ⟨-1, ?_, ?_⟩
    · rw [slices_Index_int_int.l0.v_eq, if_neg (cast_nlt (by omega))]
    · rw [List.drop_eq_nil_of_le (by omega)]; simp
  | succ d ih =>
    intro i hd
    have h : i < xs.length := by omega
    obtain ⟨r, hr, hr'⟩ := ih (i + 1) (by omega)
    rw [slices_Index_int_int.l0.v_eq, if_pos (cast_lt h), if_pos (Int.natCast_nonneg i), if_pos (cast_lt h), succ_wrap h hn, hr, drop_rd xs i h]
    by_cases e : v = rd xs (i : Int)
    · rw [if_pos e]; exact ⟨i, rfl, by simp [e, Int.natCast_nonneg]⟩
    · rw [if_neg e]; exact ⟨r, rfl, by rw [hr']; simp [e]⟩

theorem slices_Contains_int_int.ok (v : Int) (xs : List Int) (hn : xs.length ≤ 140737488355328) : slices_Contains_int_int.f.v xs v = some (decide (v ∈ xs)) := by
  obtain ⟨r, hr, hr'⟩ := slices_Index_int_int.ok_l v xs hn xs.length 0 (by omega)
  have e : slices_Index_int_int.f.v xs v = some r := by rw [slices_Index_int_int.f.v_eq]; exact hr
  rw [slices_Contains_int_int.f.v_eq, e, Option.bind_some, hr', List.drop_zero]

theorem impl_isOrder.ok_l (p : List Int) (hn : p.length ≤ 8) : ∀ (d i : Nat), p.length - i = d → impl_isOrder.l0.v p p p.length i = some (ordGo p.length (p.take i) (p.drop i)) := by
  intro d
  induction d with
  | zero =>
    intro i hd
    rw [impl_isOrder.l0.v_eq, if_neg (cast_nlt (by omega)), List.drop_eq_nil_of_le (by omega)]
    rfl
  | succ d ih =>
    intro i hd
    have h : i < p.length := by omega
    rw [impl_isOrder.l0.v_eq, if_pos (cast_lt h), if_pos (Int.natCast_nonneg i), if_pos (cast_lt h), succ_wrap h (by omega), ih (i + 1) (by omega), drop_rd p i h, take_rd p i h]
    rw [wrap_id (x := (p.length : Int) - 1) (by omega) (by omega), toNat_cast, slices_Contains_int_int.ok _ _ (by rw [List.length_take]; omega)]
    unfold impl_between.f
    rw [ordGo_cons]
    by_cases a : 0 ≤ rd p (i : Int)
    · by_cases b : rd p (i : Int) ≤ (p.length : Int) - 1
      · have hi : (i : Int) ≤ (p.length : Int) := by omega
        by_cases c : rd p (i : Int) ∈ p.take i
        · simp only [ge_iff_le, a, b, c, hi, decide_true, decide_false, if_true, if_false, Option.bind_some, true_and, and_true, and_self, Bool.false_eq_true]
        · simp only [ge_iff_le, a, b, c, hi, decide_true, decide_false, if_true, if_false, Option.bind_some, true_and, and_true, and_self, Bool.false_eq_true]
      · simp [a, b]
    · simp [a]
theorem impl_isOrder.ok (p : List Int) : impl_isOrder.f.v p = some (isOrd p) := by
  rw [impl_isOrder.f.v_eq]
  unfold impl_between.f isOrd
  by_cases h : 1 ≤ p.length ∧ p.length ≤ 8
  · have := impl_isOrder.ok_l p h.2 p.length 0 (by omega)
    have h1 : (p.length : Int) ≥ 1 := by omega
    have h2 : (p.length : Int) ≤ 8 := by omega
    rw [if_pos h1, if_pos h, decide_eq_true h2]
    simpa using this
  · rw [if_neg h]
    by_cases h1 : (p.length : Int) ≥ 1
    · have h2 : ¬ (p.length : Int) ≤ 8 := by omega
      rw [if_pos h1, decide_eq_false h2]; rfl
    · rw [if_neg h1]; rfl

theorem impl_isCounted.ok (p : List Int) : impl_isCounted.f.v p = some (cntd p) := by
  rw [impl_isCounted.f.v_eq, impl_isOrder.ok, Option.bind_some]
  unfold cntd
  cases h : isOrd p
  · rfl
  · rw [if_pos rfl]
    unfold impl_between.f
    by_cases h2 : (p.length : Int) ≥ 2
    · rw [if_pos h2, Option.bind_some]
      have : decide (2 ≤ p.length) = true := decide_eq_true (by omega)
      rw [this]
      congr 1
      simp only [Bool.true_and]
      exact decide_eq_decide.2 (by omega)
    · rw [if_neg h2, Option.bind_some]
      have : decide (2 ≤ p.length) = false := decide_eq_false (by omega)
      rw [this]; rfl

theorem impl_listed.ev_of {α : Type} {g : Nat → Option α} {K : Nat} {r : α} (hm : ∀ k r, g k = some r → g (k + 1) = some r) (h : g K = some r) : impl_listed.ev g = some r := by
  have hup : ∀ (n k : Nat) (r : α), g k = some r → g (k + n) = some r := by
    intro n
    induction n with
    | zero => intro k r h; exact h
    | succ n ih => intro k r h; exact hm _ _ (ih k r h)
  have hx : ∃ k r, g k = some r := ⟨K, r, h⟩
  unfold impl_listed.ev
  rw [dif_pos hx]
  obtain ⟨r', hr'⟩ := hx.choose_spec
  have e1 := hup K _ _ hr'
  have e2 := hup hx.choose _ _ h
  rw [Nat.add_comm, e2] at e1
  rw [hr', Option.some.inj e1]
theorem impl_listed.ok (p : List Int) : impl_listed.f p = some (if cntd p = true ∧ cntF 16 p ≤ 800 then ((listF 16 p).map fun r => (⟨(p.length : Int), r⟩ : S31), true) else ([], false)) := by
  unfold impl_listed.f
  rw [show (impl_listed.ev fun k => impl_isCounted.f k p) = impl_isCounted.f.v p from rfl, impl_isCounted.ok, Option.bind_some]
  by_cases h : cntd p = true
  · have hc := cntd_iff.1 h
    have h6 := invC_six hc.2.2
    rw [if_pos h, impl_counter_count.ok p hc.1 hc.2.2, Option.bind_some]
    by_cases c : cntF 16 p ≤ 800
    · have hg := impl_all.ok_g 16 p hc.1 hc.2.2 (by omega) (p.length : Int) [] [] (by simp) (by rw [listF_length]; simp; omega)
      rw [if_neg (by omega), if_pos ⟨h, c⟩, impl_listed.ev_of (fun k r => impl_all.mono_g k _ _ _ _ r) hg, Option.bind_some]
      simp
    · rw [if_pos (by omega), if_neg (fun x => c x.2)]
  · rw [if_neg h, if_neg (fun x => h x.1)]

theorem impl_AllLeast.ok (p : List Int) : impl_AllLeast.f p = some (if cntd p = true ∧ cntF 16 p ≤ 800 then ((listF 16 p).map fun r => (⟨(p.length : Int), r⟩ : S31), true) else ([], false)) := by
  unfold impl_AllLeast.f
  rw [impl_listed.ok]; rfl

theorem laws_eqIntS.ok_l (xs : List Int) (hn : xs.length ≤ 140737488355328) : ∀ (d i : Nat), xs.length - i = d → laws_eqIntS.l0.v xs xs i = some true := by
  intro d
  induction d with
  | zero =>
    intro i hd
    rw [laws_eqIntS.l0.v_eq, if_neg (cast_nlt (by omega))]
  | succ d ih =>
    intro i hd
    have h : i < xs.length := by omega
    rw [laws_eqIntS.l0.v_eq, if_pos (cast_lt h), if_pos (Int.natCast_nonneg i), if_pos (cast_lt h), if_pos rfl, succ_wrap h hn]
    exact ih (i + 1) (by omega)
theorem laws_eqIntS.ok (xs : List Int) (hn : xs.length ≤ 140737488355328) : laws_eqIntS.f.v xs xs = some true := by
  rw [laws_eqIntS.f.v_eq, if_pos rfl]
  exact laws_eqIntS.ok_l xs hn xs.length 0 (by omega)

theorem laws_eqLadder.ok (n : Int) (l : List Int) (h : l.length ≤ 140737488355328) : laws_eqLadder.f.v n l n l = some true := by
  rw [laws_eqLadder.f.v_eq, if_pos rfl, laws_eqIntS.ok l h]; rfl

theorem laws_eqLadderS.ok_l (xs : List S31) (hn : xs.length ≤ 1048576) (hs : ∀ x ∈ xs, x.f1.length ≤ 1048576) : ∀ (d i : Nat), i + d = xs.length → laws_eqLadderS.l0.v xs xs (i : Int) = some true := by
  intro d
  induction d with
  | zero => intro i hi; rw [laws_eqLadderS.l0.v_eq, if_neg (by omega)]
  | succ d ih =>
    intro i hi
    have h : i < xs.length := by omega
    have e : rd_T31 xs (i : Int) = xs[i] := by
      show xs.getD ((i : Int)).toNat z31 = _
      rw [toNat_cast, List.getD_eq_getElem?_getD, List.getElem?_eq_getElem h]; rfl
    have hm := hs _ (List.getElem_mem h)
    rw [laws_eqLadderS.l0.v_eq, if_pos (cast_lt h), if_pos (Int.natCast_nonneg _), if_pos (cast_lt h), e, laws_eqLadder.ok _ _ (by omega), Option.bind_some, if_pos rfl, succ_wrap h (by omega)]
    exact ih (i + 1) (by omega)
theorem laws_eqLadderS.ok (xs : List S31) (hn : xs.length ≤ 1048576) (hs : ∀ x ∈ xs, x.f1.length ≤ 1048576) : laws_eqLadderS.f.v xs xs = some true := by
  rw [laws_eqLadderS.f.v_eq, if_pos rfl]
  exact laws_eqLadderS.ok_l xs hn hs xs.length 0 (by omega)

theorem rd_fromOn (k : Int) : ∀ (n i : Nat), i < n → rd (fromOn k n) (i : Int) = k + i := by
  intro n i h
  induction n generalizing k i with
  | zero => omega
  | succ n ih =>
    cases i with
    | zero => show k = k + ((0 : Nat) : Int); simp
    | succ i =>
      have := ih (k + 1) i (by omega)
      rw [rd_cast] at this ⊢
      rw [fromOn, List.getD_cons_succ, this]; omega
theorem laws_heldIntS.ok_l (n : Nat) (k : Int) (hn : n ≤ 1099511627776) (h0 : 0 ≤ k) (h1 : k ≤ 4398046511104) : ∀ (d i : Nat), i + d = n → laws_heldIntS.l0.v (fromOn k n) (k + i) i = some (k + n) := by
  intro d
  induction d with
  | zero =>
    intro i hd
    rw [laws_heldIntS.l0.v_eq, fromOn_length, if_neg (cast_nlt (by omega)), show i = n by omega]
  | succ d ih =>
    intro i hd
    have h : i < n := by omega
    rw [laws_heldIntS.l0.v_eq, fromOn_length, if_pos (cast_lt h), if_pos (Int.natCast_nonneg i), if_pos (rd_fromOn k n i h), succ_wrap h (by omega), wrap_id (x := k + (i : Int) + 1) (by omega) (by omega), show k + (i : Int) + 1 = k + ((i + 1 : Nat) : Int) by omega]
    exact ih (i + 1) (by omega)
theorem laws_heldIntS.ok (n : Nat) (k : Int) (hn : n ≤ 1099511627776) (h0 : 0 ≤ k) (h1 : k ≤ 4398046511104) : laws_heldIntS.f.v (fromOn k n) k = some (k + n) := by
  rw [laws_heldIntS.f.v_eq]
  have := laws_heldIntS.ok_l n k hn h0 h1 n 0 (by omega)
  simpa using this

theorem laws_markIntS.ok_l : ∀ (d i : Nat) (xs : List Int) (k : Int), i + d = xs.length → xs.length ≤ 1099511627776 → 0 ≤ k → k ≤ 4398046511104 → laws_markIntS.l0.v xs (k + i) i = some (k + (xs.length : Int), xs.take i ++ fromOn (k + i) d) := by
  intro d
  induction d with
  | zero =>
    intro i xs k hd hn h0 h1
    rw [laws_markIntS.l0.v_eq, if_neg (cast_nlt (by omega)), List.take_of_length_le (by omega), show i = xs.length by omega]
    simp [fromOn]
  | succ d ih =>
    intro i xs k hd hn h0 h1
    have h : i < xs.length := by omega
    rw [laws_markIntS.l0.v_eq, if_pos (cast_lt h), if_pos (Int.natCast_nonneg i), succ_wrap h (by omega), toNat_cast, wrap_id (x := k + (i : Int) + 1) (by omega) (by omega), show k + (i : Int) + 1 = k + ((i + 1 : Nat) : Int) by omega, ih (i + 1) _ k (by rw [List.length_set]; omega) (by rw [List.length_set]; omega) h0 h1, List.length_set, fromOn, List.take_succ_eq_append_getElem (by rw [List.length_set]; omega), List.getElem_set_self, List.take_set_of_le (Nat.le_refl i), List.append_assoc, show k + (i : Int) + 1 = k + ((i + 1 : Nat) : Int) by omega]
    rfl
theorem laws_markIntS.ok (xs : List Int) (k : Int) (hn : xs.length ≤ 1099511627776) (h0 : 0 ≤ k) (h1 : k ≤ 4398046511104) : laws_markIntS.f.v xs k = some (k + (xs.length : Int), fromOn k xs.length) := by
  rw [laws_markIntS.f.v_eq]
  have := laws_markIntS.ok_l xs.length 0 xs k (by omega) hn h0 h1
  simpa using this

def laws_markLadderS.marks : Int → List S31 → List S31
  | _, [] => []
  | k, x :: r => ⟨k, fromOn (k + 1) x.f1.length⟩ :: laws_markLadderS.marks (k + 1 + x.f1.length) r
def laws_markLadderS.size : List S31 → Nat
  | [] => 0
  | x :: r => x.f1.length + 1 + laws_markLadderS.size r
theorem laws_markLadderS.marks_length : ∀ (r : List S31) (k : Int), (laws_markLadderS.marks k r).length = r.length
  | [], _ => rfl
  | x :: r, k => by rw [laws_markLadderS.marks, List.length_cons, List.length_cons, laws_markLadderS.marks_length r]
theorem laws_markLadderS.ok_l : ∀ (r pre : List S31) (k : Int), pre.length + r.length ≤ 1048576 → 0 ≤ k → k + laws_markLadderS.size r ≤ 1099511627776 → laws_markLadderS.size r ≤ 1048576 → laws_markLadderS.l0.v (pre ++ r) k (pre.length : Int) = some (k + (laws_markLadderS.size r : Nat), pre ++ laws_markLadderS.marks k r)
  | [], pre, k, hl, h0, h1, h2 => by
    rw [laws_markLadderS.l0.v_eq, if_neg (cast_nlt (by simp))]
    simp [laws_markLadderS.size, laws_markLadderS.marks]
  | x :: r, pre, k, hl, h0, h1, h2 => by
    simp only [laws_markLadderS.size] at h1 h2
    simp only [List.length_cons] at hl
    have hi : pre.length < (pre ++ x :: r).length := by simp
    have hg : (pre ++ x :: r).getD ((pre.length : Int)).toNat z31 = x := by
      rw [toNat_cast, List.getD_eq_getElem?_getD, List.getElem?_append_right (Nat.le_refl _), Nat.sub_self]; rfl
    rw [laws_markLadderS.l0.v_eq, if_pos (cast_lt hi), if_pos (Int.natCast_nonneg _), hg, wrap_id (x := k + 1) (by omega) (by omega), laws_markIntS.ok x.f1 (k + 1) (by omega) (by omega) (by omega)]
    simp only [Option.bind_some]
    rw [succ_wrap hi (by simp; omega), toNat_cast, List.set_append_right _ _ (Nat.le_refl _), Nat.sub_self, List.set_cons_zero]
    have := laws_markLadderS.ok_l r (pre ++ [⟨k, fromOn (k + 1) x.f1.length⟩]) (k + 1 + x.f1.length) (by simp; omega) (by omega) (by omega) (by omega)
    simp only [List.length_append, List.length_cons, List.length_nil, Nat.zero_add, List.append_assoc, List.cons_append, List.nil_append] at this
    rw [this]
    simp only [laws_markLadderS.size, laws_markLadderS.marks]
    congr 2
    omega
theorem laws_markLadderS.ok (r : List S31) (hl : r.length ≤ 1048576) (h1 : laws_markLadderS.size r ≤ 1048576) : laws_markLadderS.f.v r 1 = some ((1 : Int) + ((laws_markLadderS.size r : Nat) : Int), laws_markLadderS.marks 1 r) := by
  rw [laws_markLadderS.f.v_eq]
  have := laws_markLadderS.ok_l r [] 1 (by simpa using hl) (by omega) (by omega) h1
  simpa using this

theorem laws_heldLadderS.ok_l : ∀ (r pre : List S31) (k : Int), pre.length + r.length ≤ 1048576 → 0 ≤ k → k + laws_markLadderS.size r ≤ 1099511627776 → laws_markLadderS.size r ≤ 1048576 → laws_heldLadderS.l0.v (pre ++ laws_markLadderS.marks k r) k (pre.length : Int) = some (k + (laws_markLadderS.size r : Nat))
  | [], pre, k, hl, h0, h1, h2 => by
    rw [laws_heldLadderS.l0.v_eq, if_neg (cast_nlt (by simp [laws_markLadderS.marks]))]
    simp [laws_markLadderS.size]
  | x :: r, pre, k, hl, h0, h1, h2 => by
    simp only [laws_markLadderS.size] at h1 h2
    simp only [List.length_cons] at hl
    have hi : pre.length < (pre ++ laws_markLadderS.marks k (x :: r)).length := by simp [laws_markLadderS.marks]
    have hg : rd_T31 (pre ++ laws_markLadderS.marks k (x :: r)) (pre.length : Int) = ⟨k, fromOn (k + 1) x.f1.length⟩ := by
      show (pre ++ laws_markLadderS.marks k (x :: r)).getD ((pre.length : Int)).toNat z31 = _
      rw [toNat_cast, List.getD_eq_getElem?_getD, List.getElem?_append_right (Nat.le_refl _), Nat.sub_self]; rfl
    rw [laws_heldLadderS.l0.v_eq, if_pos (cast_lt hi), if_pos (Int.natCast_nonneg _), hg, if_pos rfl, wrap_id (x := k + 1) (by omega) (by omega), laws_heldIntS.ok x.f1.length (k + 1) (by omega) (by omega) (by omega)]
    simp only [Option.bind_some]
    rw [if_neg (by omega), succ_wrap hi (by simp [laws_markLadderS.marks_length]; omega)]
    have := laws_heldLadderS.ok_l r (pre ++ [⟨k, fromOn (k + 1) x.f1.length⟩]) (k + 1 + x.f1.length) (by simp; omega) (by omega) (by omega) (by omega)
    simp only [List.length_append, List.length_cons, List.length_nil, Nat.zero_add, List.append_assoc, List.cons_append, List.nil_append] at this
    rw [show pre ++ laws_markLadderS.marks k (x :: r) = pre ++ (⟨k, fromOn (k + 1) x.f1.length⟩ : S31) :: laws_markLadderS.marks (k + 1 + x.f1.length) r from rfl, this]
    simp only [laws_markLadderS.size]
    congr 1
    omega
theorem laws_heldLadderS.ok (r : List S31) (hl : r.length ≤ 1048576) (h1 : laws_markLadderS.size r ≤ 1048576) : laws_heldLadderS.f.v (laws_markLadderS.marks 1 r) 1 = some ((1 : Int) + ((laws_markLadderS.size r : Nat) : Int)) := by
  rw [laws_heldLadderS.f.v_eq]
  have := laws_heldLadderS.ok_l r [] 1 (by simpa using hl) (by omega) (by omega) h1
  simpa using this

theorem laws_toIntS.ok_l (xs : List Int) (hn : xs.length ≤ 140737488355328) : ∀ (d i : Nat) (ys : List Int), xs.length - i = d → ys.length = xs.length → ys.take i = xs.take i → laws_toIntS.l0.v xs ys i = some xs := by
  intro d
  induction d with
  | zero =>
    intro i ys hd hl ht
    rw [laws_toIntS.l0.v_eq, if_neg (cast_nlt (by omega))]
    rw [List.take_of_length_le (by omega), List.take_of_length_le (by omega)] at ht
    rw [ht]
  | succ d ih =>
    intro i ys hd hl ht
    have h : i < xs.length := by omega
    rw [laws_toIntS.l0.v_eq, if_pos (cast_lt h), if_pos (Int.natCast_nonneg i), if_pos (cast_lt (by omega)), succ_wrap h hn, toNat_cast]
    refine ih (i + 1) _ (by omega) (by rw [List.length_set]; exact hl) ?_
    rw [take_rd xs i h, ← ht, rd_lt xs i h, List.take_succ_eq_append_getElem (by rw [List.length_set]; omega), List.getElem_set_self, List.take_set_of_le (Nat.le_refl i)]
theorem laws_toIntS.ok (xs : List Int) (hn : xs.length ≤ 1048576) : laws_toIntS.f.v xs = some xs := by
  rw [laws_toIntS.f.v_eq, if_pos (Int.natCast_nonneg _), toNat_cast, if_pos (by omega)]
  exact laws_toIntS.ok_l xs (by omega) xs.length 0 _ (by omega) (by simp) (by simp)

theorem spec_alRank.ok_i (p : List Int) (hp : p.length ≤ 8) (acc : Int) (i : Nat) (x : Int) (ys : List Int) (hy : ys.length ≤ 8) (hi : i < p.length) (h0 : 0 ≤ acc) (h1 : acc ≤ 100000000) : ∀ (d j c : Nat), j + d = ys.length → c ≤ j → spec_alRank.l1.v p acc i x c p p.length i ys ys.length j = spec_alRank.l0.v p (acc * ((p.length : Int) - i) + ((c + fewer x (ys.drop j) : Nat) : Int)) p p.length ((i + 1 : Nat) : Int) := by
  intro d
  induction d with
  | zero =>
    intro j c hd hc
    have hm : 0 ≤ acc * ((p.length : Int) - i) ∧ acc * ((p.length : Int) - i) ≤ 100000000 * 8 := ⟨Int.mul_nonneg h0 (by omega), Int.mul_le_mul h1 (by omega) (by omega) (by omega)⟩
    rw [spec_alRank.l1.v_eq, if_neg (cast_nlt (by omega)), succ_wrap hi (by omega), List.drop_eq_nil_of_le (by omega), fewer, Nat.add_zero, wrap_id (x := (p.length : Int) - i) (by omega) (by omega), wrap_id (x := acc * ((p.length : Int) - i)) (by omega) (by omega), wrap_id (x := acc * ((p.length : Int) - i) + (c : Int)) (by omega) (by omega)]
    simp only [Nat.add_zero]
  | succ d ih =>
    intro j c hd hc
    have h : j < ys.length := by omega
    rw [spec_alRank.l1.v_eq, if_pos (cast_lt h), if_pos (Int.natCast_nonneg j), if_pos (cast_lt h), succ_wrap h (by omega), drop_rd ys j h, fewer]
    by_cases e : rd ys (j : Int) < x
    · rw [if_pos e, if_pos e, wrap_id (x := (c : Int) + 1) (by omega) (by omega), show (c : Int) + 1 = ((c + 1 : Nat) : Int) by omega, ih (j + 1) (c + 1) (by omega) (by omega), Nat.add_assoc]
    · rw [if_neg e, if_neg e, ih (j + 1) c (by omega) (by omega), Nat.zero_add]
theorem spec_alRank.ok_o (p : List Int) (hp : p.length ≤ 8) : ∀ (d i : Nat) (acc : Int), i + d = p.length → 0 ≤ acc → acc < ((9 ^ i : Nat) : Int) → spec_alRank.l0.v p acc p p.length i = some (rkGo acc (p.drop i)) := by
  intro d
  induction d with
  | zero =>
    intro i acc hd h0 h1
    rw [spec_alRank.l0.v_eq, if_neg (cast_nlt (by omega)), List.drop_eq_nil_of_le (by omega), rkGo]
  | succ d ih =>
    intro i acc hd h0 h1
    have h : i < p.length := by omega
    have h9 : 9 ^ i ≤ 9 ^ 8 := Nat.pow_le_pow_right (by decide) (by omega)
    have h98 : 9 ^ 8 = 43046721 := by decide
    have h2 := spec_alRank.ok_i p hp acc i (rd p (i : Int)) (p.drop (i + 1)) (by rw [List.length_drop]; omega) h h0 (by omega) (p.drop (i + 1)).length 0 0 (by omega) (by omega)
    rw [spec_alRank.l0.v_eq, if_pos (cast_lt h), if_pos (Int.natCast_nonneg i), if_pos (cast_lt h), succ_wrap h (by omega), if_pos (Int.natCast_nonneg _), if_pos (by omega), toNat_cast, Option.bind_some]
    rw [show ((0 : Nat) : Int) = 0 from rfl] at h2
    have hf := fewer_len (rd p (i : Int)) (p.drop (i + 1))
    rw [List.length_drop] at hf
    have hb : acc * ((p.length : Int) - i) + ((fewer (rd p (i : Int)) (p.drop (i + 1)) : Nat) : Int) < ((9 ^ (i + 1) : Nat) : Int) := by
      have h3 : acc * ((p.length : Int) - i) ≤ (((9 ^ i : Nat) : Int) - 1) * 8 := Int.mul_le_mul (by omega) (by omega) (by omega) (by omega)
      rw [Nat.pow_succ]
      omega
    rw [h2, List.drop_zero, Nat.zero_add, ih (i + 1) _ (by omega) (by have := Int.mul_nonneg h0 (show (0 : Int) ≤ (p.length : Int) - i by omega); omega) hb, drop_rd p i h, rkGo, List.length_drop, show ((p.length - (i + 1) : Nat) : Int) + 1 = (p.length : Int) - i by omega]
theorem spec_alRank.ok (p : List Int) (hp : p.length ≤ 8) : spec_alRank.f.v p = some (rankL p) := by
  rw [spec_alRank.f.v_eq]
  have := spec_alRank.ok_o p hp p.length 0 0 (by omega) (by omega) (by decide)
  simpa [rankL] using this

theorem spec_l1Own.ok (l : List Int) (h : l.length ≤ 1048576) : spec_l1Own.f l = some l := by
  unfold spec_l1Own.f
  rw [Option.bind_some, if_pos (by simp; omega)]; rfl

theorem spec_alSwap.ok (p : List Int) (j : Nat) (hj : j + 1 < p.length) (hp : p.length ≤ 1048576) : spec_alSwap.f p (j : Int) = some (swp p j (j + 1)) := by
  have e : wrap64 ((j : Int) + 1) = ((j + 1 : Nat) : Int) := succ_wrap (show j < p.length by omega) (by omega)
  unfold spec_alSwap.f
  rw [spec_l1Own.ok p hp, Option.bind_some, e, if_pos (Int.natCast_nonneg _), if_pos (cast_lt hj), if_pos (Int.natCast_nonneg _), if_pos (cast_lt (by omega)), if_pos (cast_lt (by omega)), if_pos (cast_lt hj), toNat_cast, toNat_cast]
  rfl

theorem spec_alCounter_count.good_of {p : List Int} (h : isOrd p = true) : spec_alCounter_count.good p := ⟨(isOrd_all h).2, (isOrd_all h).1⟩
theorem spec_alCounter_count.ord_of {p : List Int} (h : spec_alCounter_count.good p) (h1 : 1 ≤ p.length) (h8 : p.length ≤ 8) : isOrd p = true := by
  unfold isOrd
  rw [if_pos ⟨h1, h8⟩]
  exact ordGo_of _ p [] (fun x hx => by have := h.2 x hx; exact ⟨this.1, by omega, by simp⟩) h.1
theorem spec_alCounter_count.rank_of {p : List Int} (hp : p.length ≤ 8) {k : Nat} {a : Int} (h : spec_alRank.f k p = some a) : a = rankL p := by
  have h1 : spec_alRank.f.v p = some a := lim_of (fun k => spec_alRank.mono p k) h
  rw [spec_alRank.ok p hp] at h1
  exact (Option.some.inj h1).symm
theorem spec_alCounter_count.inj_ok : spec_alCounter_count.inj := by
  intro q q' k k' a hq hq' h8 hl h h'
  rcases Nat.eq_zero_or_pos q.length with h0 | h0
  · rw [List.length_eq_zero_iff.1 h0, List.length_eq_zero_iff.1 (show q'.length = 0 by omega)]
  · have h1 := spec_alCounter_count.ord_of hq h0 h8
    have h2 := spec_alCounter_count.ord_of hq' (by omega) (by omega)
    have e1 := spec_alCounter_count.rank_of (isOrd_len h1).2 h
    have e2 := spec_alCounter_count.rank_of (isOrd_len h2).2 h'
    exact rank_inj h1 h2 hl (e1.symm.trans e2)
theorem spec_alCounter_count.fc_eq : ∀ n, spec_alNew.fc n = fct n
  | 0 => rfl
  | n + 1 => by rw [spec_alNew.fc, fct, spec_alCounter_count.fc_eq n]
theorem spec_alCounter_count.ok_lp (g : List Int → Option Int) (c : List Int → Nat) (p : List Int) (hp : p.length ≤ 8) (M : Nat) (hM : M ≤ 1152921504606846976) : ∀ (m i n : Nat) (b : Bool), i + m + 1 = p.length → (∀ j : Nat, j + 1 < p.length → rd p (j : Int) > rd p ((j : Int) + 1) → g (swp p j (j + 1)) = some ((c (swp p j (j + 1)) : Nat) : Int)) → n + ((descGo p m i).map fun x => c (swp p x.toNat (x.toNat + 1))).sum ≤ M →
    spec_alCounter_count.lp g p m i (n : Int) b = some (((n + ((descGo p m i).map fun x => c (swp p x.toNat (x.toNat + 1))).sum : Nat) : Int), if (descGo p m i).length = 0 then b else false)
  | 0, i, n, b, _, _, _ => by rw [spec_alCounter_count.lp, descGo]; rfl
  | m + 1, i, n, b, hi, hg, hn => by
    rw [spec_alCounter_count.lp, descGo]
    rw [descGo] at hn
    by_cases e : rd p (i : Int) > rd p ((i : Int) + 1)
    · rw [if_pos e] at hn ⊢
      rw [if_pos e]
      rw [List.map_cons, List.sum_cons] at hn
      simp only [toNat_cast] at hn
      rw [spec_alSwap.ok p i (by omega) (by omega)]
      simp only [Option.bind_some]
      rw [hg i (by omega) e]
      simp only [Option.bind_some]
      rw [wrap_id (by omega) (by omega), show (n : Int) + ((c (swp p i (i + 1)) : Nat) : Int) = ((n + c (swp p i (i + 1)) : Nat) : Int) by omega]
      rw [spec_alCounter_count.ok_lp g c p hp M hM m (i + 1) _ false (by omega) hg (by omega), List.map_cons, List.sum_cons]
      simp only [toNat_cast, List.length_cons, Nat.add_assoc]
      congr 2
      by_cases hz : (descGo p m (i + 1)).length = 0
      · rw [if_pos hz, if_neg (by omega)]
      · rw [if_neg hz, if_neg (by omega)]
    · rw [if_neg e] at hn ⊢
      rw [if_neg e]
      exact spec_alCounter_count.ok_lp g c p hp M hM m (i + 1) n b (by omega) hg hn
theorem spec_alCounter_count.ok_g (n : Nat) (hn8 : n ≤ 8) : ∀ (d : Nat) (p : List Int), isOrd p = true → p.length = n → invC p ≤ d → d ≤ 16 → spec_alCounter_count.g (spec_alNew.fc n) n (d + 1) p = some ((cntF (d + 1) p : Nat) : Int) := by
  intro d
  induction d with
  | zero =>
    intro p ho hl hi hd
    have hr := rank_lt p
    have hln := isOrd_len ho
    have hds : desc p = [] := by
      cases e : desc p with
      | nil => rfl
      | cons a r =>
        obtain ⟨j, _, _, _, hc⟩ := desc_head e
        omega
    rw [spec_alCounter_count.g, if_pos ⟨spec_alCounter_count.inj_ok, spec_alCounter_count.good_of ho, hl, hn8⟩]
    rw [show (spec_alCounter_count.ev fun k => spec_alRank.f k p) = spec_alRank.f.v p from rfl, spec_alRank.ok p (by omega), Option.bind_some, if_pos (by rw [spec_alCounter_count.fc_eq, ← hl]; exact hr)]
    have := spec_alCounter_count.ok_lp (spec_alCounter_count.g (spec_alNew.fc n) n 0) (cntF 0) p (by omega) (8 ^ 18) (by decide) (p.length - 1) 0 0 true (by omega) (fun j hj hgt => by
      have hh : (j : Int) ∈ desc p := (desc_iff p j hj).2 hgt
      rw [hds] at hh; cases hh) (by rw [show descGo p (p.length - 1) 0 = desc p from rfl, hds]; simp)
    rw [show descGo p (p.length - 1) 0 = desc p from rfl, hds] at this
    rw [show ((0 : Nat) : Int) = 0 from rfl] at this
    rw [this, cntF, hds]
    rfl
  | succ d ih =>
    intro p ho hl hi hd
    have hr := rank_lt p
    have hln := isOrd_len ho
    rw [spec_alCounter_count.g, if_pos ⟨spec_alCounter_count.inj_ok, spec_alCounter_count.good_of ho, hl, hn8⟩]
    rw [show (spec_alCounter_count.ev fun k => spec_alRank.f k p) = spec_alRank.f.v p from rfl, spec_alRank.ok p (by omega), Option.bind_some, if_pos (by rw [spec_alCounter_count.fc_eq, ← hl]; exact hr)]
    have hle := cntF_le (d + 1 + 1) p (by omega)
    rw [cntF] at hle ⊢
    have h818 : (8 : Nat) ^ (d + 1 + 1) ≤ 8 ^ 18 := Nat.pow_le_pow_right (by decide) (by omega)
    have hlp := spec_alCounter_count.ok_lp (spec_alCounter_count.g (spec_alNew.fc n) n (d + 1)) (cntF (d + 1)) p (by omega) (8 ^ 18) (by decide) (p.length - 1) 0 0 true (by omega) (fun j hj hgt => ih _ (isOrd_swp ho j hj) (by rw [swp_length]; exact hl) (by have := invC_fall p j hj hgt; omega) (by omega))
    rw [show descGo p (p.length - 1) 0 = desc p from rfl] at hlp
    rw [show ((0 : Nat) : Int) = 0 from rfl] at hlp
    by_cases hz : (desc p).length = 0
    · have hds := List.length_eq_zero_iff.1 hz
      rw [hds] at hlp
      rw [hlp (by simp), if_pos hz]
      rfl
    · rw [if_neg hz] at hle
      rw [hlp (by omega), if_neg hz]
      simp only [if_neg hz, Option.bind_some, Nat.zero_add, Bool.false_eq_true, if_false]
theorem spec_alCounter_count.ok (p : List Int) (h : isOrd p = true) (h6 : p.length ≤ 6) : spec_alCounter_count.f (spec_alNew.fc p.length) p = some ((cntF 16 p : Nat) : Int) := by
  have hl := isOrd_len h
  exact spec_alCounter_count.ok_g p.length hl.2 15 p h rfl (invC_six h6) (by decide)
theorem spec_alCounter_count.ok_n (n : Nat) (h6 : n ≤ 6) (p : List Int) (h : isOrd p = true) (hl : p.length = n) : spec_alCounter_count.g (spec_alNew.fc n) n 16 p = some ((cntF 16 p : Nat) : Int) := spec_alCounter_count.ok_g n (by omega) 15 p h hl (invC_six (by omega)) (by decide)

theorem spec_l1Has.ok_l (v : Int) (xs : List Int) (hn : xs.length ≤ 140737488355328) : ∀ (d i : Nat), xs.length - i = d → spec_l1Has.l0.v v xs xs.length i = some (decide (v ∈ xs.drop i)) := by
  intro d
  induction d with
  | zero =>
    intro i hd
    rw [spec_l1Has.l0.v_eq, if_neg (cast_nlt (by omega)), List.drop_eq_nil_of_le (by omega)]
    simp
  | succ d ih =>
    intro i hd
    have h : i < xs.length := by omega
    rw [spec_l1Has.l0.v_eq, if_pos (cast_lt h), if_pos (Int.natCast_nonneg i), if_pos (cast_lt h), succ_wrap h hn, ih (i + 1) (by omega), drop_rd xs i h]
    by_cases e : rd xs (i : Int) = v
    · rw [if_pos e]; simp [e]
    · have e' : ¬ v = rd xs (i : Int) := fun h => e h.symm
      rw [if_neg e]; simp [e']
theorem spec_l1Has.ok (v : Int) (xs : List Int) (hn : xs.length ≤ 140737488355328) : spec_l1Has.f.v xs v = some (decide (v ∈ xs)) := by
  rw [spec_l1Has.f.v_eq]
  have := spec_l1Has.ok_l v xs hn xs.length 0 (by omega)
  simpa using this

theorem spec_laOrder.ok_l (p : List Int) (hn : p.length ≤ 8) : ∀ (d i : Nat), p.length - i = d → spec_laOrder.l0.v p p p.length i = some (ordGo p.length (p.take i) (p.drop i)) := by
  intro d
  induction d with
  | zero =>
    intro i hd
    rw [spec_laOrder.l0.v_eq, if_neg (cast_nlt (by omega)), List.drop_eq_nil_of_le (by omega)]
    rfl
  | succ d ih =>
    intro i hd
    have h : i < p.length := by omega
    rw [spec_laOrder.l0.v_eq, if_pos (cast_lt h), if_pos (Int.natCast_nonneg i), if_pos (cast_lt h), succ_wrap h (by omega), ih (i + 1) (by omega), drop_rd p i h, take_rd p i h]
    rw [wrap_id (x := (p.length : Int) - 1) (by omega) (by omega), toNat_cast, spec_l1Has.ok _ _ (by rw [List.length_take]; omega)]
    unfold spec_l1In.f
    rw [ordGo_cons]
    by_cases a : 0 ≤ rd p (i : Int)
    · by_cases b : rd p (i : Int) ≤ (p.length : Int) - 1
      · have hi : (i : Int) ≤ (p.length : Int) := by omega
        by_cases c : rd p (i : Int) ∈ p.take i
        · simp only [ge_iff_le, a, b, c, hi, decide_true, decide_false, if_true, if_false, Option.bind_some, true_and, and_true, and_self, Bool.false_eq_true]
        · simp only [ge_iff_le, a, b, c, hi, decide_true, decide_false, if_true, if_false, Option.bind_some, true_and, and_true, and_self, Bool.false_eq_true]
      · simp [a, b]
    · simp [a]
theorem spec_laOrder.ok (p : List Int) : spec_laOrder.f.v p = some (isOrd p) := by
  rw [spec_laOrder.f.v_eq]
  unfold spec_l1In.f isOrd
  by_cases h : 1 ≤ p.length ∧ p.length ≤ 8
  · have := spec_laOrder.ok_l p h.2 p.length 0 (by omega)
    have h1 : (p.length : Int) ≥ 1 := by omega
    have h2 : (p.length : Int) ≤ 8 := by omega
    rw [if_pos h1, if_pos h, decide_eq_true h2]
    simpa using this
  · rw [if_neg h]
    by_cases h1 : (p.length : Int) ≥ 1
    · have h2 : ¬ (p.length : Int) ≤ 8 := by omega
      rw [if_pos h1, decide_eq_false h2]; rfl
    · rw [if_neg h1]; rfl

theorem spec_alGood.ok (p : List Int) : spec_alGood.f.v p = some (cntd p) := by
  rw [spec_alGood.f.v_eq, spec_laOrder.ok, Option.bind_some]
  unfold cntd
  cases h : isOrd p
  · rfl
  · rw [if_pos rfl]
    unfold spec_l1In.f
    by_cases h2 : (p.length : Int) ≥ 2
    · rw [if_pos h2, Option.bind_some]
      have : decide (2 ≤ p.length) = true := decide_eq_true (by omega)
      rw [this]
      congr 1
      simp only [Bool.true_and]
      exact decide_eq_decide.2 (by omega)
    · rw [if_neg h2, Option.bind_some]
      have : decide (2 ≤ p.length) = false := decide_eq_false (by omega)
      rw [this]; rfl

theorem spec_alList.ok_l1 (p : List Int) (b : Bool) (x : Int) (L : List (List Int)) (hL : L.length ≤ 100000) (hs : ∀ r ∈ L, r.length ≤ 1000) : ∀ (d i : Nat) (acc : List (List Int)), i + d = L.length → acc.length + d ≤ 100000 → spec_alList.l1.v p acc b x L (L.length : Int) (i : Int) = spec_alList.l0.v p (acc ++ (L.drop i).map fun r => x :: r) b (wrap64 (x + 1)) := by
  intro d
  induction d with
  | zero => intro i acc hi ha; rw [spec_alList.l1.v_eq, if_neg (by omega), List.drop_eq_nil_of_le (by omega), List.map_nil, List.append_nil]
  | succ d ih =>
    intro i acc hi ha
    have h : i < L.length := by omega
    have e : rd_L1 L (i : Int) = L[i] := by
      unfold rd_L1
      rw [Int.toNat_natCast, List.getD_eq_getElem?_getD, List.getElem?_eq_getElem h, Option.getD_some]
    have hm := hs _ (List.getElem_mem h)
    rw [spec_alList.l1.v_eq, if_pos (cast_lt h), if_pos (Int.natCast_nonneg _), if_pos (cast_lt h), Option.bind_some, e, if_pos (by simp; omega), if_pos (by omega), succ_wrap h (by omega), ih (i + 1) _ (by omega) (by simp; omega), List.drop_eq_getElem_cons h, List.map_cons, List.append_assoc]
    rfl
theorem spec_alList.ok_l0 (p : List Int) (hp : isOrd p = true) (c : List Int → List (List Int)) (hg : ∀ j : Nat, j + 1 < p.length → rd p (j : Int) > rd p ((j : Int) + 1) → spec_alList.f.v (swp p j (j + 1)) = some (c (swp p j (j + 1))) ∧ (c (swp p j (j + 1))).length ≤ 100000 ∧ ∀ r ∈ c (swp p j (j + 1)), r.length ≤ 1000) : ∀ (m i : Nat) (acc : List (List Int)) (b : Bool), i + m + 1 = p.length → acc.length + ((descGo p m i).map fun x => (c (swp p x.toNat (x.toNat + 1))).length).sum ≤ 100000 → spec_alList.l0.v p acc b (i : Int) = some (if b = true ∧ (descGo p m i).length = 0 then [[]] else acc ++ (descGo p m i).flatMap fun x => (c (swp p x.toNat (x.toNat + 1))).map fun r => x :: r) := by
  have h8 := (isOrd_len hp).2
  intro m
  induction m with
  | zero =>
    intro i acc b hi ha
    rw [spec_alList.l0.v_eq, wrap_id (by omega) (by omega), if_neg (by omega), descGo]
    cases b
    · rw [if_neg Bool.false_ne_true, if_neg (by simp)]; simp
    · rw [if_pos rfl, if_pos (by simp)]
  | succ m ih =>
    intro i acc b hi ha
    have e := rd_adj hp i (by omega)
    rw [spec_alList.l0.v_eq, wrap_id (x := (i : Int) + 1) (by omega) (by omega), if_pos (by omega), if_pos (by omega), if_pos (by omega), if_pos (by omega), descGo]
    rw [descGo] at ha
    rw [show (i : Int) + 1 = ((i + 1 : Nat) : Int) by omega] at *
    by_cases d : rd p (i : Int) > rd p ((i + 1 : Nat) : Int)
    · rw [if_pos d] at ha ⊢
      rw [List.map_cons, List.sum_cons, Int.toNat_natCast] at ha
      obtain ⟨g1, g2, g3⟩ := hg i (by omega) (by rw [show (i : Int) + 1 = ((i + 1 : Nat) : Int) by omega]; exact d)
      rw [if_neg (by omega), spec_alSwap.ok p i (by omega) (by omega), Option.bind_some, g1, Option.bind_some]
      have h1 := spec_alList.ok_l1 p false (i : Int) _ g2 g3 (c (swp p i (i + 1))).length 0 acc (by omega) (by omega)
      rw [show ((0 : Nat) : Int) = 0 from rfl, List.drop_zero] at h1
      rw [h1, wrap_id (x := (i : Int) + 1) (by omega) (by omega), show (i : Int) + 1 = ((i + 1 : Nat) : Int) by omega, ih (i + 1) _ false (by omega) (by simp; omega), if_neg (by simp), if_neg (by simp)]
      simp
    · rw [if_neg d] at ha ⊢
      rw [if_pos (by omega), ih (i + 1) acc b (by omega) ha]
theorem spec_alList.ok : ∀ (d : Nat) (p : List Int), isOrd p = true → invC p < d → d ≤ 100 → cntF d p ≤ 100000 → spec_alList.f.v p = some (listF d p) := by
  intro d
  induction d with
  | zero => intro p _ h; omega
  | succ d ih =>
    intro p hp hd h1 hc
    have hl := (isOrd_len hp).1
    have hcs : ((desc p).map fun x => (listF d (swp p x.toNat (x.toNat + 1))).length).sum ≤ 100000 := by
      simp only [listF_length]
      by_cases h0 : (desc p).length = 0
      · rw [List.length_eq_zero_iff.1 h0]; simp
      · rw [cntF, if_neg h0] at hc; exact hc
    rw [spec_alList.f.v_eq]
    have h2 := spec_alList.ok_l0 p hp (listF d) (fun j hj hr => by
      have hf := invC_fall p j hj hr
      have hm := cnt_part (d := d) (mem_desc hj hr)
      rw [Int.toNat_natCast] at hm
      exact ⟨ih _ (isOrd_swp hp j hj) (by omega) (by omega) (by omega), by rw [listF_length]; omega, fun r hr => by have := listF_short d _ r hr; omega⟩) (p.length - 1) 0 [] true (by omega) (by rw [List.length_nil, Nat.zero_add]; exact hcs)
    rw [show ((0 : Nat) : Int) = 0 from rfl] at h2
    rw [h2]
    show some (if true = true ∧ (desc p).length = 0 then [[]] else [] ++ (desc p).flatMap _) = _
    rw [listF]
    by_cases h0 : (desc p).length = 0
    · rw [if_pos h0, if_pos ⟨rfl, h0⟩]
    · rw [if_neg h0, if_neg (fun x => h0 x.2), List.nil_append]

theorem spec_alAsked.ok (p : List Int) : spec_alAsked.f p = some (if cntd p = true ∧ cntF 16 p ≤ 800 then (listF 16 p, true) else ([], false)) := by
  unfold spec_alAsked.f
  rw [show (spec_alAsked.ev fun k => spec_alGood.f k p) = spec_alGood.f.v p from rfl, spec_alGood.ok, Option.bind_some]
  by_cases h : cntd p = true
  · have hc := cntd_iff.1 h
    have h6 := invC_six hc.2.2
    rw [if_pos h, if_pos (by omega), spec_alCounter_count.ok p hc.1 hc.2.2, Option.bind_some]
    by_cases c : cntF 16 p ≤ 800
    · rw [if_neg (by omega), if_pos ⟨h, c⟩, show (spec_alAsked.ev fun k => spec_alList.f k p) = spec_alList.f.v p from rfl, spec_alList.ok 16 p hc.1 (by omega) (by omega) (by omega)]; rfl
    · rw [if_pos (by omega), if_neg (fun x => c x.2)]
  · rw [if_neg h, if_neg (fun x => h x.1)]

theorem spec_alLadders.ok_l (n : Int) (L : List (List Int)) (hL : L.length ≤ 100000) : ∀ (d i : Nat) (acc : List S31), i + d = L.length → acc.length + d ≤ 100000 → spec_alLadders.l0.v n acc L (L.length : Int) (i : Int) = some (acc ++ (L.drop i).map fun r => (⟨n, r⟩ : S31)) := by
  intro d
  induction d with
  | zero => intro i acc hi ha; rw [spec_alLadders.l0.v_eq, if_neg (by omega), List.drop_eq_nil_of_le (by omega), List.map_nil, List.append_nil]
  | succ d ih =>
    intro i acc hi ha
    have h : i < L.length := by omega
    have e : rd_L1 L (i : Int) = L[i] := by
      unfold rd_L1
      rw [Int.toNat_natCast, List.getD_eq_getElem?_getD, List.getElem?_eq_getElem h, Option.getD_some]
    rw [spec_alLadders.l0.v_eq, if_pos (cast_lt h), if_pos (Int.natCast_nonneg _), if_pos (cast_lt h), e, if_pos (by omega), succ_wrap h (by omega), ih (i + 1) _ (by omega) (by simp; omega), List.drop_eq_getElem_cons h, List.map_cons, List.append_assoc]
    rfl
theorem spec_alLadders.ok (n : Int) (L : List (List Int)) (hL : L.length ≤ 100000) : spec_alLadders.f.v n L = some (L.map fun r => (⟨n, r⟩ : S31)) := by
  have h := spec_alLadders.ok_l n L hL L.length 0 [] (by omega) (by simp; omega)
  rw [show ((0 : Nat) : Int) = 0 from rfl, List.drop_zero, List.nil_append] at h
  rw [spec_alLadders.f.v_eq, h]

theorem spec_AllLeast.ok (p : List Int) : spec_AllLeast.f.v p = some (if cntd p = true ∧ cntF 16 p ≤ 800 then ((listF 16 p).map fun r => (⟨(p.length : Int), r⟩ : S31), true) else ([], false)) := by
  rw [spec_AllLeast.f.v_eq, spec_alAsked.ok, Option.bind_some]
  by_cases h : cntd p = true ∧ cntF 16 p ≤ 800
  · rw [if_pos h, if_pos h, if_pos rfl, spec_alLadders.ok _ _ (by rw [listF_length]; omega)]; rfl
  · rw [if_neg h, if_neg h, if_neg (by simp)]

theorem FnExactAllLeast.size_le (n : Int) (m : Nat) : ∀ L : List (List Int), (∀ x ∈ L, x.length ≤ m) → laws_markLadderS.size (L.map fun r => (⟨n, r⟩ : S31)) ≤ L.length * (m + 1)
  | [], _ => Nat.zero_le _
  | x :: r, h => by
    have h1 := h x (by simp)
    have h2 := FnExactAllLeast.size_le n m r (fun y hy => h y (by simp [hy]))
    simp only [List.map_cons, laws_markLadderS.size, List.length_cons, Nat.succ_mul]
    omega
theorem FnExactAllLeast : laws_FnExactAllLeast.Pure := by
  intro l _ _ _
  refine laws_FnExactAllLeast.f.ends l ?_
  rw [laws_FnExactAllLeast.f.v_eq]
  by_cases h : (l.length : Int) > 1048576
  · rw [if_pos h]
  · have hl : l.length ≤ 1048576 := by omega
    rw [if_neg h]
    obtain ⟨r, b, hs, hi, hr, hx, hz⟩ : ∃ r b, spec_AllLeast.f.v l = some (r, b) ∧ impl_AllLeast.f l = some (r, b) ∧ r.length ≤ 1000 ∧ (∀ x ∈ r, x.f1.length ≤ 1000) ∧ laws_markLadderS.size r ≤ 1048576 := by
      rw [spec_AllLeast.ok, impl_AllLeast.ok]
      split
      · rename_i hp
        have hs := listF_short 16 l
        refine ⟨_, _, rfl, rfl, by rw [List.length_map, listF_length]; omega, fun x hx => ?_, ?_⟩
        · obtain ⟨y, hy, rfl⟩ := List.mem_map.1 hx
          have := hs y hy
          show y.length ≤ 1000
          omega
        · have := FnExactAllLeast.size_le (l.length : Int) 16 (listF 16 l) (fun x hx => Nat.le_of_lt (hs x hx))
          rw [listF_length] at this
          omega
      · exact ⟨_, _, rfl, rfl, by simp, by simp, by simp [laws_markLadderS.size]⟩
    have e0 := laws_toIntS.ok l hl
    have e1 := laws_eqIntS.ok l (by omega)
    have e2 := laws_eqLadderS.ok r (by omega) (fun x hx' => Nat.le_trans (hx x hx') (by decide))
    have e3 := laws_markIntS.ok l 1 (by omega) (by omega) (by omega)
    have e4 := laws_markLadderS.ok r (by omega) hz
    have e5 := laws_heldLadderS.ok r (by omega) hz
    have n1 : ¬ ((1 : Int) + (l.length : Int) < 0) := by omega
    have n2 : ¬ ((1 : Int) + ((laws_markLadderS.size r : Nat) : Int) < 0) := by omega
    simp only [e0, hs, hi, e1, e2, e3, e4, e5, if_neg n1, if_neg n2, laws_FnExactAllLeast.j0.v_eq, laws_FnExactAllLeast.j1.v_eq, laws_FnExactAllLeast.j2.v_eq, Option.bind_some, bne_self_eq_false, Bool.false_eq_true, if_false, if_true]

end Go.Proofs.Ytnddmmjofpfmfaa.Pure
