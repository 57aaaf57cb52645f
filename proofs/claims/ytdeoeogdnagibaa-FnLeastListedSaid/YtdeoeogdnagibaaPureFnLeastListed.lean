/- laws.FnLeastListed answers true for all arguments: the plain law behind its walk. -/
import Derived.Test.YtdeoeogdnagibaaVLix1
import Derived.Test.YtdeoeogdnagibaaVLix2
import Derived.Test.YtdeoeogdnagibaaVLix3
import Derived.Test.YtdeoeogdnagibaaVLix4
import Derived.Test.YtdeoeogdnagibaaVLix5
import Derived.Test.YtdeoeogdnagibaaVLix6
import Derived.Test.YtdeoeogdnagibaaVLix7
import Derived.Test.YtdeoeogdnagibaaVLix8
import Derived.Test.YtdeoeogdnagibaaWalkFnLeastListedA
import Derived.Test.YtdeoeogdnagibaaLibFnLeastListed
namespace Go.Proofs.Ytdeoeogdnagibaa.Pure
open Go.RowKit Go.Proofs.Ytdeoeogdnagibaa.PLi Go.Proofs.YtdeoeogdnagibaaW.PrintWords Go.Proofs.YtdeoeogdnagibaaW.PrintLast Go.Proofs.YtdeoeogdnagibaaW.PrintMore Go.Proofs.YtdeoeogdnagibaaL
set_option linter.unusedVariables false
set_option linter.unusedSimpArgs false
theorem impl_descents.ok_l (p : List Int) (h1 : 1 ≤ p.length) (hp : p.length ≤ 1000) : ∀ (d i : Nat) (acc : List Int), i + 1 + d = p.length → acc.length ≤ i → impl_descents.l0.v p acc i = some (acc ++ descGo p d i) := by
 intro d
 induction d with
 | zero =>
  intro i acc hd ha
  rw [impl_descents.l0.v_eq, succ_wrap (show i < p.length by omega) (by omega), if_neg (cast_nlt (by omega)), descGo, List.append_nil]
 | succ d ih =>
  intro i acc hd ha
  rw [impl_descents.l0.v_eq, succ_wrap (show i < p.length by omega) (by omega), if_pos (cast_lt (by omega)), if_pos (Int.natCast_nonneg i), if_pos (cast_lt (by omega)), if_pos (Int.natCast_nonneg _), descGo]
  by_cases e : rd p (i : Int) > rd p ((i : Int) + 1)
  ·have e' : rd p (i : Int) > rd p ((i + 1 : Nat) : Int) := e
   rw [if_pos e', if_pos e, if_pos (by omega), ih (i + 1) _ (by omega) (by simp; omega), List.append_assoc]; rfl
  ·have e' : ¬ rd p (i : Int) > rd p ((i + 1 : Nat) : Int) := e
   rw [if_neg e', if_neg e, ih (i + 1) _ (by omega) (by omega)]
theorem impl_descents.ok (p : List Int) (h1 : 1 ≤ p.length) (hp : p.length ≤ 1000) : impl_descents.f.v p = some (desc p) := by
 rw [impl_descents.f.v_eq]
 have := impl_descents.ok_l p h1 hp (p.length - 1) 0 [] (by omega) (by simp)
 simpa [desc] using this
theorem slices_Clone_int_int.ok (l : List Int) (h : l.length ≤ 1048576) : slices_Clone_int_int.f l = some l := by
 unfold slices_Clone_int_int.f
 rw [if_pos (by omega)]
theorem impl_exchanged.ok (p : List Int) (j : Nat) (hj : j + 1 < p.length) (hp : p.length ≤ 1048576) : impl_exchanged.f p (j : Int) = some (swp p j (j + 1)) := by
 have e : wrap64 ((j : Int) + 1) = ((j + 1 : Nat) : Int) := succ_wrap (show j < p.length by omega) (by omega)
 unfold impl_exchanged.f
 rw [slices_Clone_int_int.ok p hp, Option.bind_some, e, if_pos (Int.natCast_nonneg _), if_pos (cast_lt hj), if_pos (Int.natCast_nonneg _), if_pos (cast_lt (by omega)), toNat_cast, toNat_cast]
 rfl
theorem impl_all.mono_lp {G G' : List Int → List Int → List S34 → Option (List S34)} (h : ∀ a b c r, G a b c = some r → G' a b c = some r) (l1 l2 ds : List Int) : ∀ (m i : Nat) (xs r : List S34), impl_all.lp G l1 l2 ds m i xs = some r → impl_all.lp G' l1 l2 ds m i xs = some r := by
 intro m
 induction m with
 | zero => intro i xs r hr; exact hr
 | succ m ih =>
  intro i xs r hr
  rw [impl_all.lp] at hr ⊢
  obtain ⟨c, hc, hr⟩ := Option.bind_eq_some_iff.1 hr
  rw [hc, Option.bind_some]
  by_cases h1 : c.length < 1000
  ·rw [if_pos h1] at hr ⊢
   obtain ⟨q, hq, hr⟩ := Option.bind_eq_some_iff.1 hr
   rw [hq, Option.bind_some]
   obtain ⟨ys, hy, hr⟩ := Option.bind_eq_some_iff.1 hr
   rw [h _ _ _ _ hy, Option.bind_some]
   exact ih _ _ _ hr
  ·rw [if_neg h1] at hr; cases hr
theorem impl_all.mono_g : ∀ (d : Nat) (a0 : Int) (l1 l2 : List Int) (xs r : List S34), impl_all.g d a0 l1 l2 xs = some r → impl_all.g (d + 1) a0 l1 l2 xs = some r := by
 intro d
 induction d with
 | zero => intro a0 l1 l2 xs r h; cases h
 | succ d ih =>
  intro a0 l1 l2 xs r h
  rw [impl_all.g] at h ⊢
  obtain ⟨ds, hd, h⟩ := Option.bind_eq_some_iff.1 h
  rw [hd, Option.bind_some]
  by_cases hz : ds.length = 0
  ·rw [if_pos hz] at h ⊢; exact h
  ·rw [if_neg hz] at h ⊢
   exact impl_all.mono_lp (fun a b c r hr => ih a0 a b c r hr) l1 l2 ds _ _ _ _ h
theorem impl_all.ok_lp (G : List Int → List Int → List S34 → Option (List S34)) (F : List Int → List (List Int)) (a0 : Int) (done p : List Int) (hp : p.length ≤ 8) (hdn : done.length < 1000) (ds : List Int) (hds : ∀ x ∈ ds, ∃ j : Nat, x = (j : Int) ∧ j + 1 < p.length) (M : Nat)
    (hG : ∀ (j : Nat), (j : Int) ∈ ds → ∀ xs, xs.length + (F (swp p j (j + 1))).length ≤ M → G (done ++ [(j : Int)]) (swp p j (j + 1)) xs = some (xs ++ (F (swp p j (j + 1))).map fun r => ⟨a0, (done ++ [(j : Int)]) ++ r⟩)) :
    ∀ (m i : Nat) (xs : List S34), i + m = ds.length → xs.length + ((ds.drop i).flatMap fun x => (F (swp p x.toNat (x.toNat + 1))).map fun r => x :: r).length ≤ M → impl_all.lp G done p ds m i xs = some (xs ++ ((ds.drop i).flatMap fun x => (F (swp p x.toNat (x.toNat + 1))).map fun r => x :: r).map fun r => ⟨a0, done ++ r⟩) := by
  intro m
  induction m with
  | zero => intro i xs hi hM; rw [impl_all.lp, List.drop_eq_nil_of_le (by omega)]; simp
  | succ m ih =>
    intro i xs hi hM
    have h : i < ds.length := by omega
    have hm := List.getElem_mem h
    obtain ⟨j, hj, hjl⟩ := hds ds[i] hm
    rw [List.drop_eq_getElem_cons h, List.flatMap_cons, List.length_append, List.length_map] at hM
    rw [hj] at hm
    rw [List.drop_eq_getElem_cons h, List.flatMap_cons, impl_all.lp, slices_Clone_int_int.ok done (by omega), Option.bind_some, if_pos hdn, rd_lt ds i h]
    simp only [hj, toNat_cast] at hM ⊢
    rw [impl_exchanged.ok p j hjl (by omega), Option.bind_some, hG j hm xs (by omega), Option.bind_some, ih (i + 1) _ (by omega) (by rw [List.length_append, List.length_map]; omega), List.append_assoc, List.map_append, List.map_map]
    congr 3
    apply List.map_congr_left
    intro r _
    simp
theorem impl_all.ok_g : ∀ (d : Nat) (p : List Int), isOrd p = true → p.length ≤ 6 → invC p < d → ∀ (a0 : Int) (done : List Int) (xs : List S34), done.length + d ≤ 900 → xs.length + (listF d p).length ≤ 99999 → impl_all.g d a0 done p xs = some (xs ++ (listF d p).map fun r => ⟨a0, done ++ r⟩) := by
 intro d
 induction d with
 | zero => intro p _ _ hi; omega
 | succ d ih =>
  intro p ho h6 hi a0 done xs hdn hM
  have hl := isOrd_len ho
  rw [impl_all.g, show (impl_all.ev fun k => impl_descents.f k p) = impl_descents.f.v p from rfl, impl_descents.ok p hl.1 (by omega), Option.bind_some]
  rw [listF] at hM ⊢
  by_cases hz : (desc p).length = 0
  ·rw [if_pos hz] at hM ⊢
   rw [if_pos hz, if_pos (by simp at hM; omega)]; simp
  ·rw [if_neg hz] at hM ⊢
   rw [if_neg hz]
   have := impl_all.ok_lp (fun l1' l2' xs' => impl_all.g d a0 l1' l2' xs') (listF d) a0 done p hl.2 (by omega) (desc p) (fun x hx => by
    obtain ⟨j, e, hj, _⟩ := desc_mem hx
    exact ⟨j, e, hj⟩) 99999 (fun j hm xs hx => by
    obtain ⟨j', e, hj, hr⟩ := desc_mem hm
    obtain rfl : j = j' := by omega
    have := invC_fall p j hj hr
    exact ih _ (isOrd_swp ho j hj) (by rw [swp_length]; exact h6) (by omega) a0 _ xs (by simp; omega) hx) (desc p).length 0 xs (by omega) (by rw [List.drop_zero]; exact hM)
   rw [List.drop_zero] at this
   exact this
theorem impl_counter_count.ok_sm (g : List Int → Option Int) (c : List Int → Nat) (p : List Int) (hp : p.length ≤ 8) (M : Nat) (hM : M ≤ 1152921504606846976) : ∀ (ds : List Int) (n : Nat), (∀ x ∈ ds, ∃ j : Nat, x = (j : Int) ∧ j + 1 < p.length ∧ g (swp p j (j + 1)) = some ((c (swp p j (j + 1)) : Nat) : Int)) → n + (ds.map fun x => c (swp p x.toNat (x.toNat + 1))).sum ≤ M → impl_counter_count.sm g p ds (n : Int) = some ((n + (ds.map fun x => c (swp p x.toNat (x.toNat + 1))).sum : Nat) : Int)
 | [], n, _, _ => by rw [impl_counter_count.sm]; rfl
 | x :: ds, n, h, hn => by
  obtain ⟨j, rfl, hj, hg⟩ := h x (by simp)
  rw [List.map_cons, List.sum_cons] at hn
  simp only [toNat_cast] at hn
  rw [impl_counter_count.sm, impl_exchanged.ok p j hj (by omega)]
  simp only [Option.bind_some]
  rw [hg]
  simp only [Option.bind_some]
  rw [wrap_id (by omega) (by omega), show (n : Int) + ((c (swp p j (j + 1)) : Nat) : Int) = ((n + c (swp p j (j + 1)) : Nat) : Int) by omega]
  rw [impl_counter_count.ok_sm g c p hp M hM ds _ (fun y hy => h y (by simp [hy])) (by omega), List.map_cons, List.sum_cons]
  simp only [toNat_cast]
  rw [Nat.add_assoc]
theorem impl_counter_count.ok_g : ∀ (d : Nat) (p : List Int), (∀ x ∈ p, 0 ≤ x ∧ x ≤ 100) → 1 ≤ p.length → p.length ≤ 8 → invC p ≤ d → d ≤ 16 → impl_counter_count.g (d + 1) p = some ((cntF (d + 1) p : Nat) : Int) := by
 intro d
 induction d with
 | zero =>
  intro p hg h1 h8 hi hd
  have hds : desc p = [] := by
   cases e : desc p with
   | nil => rfl
   | cons a r =>
    obtain ⟨j, _, _, _, hc⟩ := desc_head e
    omega
  rw [impl_counter_count.g, if_pos ⟨List.all_eq_true.2 fun x hx => by have := hg x hx; simp; omega, h8⟩]
  rw [show (impl_counter_count.ev fun k => impl_descents.f k p) = impl_descents.f.v p from rfl, impl_descents.ok p h1 (by omega), Option.bind_some, hds, cntF, hds]
  rfl
 | succ d ih =>
  intro p hg h1 h8 hi hd
  rw [impl_counter_count.g, if_pos ⟨List.all_eq_true.2 fun x hx => by have := hg x hx; simp; omega, h8⟩]
  rw [show (impl_counter_count.ev fun k => impl_descents.f k p) = impl_descents.f.v p from rfl, impl_descents.ok p h1 (by omega), Option.bind_some, cntF]
  by_cases hz : (desc p).length = 0
  ·rw [if_pos hz, if_pos hz]; rfl
  ·rw [if_neg hz, if_neg hz, if_pos (Nat.le_trans (desc_length p) h8)]
   have hle := cntF_le (d + 1 + 1) p h8
   rw [cntF, if_neg hz] at hle
   have h818 : (8 : Nat) ^ (d + 1 + 1) ≤ 8 ^ 18 := Nat.pow_le_pow_right (by decide) (by omega)
   have := impl_counter_count.ok_sm (impl_counter_count.g (d + 1)) (cntF (d + 1)) p h8 (8 ^ 18) (by decide) (desc p) 0 (fun x hx => by
    obtain ⟨j, e, hj, hr⟩ := desc_mem hx
    refine ⟨j, e, hj, ih _ ?_ (by rw [swp_length]; omega) (by rw [swp_length]; omega) ?_ (by omega)⟩
    ·intro y hy
     exact hg y ((swp_perm p j (j + 1) (by omega) hj).mem_iff.1 hy)
    ·have := invC_fall p j hj hr; omega) (by omega)
   rw [Nat.zero_add] at this
   exact this
theorem impl_counter_count.ok (p : List Int) (h : isOrd p = true) (h6 : p.length ≤ 6) : impl_counter_count.f p = some ((cntF 16 p : Nat) : Int) := by
 have hl := isOrd_len h
 exact impl_counter_count.ok_g 15 p (fun x hx => by have := (isOrd_all h).1 x hx; omega) hl.1 hl.2 (invC_six h6) (by decide)
theorem slices_Index_int_int.ok_l (v : Int) (xs : List Int) (hn : xs.length ≤ 140737488355328) : ∀ (d i : Nat), xs.length - i = d → ∃ r, slices_Index_int_int.l0.v xs v xs.length i = some r ∧ decide (r ≥ 0) = decide (v ∈ xs.drop i) := by
 intro d
 induction d with
 | zero =>
  intro i hd
  refine ⟨-1, ?_, ?_⟩
  ·rw [slices_Index_int_int.l0.v_eq, if_neg (cast_nlt (by omega))]
  ·rw [List.drop_eq_nil_of_le (by omega)]; simp
 | succ d ih =>
  intro i hd
  have h : i < xs.length := by omega
  obtain ⟨r, hr, hr'⟩ := ih (i + 1) (by omega)
  rw [slices_Index_int_int.l0.v_eq, if_pos (cast_lt h), if_pos (Int.natCast_nonneg i), if_pos (cast_lt h), succ_wrap h hn, hr, drop_rd xs i h]
  by_cases e : v = rd xs (i : Int)
  ·rw [if_pos e]; exact ⟨i, rfl, by simp [e, Int.natCast_nonneg]⟩
  ·rw [if_neg e]; exact ⟨r, rfl, by rw [hr']; simp [e]⟩
theorem slices_Contains_int_int.ok (v : Int) (xs : List Int) (hn : xs.length ≤ 140737488355328) : slices_Contains_int_int.f.v xs v = some (decide (v ∈ xs)) := by
 obtain ⟨r, hr, hr'⟩ := slices_Index_int_int.ok_l v xs hn xs.length 0 (by omega)
 have e : slices_Index_int_int.f.v xs v = some r := by rw [slices_Index_int_int.f.v_eq]; exact hr
 rw [slices_Contains_int_int.f.v_eq, e, Option.bind_some, hr', List.drop_zero]
theorem impl_isOrder.ok_l (p : List Int) (hn : p.length ≤ 8) : ∀ (d i : Nat), p.length - i = d → impl_isOrder.l0.v p p p.length i = some (ordGo p.length (p.take i) (p.drop i)) := by
 intro d
 induction d with
 | zero =>
  intro i hd
  rw [impl_isOrder.l0.v_eq, if_neg (cast_nlt (by omega)), List.drop_eq_nil_of_le (by omega)]
  rfl
 | succ d ih =>
  intro i hd
  have h : i < p.length := by omega
  rw [impl_isOrder.l0.v_eq, if_pos (cast_lt h), if_pos (Int.natCast_nonneg i), if_pos (cast_lt h), succ_wrap h (by omega), ih (i + 1) (by omega), drop_rd p i h, take_rd p i h]
  rw [wrap_id (x := (p.length : Int) - 1) (by omega) (by omega), toNat_cast, slices_Contains_int_int.ok _ _ (by rw [List.length_take]; omega)]
  unfold impl_between.f
  rw [ordGo_cons]
  by_cases a : 0 ≤ rd p (i : Int)
  ·by_cases b : rd p (i : Int) ≤ (p.length : Int) - 1
   ·have hi : (i : Int) ≤ (p.length : Int) := by omega
    by_cases c : rd p (i : Int) ∈ p.take i
    ·simp only [ge_iff_le, a, b, c, hi, decide_true, decide_false, if_true, if_false, Option.bind_some, true_and, and_true, and_self, Bool.false_eq_true]
    ·simp only [ge_iff_le, a, b, c, hi, decide_true, decide_false, if_true, if_false, Option.bind_some, true_and, and_true, and_self, Bool.false_eq_true]
   ·simp [a, b]
  ·simp [a]
theorem impl_isOrder.ok (p : List Int) : impl_isOrder.f.v p = some (isOrd p) := by
 rw [impl_isOrder.f.v_eq]
 unfold impl_between.f isOrd
 by_cases h : 1 ≤ p.length ∧ p.length ≤ 8
 ·have := impl_isOrder.ok_l p h.2 p.length 0 (by omega)
  have h1 : (p.length : Int) ≥ 1 := by omega
  have h2 : (p.length : Int) ≤ 8 := by omega
  rw [if_pos h1, if_pos h, decide_eq_true h2]
  simpa using this
 ·rw [if_neg h]
  by_cases h1 : (p.length : Int) ≥ 1
  ·have h2 : ¬ (p.length : Int) ≤ 8 := by omega
   rw [if_pos h1, decide_eq_false h2]; rfl
  ·rw [if_neg h1]; rfl
theorem impl_isCounted.ok (p : List Int) : impl_isCounted.f.v p = some (cntd p) := by
 rw [impl_isCounted.f.v_eq, impl_isOrder.ok, Option.bind_some]
 unfold cntd
 cases h : isOrd p
 ·rfl
 ·rw [if_pos rfl]
  unfold impl_between.f
  by_cases h2 : (p.length : Int) ≥ 2
  ·rw [if_pos h2, Option.bind_some]
   have : decide (2 ≤ p.length) = true := decide_eq_true (by omega)
   rw [this]
   congr 1
   simp only [Bool.true_and]
   exact decide_eq_decide.2 (by omega)
  ·rw [if_neg h2, Option.bind_some]
   have : decide (2 ≤ p.length) = false := decide_eq_false (by omega)
   rw [this]; rfl
theorem impl_listed.ev_of {α : Type} {g : Nat → Option α} {K : Nat} {r : α} (hm : ∀ k r, g k = some r → g (k + 1) = some r) (h : g K = some r) : impl_listed.ev g = some r := by
 have hup : ∀ (n k : Nat) (r : α), g k = some r → g (k + n) = some r := by
  intro n
  induction n with
  | zero => intro k r h; exact h
  | succ n ih => intro k r h; exact hm _ _ (ih k r h)
 have hx : ∃ k r, g k = some r := ⟨K, r, h⟩
 unfold impl_listed.ev
 rw [dif_pos hx]
 obtain ⟨r', hr'⟩ := hx.choose_spec
 have e1 := hup K _ _ hr'
 have e2 := hup hx.choose _ _ h
 rw [Nat.add_comm, e2] at e1
 rw [hr', Option.some.inj e1]
theorem impl_listed.ok (p : List Int) : impl_listed.f p = some (if cntd p = true ∧ cntF 16 p ≤ 800 then ((listF 16 p).map fun r => (⟨(p.length : Int), r⟩ : S34), true) else ([], false)) := by
 unfold impl_listed.f
 rw [show (impl_listed.ev fun k => impl_isCounted.f k p) = impl_isCounted.f.v p from rfl, impl_isCounted.ok, Option.bind_some]
 by_cases h : cntd p = true
 ·have hc := cntd_iff.1 h
  have h6 := invC_six hc.2.2
  rw [if_pos h, impl_counter_count.ok p hc.1 hc.2.2, Option.bind_some]
  by_cases c : cntF 16 p ≤ 800
  ·have hg := impl_all.ok_g 16 p hc.1 hc.2.2 (by omega) (p.length : Int) [] [] (by simp) (by rw [listF_length]; simp; omega)
   rw [if_neg (by omega), if_pos ⟨h, c⟩, impl_listed.ev_of (fun k r => impl_all.mono_g k _ _ _ _ r) hg, Option.bind_some]
   simp
  ·rw [if_pos (by omega), if_neg (fun x => c x.2)]
 ·rw [if_neg h, if_neg (fun x => h x.1)]
theorem impl_AllLeast.ok (p : List Int) : impl_AllLeast.f p = some (if cntd p = true ∧ cntF 16 p ≤ 800 then ((listF 16 p).map fun r => (⟨(p.length : Int), r⟩ : S34), true) else ([], false)) := by
 unfold impl_AllLeast.f
 rw [impl_listed.ok]; rfl
theorem impl_CountFirst.ok (p : List Int) (a : Int) : impl_CountFirst.f p a = some (if cntd p = true then (if 0 ≤ a ∧ a ≤ (p.length : Int) - 2 then (if rd p a < rd p (a + 1) then (0, true) else (((cntF 16 (swp p a.toNat (a.toNat + 1)) : Nat) : Int), true)) else (0, false)) else (0, false)) := by
 unfold impl_CountFirst.f
 rw [show (impl_CountFirst.ev fun k => impl_isCounted.f k p) = impl_isCounted.f.v p from rfl, impl_isCounted.ok, Option.bind_some]
 by_cases h : cntd p = true
 ·have hc := cntd_iff.1 h
  have hl := isOrd_len hc.1
  rw [if_pos h, if_pos h, wrap_id (by omega) (by omega)]
  have hb : impl_between.f a 0 ((p.length : Int) - 2) = some (decide (0 ≤ a ∧ a ≤ (p.length : Int) - 2)) := by
   unfold impl_between.f
   by_cases h0 : a ≥ 0
   ·rw [if_pos h0]
    congr 1
    exact decide_eq_decide.2 ⟨fun h => ⟨h0, h⟩, fun h => h.2⟩
   ·rw [if_neg h0, decide_eq_false (fun h => h0 h.1)]
  rw [hb, Option.bind_some]
  by_cases hr : 0 ≤ a ∧ a ≤ (p.length : Int) - 2
  ·obtain ⟨j, rfl⟩ := Int.eq_ofNat_of_zero_le hr.1
   rw [if_pos (decide_eq_true hr), if_pos hr, if_pos ⟨by omega, by omega, by omega⟩]
   by_cases hlt : rd p (j : Int) < rd p ((j : Int) + 1)
   ·rw [if_pos hlt, if_pos hlt]
   ·rw [if_neg hlt, if_neg hlt, impl_exchanged.ok p j (by omega) (by omega), Option.bind_some, toNat_cast]
    rw [impl_counter_count.ok _ (isOrd_swp hc.1 j (by omega)) (by rw [swp_length]; omega)]
    rfl
  ·rw [if_neg (by simpa using hr), if_neg hr]
 ·rw [if_neg h, if_neg h]
theorem impl_CountLeast.ok (p : List Int) : impl_CountLeast.f p = some (if cntd p = true then (((cntF 16 p : Nat) : Int), true) else (0, false)) := by
 unfold impl_CountLeast.f
 rw [show (impl_CountLeast.ev fun k => impl_isCounted.f k p) = impl_isCounted.f.v p from rfl, impl_isCounted.ok, Option.bind_some]
 by_cases h : cntd p = true
 ·have hc := cntd_iff.1 h
  rw [if_pos h, if_pos h, impl_counter_count.ok p hc.1 hc.2.2]; rfl
 ·rw [if_neg h, if_neg h]
theorem impl_inverted.ok_i (p : List Int) (hp : p.length ≤ 8) (i : Nat) (hi : i < p.length) : ∀ (d j : Nat) (acc : List (List Int)), j + d = p.length → acc.length + d ≤ 1000 → impl_inverted.l1.v p acc i j p.length i = impl_inverted.l0.v p (acc ++ invRow p i j d) p.length ((i + 1 : Nat) : Int) := by
 intro d
 induction d with
 | zero =>
  intro j acc hd ha
  rw [impl_inverted.l1.v_eq, if_neg (cast_nlt (by omega)), succ_wrap hi (by omega), invRow, List.append_nil]
 | succ d ih =>
  intro j acc hd ha
  have hj : j < p.length := by omega
  rw [impl_inverted.l1.v_eq, if_pos (cast_lt hj), if_pos (Int.natCast_nonneg i), if_pos (cast_lt hi), if_pos (Int.natCast_nonneg j), succ_wrap hj (by omega), invRow]
  by_cases e : rd p (i : Int) > rd p (j : Int)
  ·rw [if_pos e, if_pos e, if_pos (by omega), ih (j + 1) _ (by omega) (by simp; omega), List.append_assoc]; rfl
  ·rw [if_neg e, if_neg e, ih (j + 1) _ (by omega) (by omega)]
theorem impl_inverted.ok_o (p : List Int) (hp : p.length ≤ 8) : ∀ (d i : Nat) (acc : List (List Int)), i + d = p.length → acc.length + d * p.length ≤ 900 → impl_inverted.l0.v p acc p.length i = some (acc ++ invFrom p i d) := by
 intro d
 induction d with
 | zero =>
  intro i acc hd ha
  rw [impl_inverted.l0.v_eq, if_neg (cast_nlt (by omega)), invFrom, List.append_nil]
 | succ d ih =>
  intro i acc hd ha
  have hi : i < p.length := by omega
  rw [Nat.succ_mul] at ha
  have h1 := invRow_length p i (p.length - (i + 1)) (i + 1)
  rw [impl_inverted.l0.v_eq, if_pos (cast_lt hi), succ_wrap hi (by omega), impl_inverted.ok_i p hp i hi (p.length - (i + 1)) (i + 1) acc (by omega) (by omega), ih (i + 1) _ (by omega) (by rw [List.length_append]; omega), invFrom, List.append_assoc]
theorem impl_inverted.ok (p : List Int) (hp : p.length ≤ 8) : impl_inverted.f.v p = some (invs p) := by
 rw [impl_inverted.f.v_eq]
 have h2 : p.length * p.length ≤ 8 * 8 := Nat.mul_le_mul hp hp
 have := impl_inverted.ok_o p hp p.length 0 [] (by omega) (by simp; omega)
 simpa [invs] using this
theorem impl_inversions.ok (p : List Int) (hp : p.length ≤ 8) : impl_inversions.f.v p = some ((invs p).length : Int) := by
 rw [impl_inversions.f.v_eq, impl_inverted.ok p hp]; rfl
theorem impl_InversionsOf.ok (p : List Int) : impl_InversionsOf.f.v p = some (if isOrd p = true then (((invs p).length : Int), true) else (0, false)) := by
 rw [impl_InversionsOf.f.v_eq, impl_isOrder.ok, Option.bind_some]
 by_cases h : isOrd p = true
 ·rw [if_pos h, if_pos h, impl_inversions.ok p (isOrd_len h).2]; rfl
 ·rw [if_neg h, if_neg h]
theorem impl_isLadder.ok (n : Int) (l : List Int) : impl_isLadder.f n l = some (good n l) := by
 unfold impl_isLadder.f good
 have h : (!(l.any (impl_isLadder.bad n))) = l.all (inB n) := by
  rw [List.not_any_eq_all_not]
  congr 1; funext x
  unfold impl_isLadder.bad inB
  exact Bool.not_not _
 rw [h]
theorem impl_over.ok (w r : Int) (h0 : -1000 ≤ r) (h1 : r ≤ 1000) : impl_over.f w r = some (over w r) := by
 unfold impl_over.f over
 rw [wrap_id (x := r + 1) (by omega) (by omega)]
 by_cases a : w = r
 ·rw [if_pos a, if_pos a]
 ·rw [if_neg a, if_neg a]
  by_cases b : w = r + 1
  ·rw [if_pos b, if_pos b]
  ·rw [if_neg b, if_neg b]
theorem impl_way.ok_l (xs : List Int) (hn : xs.length ≤ 1000) (hb : ∀ x ∈ xs, -1000 ≤ x ∧ x ≤ 1000) : ∀ (d i : Nat) (w : Int) (acc : List Int), i + d = xs.length → acc.length ≤ i + 1 → impl_way.l0.v w acc xs xs.length i = some (acc ++ wayT w (xs.drop i)) := by
 intro d
 induction d with
 | zero =>
  intro i w acc hd ha
  rw [impl_way.l0.v_eq, if_neg (cast_nlt (by omega)), List.drop_eq_nil_of_le (by omega), wayT, List.append_nil]
 | succ d ih =>
  intro i w acc hd ha
  have h : i < xs.length := by omega
  obtain ⟨h0, h1⟩ := hb _ (rd_mem xs i h)
  rw [impl_way.l0.v_eq, if_pos (cast_lt h), if_pos (Int.natCast_nonneg i), if_pos (cast_lt h), impl_over.ok w _ h0 h1, Option.bind_some, if_pos (by omega), succ_wrap h (by omega), ih (i + 1) _ _ (by omega) (by simp; omega), drop_rd xs i h, wayT, List.append_assoc]
  rfl
theorem impl_way.ok (n : Int) (xs : List Int) (w : Int) (hn : xs.length ≤ 1000) (hb : ∀ x ∈ xs, -1000 ≤ x ∧ x ≤ 1000) : impl_way.f.v n xs w = some (wayL w xs) := by
 rw [impl_way.f.v_eq]
 have := impl_way.ok_l xs hn hb xs.length 0 w [w] (by omega) (by simp)
 simpa [wayL] using this
theorem good_wide' {n : Int} {l : List Int} (h : good n l = true) : l.length ≤ 1000 ∧ ∀ x ∈ l, -1000 ≤ x ∧ x ≤ 1000 := by
 obtain ⟨_, h2, h3, h4⟩ := good_iff.1 h
 exact ⟨by omega, fun x hx => by have := h4 x hx; omega⟩
theorem impl_result.ok_l (n : Int) (l : List Int) (hg : good n l = true) : ∀ (d i : Nat) (acc : List Int), i + d = n.toNat → acc.length ≤ i → impl_result.l0.v n l acc n i = some (acc ++ resGo l d i) := by
 obtain ⟨g1, g2, _, _⟩ := good_iff.1 hg
 obtain ⟨h1, h2⟩ := good_wide' hg
 intro d
 induction d with
 | zero =>
  intro i acc hd ha
  rw [impl_result.l0.v_eq, if_neg (by omega), resGo, List.append_nil]
 | succ d ih =>
  intro i acc hd ha
  rw [impl_result.l0.v_eq, if_pos (by omega), impl_way.ok n l _ h1 h2, Option.bind_some, wayL_length, wrap_id (x := ((l.length + 1 : Nat) : Int) - 1) (by omega) (by omega), show ((l.length + 1 : Nat) : Int) - 1 = (l.length : Int) by omega, if_pos (Int.natCast_nonneg _), if_pos (by omega), if_pos (by omega), wayL_last, succ_wrap (show i < n.toNat by omega) (by omega), ih (i + 1) _ (by omega) (by simp; omega), resGo, List.append_assoc]; rfl
theorem impl_result.ok (n : Int) (l : List Int) (hg : good n l = true) : impl_result.f.v n l = some (resL n l) := by
 rw [impl_result.f.v_eq]
 have := impl_result.ok_l n l hg n.toNat 0 [] (by omega) (by simp)
 simpa [resL] using this
theorem impl_needless.ok (n : Int) (l : List Int) (hg : good n l = true) : impl_needless.f.v n l = some (needL n l) := by
 obtain ⟨g1, g2, _, _⟩ := good_iff.1 hg
 have hb := needL_bounds hg
 unfold needL at hb
 rw [impl_needless.f.v_eq, impl_result.ok n l hg, Option.bind_some, impl_inversions.ok _ (by rw [resL_length]; omega), Option.bind_some, wrap_id (by omega) (by omega)]; rfl
theorem impl_IsLeast.ok (n : Int) (l : List Int) : impl_IsLeast.f.v n l = some (if good n l = true then (needL n l == 0, true) else (false, false)) := by
 rw [impl_IsLeast.f.v_eq, impl_isLadder.ok, Option.bind_some]
 by_cases h : good n l = true
 ·rw [if_pos h, if_pos h, impl_needless.ok n l h]; rfl
 ·rw [if_neg h, if_neg h]
theorem impl_least.ok_l (n : Int) : ∀ (k : Nat) (p acc : List Int), invC p = k → 1 ≤ p.length → p.length ≤ 8 → acc.length + k ≤ 1000 → impl_least.l0.v p (desc p) n acc = some (n, acc ++ leastL p) := by
 intro k
 induction k with
 | zero =>
  intro p acc hk h1 h8 ha
  cases e : desc p with
  | nil => rw [impl_least.l0.v_eq, if_neg (by simp), leastL_nil e, List.append_nil]
  | cons a r => obtain ⟨j, _, _, _, hc⟩ := desc_head e; omega
 | succ k ih =>
  intro p acc hk h1 h8 ha
  cases e : desc p with
  | nil => rw [impl_least.l0.v_eq, if_neg (by simp), leastL_nil e, List.append_nil]
  | cons a r =>
   rw [leastL_cons e]
   obtain ⟨j, rfl, hj, hr, hc⟩ := desc_head e
   have e0 : rd ((j : Int) :: r) 0 = (j : Int) := rfl
   rw [impl_least.l0.v_eq, if_pos (by simp), if_pos (by simp), if_pos (by omega), e0, impl_exchanged.ok p j hj (by omega), Option.bind_some, impl_descents.ok _ (by rw [swp_length]; omega) (by rw [swp_length]; omega), Option.bind_some, ih _ _ (by omega) (by rw [swp_length]; omega) (by rw [swp_length]; omega) (by simp; omega), List.append_assoc, toNat_cast]
   rfl
theorem impl_least.ok (p : List Int) (h1 : 1 ≤ p.length) (h8 : p.length ≤ 8) : impl_least.f.v p = some ((p.length : Int), leastL p) := by
 have := invC_le p h8
 rw [impl_least.f.v_eq, impl_descents.ok p h1 (by omega), Option.bind_some, impl_least.ok_l _ _ p [] rfl h1 h8 (by simp; omega), List.nil_append]
theorem impl_LeastLadder.ok (p : List Int) : impl_LeastLadder.f.v p = some (if isOrd p = true ∧ 2 ≤ p.length then ((p.length : Int), leastL p, true) else (0, [], false)) := by
 rw [impl_LeastLadder.f.v_eq, impl_isOrder.ok, Option.bind_some]
 by_cases h : isOrd p = true
 ·have hl := isOrd_len h
  by_cases h2 : 2 ≤ p.length
  ·rw [if_pos h, if_neg (by omega), if_pos ⟨h, h2⟩, impl_least.ok p hl.1 hl.2]; rfl
  ·rw [if_pos h, if_pos (by omega), if_neg (fun x => h2 x.2)]
 ·rw [if_neg h, if_neg (fun x => h x.1)]
theorem impl_LeastOfRank.dv (p : List Int) (h1 : 1 ≤ p.length) (h8 : p.length ≤ 8) : (impl_LeastOfRank.ev fun k_ => impl_descents.f k_ p) = some (desc p) := by
 rw [show (impl_LeastOfRank.ev fun k_ => impl_descents.f k_ p) = impl_descents.f.v p from rfl]
 exact impl_descents.ok p h1 (by omega)
theorem impl_LeastOfRank.ok_i (n : Int) (p : List Int) (ho : isOrd p = true) (h6 : p.length ≤ 6) (out : List Int) (hout : out.length ≤ 1000) (x : Int) (r' : Nat) : ∀ (d i r k : Nat), i + d = (desc p).length → pickL p ((desc p).drop i) r = some (x, r') → r ≤ 1152921504606846976 → d + 1 ≤ k → ∃ k', k ≤ k' + d + 1 ∧ impl_LeastOfRank.l1 k p (r : Int) 0 (desc p) ((desc p).length : Int) (i : Int) n out = impl_LeastOfRank.l0 k' (swp p x.toNat (x.toNat + 1)) (r' : Int) 0 (desc (swp p x.toNat (x.toNat + 1))) n (out ++ [x]) := by
 have hl := isOrd_len ho
 have hdl := desc_length p
 intro d
 induction d with
 | zero => intro i r k hd hp; rw [List.drop_eq_nil_of_le (by omega)] at hp; cases hp
 | succ d ih =>
  intro i r k hd hp hr hk
  have hi : i < (desc p).length := by omega
  rw [drop_rd (desc p) i hi, pickL] at hp
  obtain ⟨k, rfl⟩ : ∃ m, k = m + 1 := ⟨k - 1, by omega⟩
  obtain ⟨j, ej, hj, hf⟩ := desc_mem (rd_mem (desc p) i hi)
  rw [impl_LeastOfRank.l1, if_pos (by omega), if_pos (by omega), if_pos (by omega)]
  have hc := cnt16_le p (rd (desc p) (i : Int)) (by omega)
  have h8 : (8 : Nat) ^ 16 = 281474976710656 := by decide
  have hcn : impl_counter_count.f (swp p j (j + 1)) = some ((cnt16 p (rd (desc p) (i : Int)) : Nat) : Int) := by
   rw [impl_counter_count.ok _ (isOrd_swp ho j hj) (by rw [swp_length]; exact h6), ej]; rfl
  generalize hx : rd (desc p) (i : Int) = y at *
  subst ej
  rw [impl_exchanged.ok p j hj (by omega)]
  simp only [Option.bind_some]
  rw [hcn]
  simp only [Option.bind_some]
  by_cases e : r < cnt16 p (j : Int)
  ·rw [if_pos e] at hp
   obtain ⟨rfl, rfl⟩ : (j : Int) = x ∧ r = r' := by simpa using hp
   rw [if_neg (by omega), if_pos (by omega), impl_LeastOfRank.dv _ (by rw [swp_length]; omega) (by rw [swp_length]; omega)]
   exact ⟨k, by omega, rfl⟩
  ·rw [if_neg e] at hp
   rw [if_pos (by omega), wrap_id (by omega) (by omega), show (r : Int) - ((cnt16 p (j : Int) : Nat) : Int) = ((r - cnt16 p (j : Int) : Nat) : Int) by omega, succ_wrap hi (by omega)]
   obtain ⟨k', h1, h2⟩ := ih (i + 1) (r - cnt16 p (j : Int)) k (by omega) hp (by omega) (by omega)
   exact ⟨k', by omega, h2⟩
theorem impl_LeastOfRank.ok_o (n : Int) : ∀ (m : Nat) (p : List Int) (r k : Nat) (out : List Int), invC p = m → isOrd p = true → p.length ≤ 6 → r < cntF 16 p → 10 * m + 1 ≤ k → out.length + m ≤ 100 → impl_LeastOfRank.l0 k p (r : Int) 0 (desc p) n out = some (n, out ++ lorF m p r, true) := by
 intro m
 induction m with
 | zero =>
  intro p r k out hm ho h6 hr hk hout
  have hd : desc p = [] := by
   cases e : desc p with
   | nil => rfl
   | cons a t => obtain ⟨j, _, _, _, hc⟩ := desc_head e; omega
  obtain ⟨k, rfl⟩ : ∃ z, k = z + 1 := ⟨k - 1, by omega⟩
  rw [impl_LeastOfRank.l0, hd, if_neg (by simp), lorF, List.append_nil]
 | succ m ih =>
  intro p r k out hm ho h6 hr hk hout
  have hdn : desc p ≠ [] := fun e => by have := desc_nil_inv e ho; omega
  have h15 := invC_six h6
  have h8 : (8 : Nat) ^ 16 = 281474976710656 := by decide
  have hcl := cntF_le 16 p (by omega)
  rw [cntF_sum h15 hdn] at hr
  obtain ⟨x, r', hp, hx, hr'⟩ := pickL_some p (desc p) r hr
  rw [← cntF_sum h15 hdn] at hr
  obtain ⟨k, rfl⟩ : ∃ z, k = z + 1 := ⟨k - 1, by omega⟩
  have hpos := List.length_pos_iff.2 hdn
  have hdl := desc_length p
  rw [impl_LeastOfRank.l0, if_pos (by omega)]
  obtain ⟨k', h1, h2⟩ := impl_LeastOfRank.ok_i n p ho h6 out (by omega) x r' (desc p).length 0 r k (by omega) (by rw [List.drop_zero]; exact hp) (by omega) (by omega)
  rw [show ((0 : Nat) : Int) = 0 from rfl] at h2
  rw [h2]
  obtain ⟨j, rfl, hj, hf⟩ := desc_mem hx
  have hi := invC_fall p j hj hf
  rw [toNat_cast, ih (swp p j (j + 1)) r' k' _ (by omega) (isOrd_swp ho j hj) (by rw [swp_length]; exact h6) (by unfold cnt16 at hr'; rw [toNat_cast] at hr'; exact hr') (by omega) (by simp; omega), lorF, hp]
  simp
theorem impl_LeastOfRank.ok (p : List Int) (r : Int) (hr0 : -9223372036854775808 ≤ r) (hr1 : r ≤ 9223372036854775807) : impl_LeastOfRank.f p r = some (lorM p r) := by
 unfold impl_LeastOfRank.f impl_LeastOfRank.g lorM
 rw [show (impl_LeastOfRank.ev fun k_ => impl_isCounted.f k_ p) = impl_isCounted.f.v p from rfl, impl_isCounted.ok, Option.bind_some]
 by_cases h : cntd p = true
 ·have hc := cntd_iff.1 h
  have hcl := cntF_le 16 p (by omega)
  have h8 : (8 : Nat) ^ 16 = 281474976710656 := by decide
  rw [if_pos h, impl_counter_count.ok p hc.1 hc.2.2]
  simp only [Option.bind_some]
  rw [wrap_id (by omega) (by omega)]
  unfold impl_between.f
  by_cases h2 : 0 ≤ r ∧ r < ((cntF 16 p : Nat) : Int)
  ·obtain ⟨r, rfl⟩ := Int.eq_ofNat_of_zero_le h2.1
   have hi := invC_six hc.2.2
   have hb : (if (r : Int) ≥ 0 then some (decide ((r : Int) ≤ ((cntF 16 p : Nat) : Int) - 1)) else some false) = some true := by
    rw [if_pos (by omega), decide_eq_true (by omega)]
   first
   | rw [hb]
   | rw [if_pos (by omega), decide_eq_true (by omega)]
   rw [Option.bind_some, if_pos rfl, impl_LeastOfRank.dv p (by omega) (by omega), Option.bind_some, impl_LeastOfRank.ok_o (p.length : Int) (invC p) p r 200 [] rfl hc.1 hc.2.2 (by omega) (by omega) (by simp; omega), if_pos ⟨h, h2⟩, toNat_cast, List.nil_append]
  ·rw [if_neg (show ¬ (cntd p = true ∧ 0 ≤ r ∧ r < ((cntF 16 p : Nat) : Int)) from fun z => h2 z.2)]
   by_cases h3 : r ≥ 0
   ·rw [if_pos h3, decide_eq_false (by omega)]; rfl
   ·rw [if_neg h3]; rfl
 ·rw [if_neg h, if_neg (fun z => h z.1)]
theorem impl_isCountedLadder.ok (n : Int) (l : List Int) : impl_isCountedLadder.f.v n l = some (cLad n l) := by
 rw [impl_isCountedLadder.f.v_eq, impl_isLadder.ok, Option.bind_some]
 unfold cLad
 by_cases h : good n l = true
 ·have hg := good_iff.1 h
  rw [if_pos h, h, Bool.true_and]
  by_cases h6 : n ≤ 6
  ·rw [if_pos h6, impl_needless.ok n l h, Option.bind_some, decide_eq_true h6, Bool.true_and]
   rfl
  ·rw [if_neg h6, decide_eq_false h6]; rfl
 ·rw [if_neg h, Bool.eq_false_iff.2 h]; rfl
theorem impl_RankOfLeast.ok_di (p : List Int) (ho : isOrd p = true) (h6 : p.length ≤ 6) (r : Int) : ∀ (ds : List Int) (s : Nat), (∀ x ∈ ds, ∃ j : Nat, x = (j : Int) ∧ j + 1 < p.length) → s + ((ds.filter fun x => decide (x < r)).map fun x => cntF 16 (swp p x.toNat (x.toNat + 1))).sum ≤ 1152921504606846976 → impl_RankOfLeast.di impl_counter_count.f p r ds (s : Int) = some ((s + ((ds.filter fun x => decide (x < r)).map fun x => cntF 16 (swp p x.toNat (x.toNat + 1))).sum : Nat) : Int)
 | [], s, _, _ => by rw [impl_RankOfLeast.di]; rfl
 | x :: ds, s, h, hs => by
  obtain ⟨j, rfl, hj⟩ := h x (by simp)
  rw [impl_RankOfLeast.di]
  by_cases e : (j : Int) < r
  ·rw [if_pos e]
   rw [List.filter_cons, if_pos (decide_eq_true e), List.map_cons, List.sum_cons] at hs ⊢
   simp only [toNat_cast] at hs ⊢
   rw [impl_exchanged.ok p j hj (by omega)]
   simp only [Option.bind_some]
   rw [impl_counter_count.ok _ (isOrd_swp ho j hj) (by rw [swp_length]; exact h6)]
   simp only [Option.bind_some]
   rw [wrap_id (by omega) (by omega), show (s : Int) + ((cntF 16 (swp p j (j + 1)) : Nat) : Int) = ((s + cntF 16 (swp p j (j + 1)) : Nat) : Int) by omega]
   rw [impl_RankOfLeast.ok_di p ho h6 r ds _ (fun y hy => h y (by simp [hy])) (by omega), Nat.add_assoc]
  ·rw [if_neg e]
   rw [List.filter_cons, if_neg (by simpa using e)] at hs ⊢
   exact impl_RankOfLeast.ok_di p ho h6 r ds s (fun y hy => h y (by simp [hy])) hs
theorem impl_RankOfLeast.ok_ro (n : Nat) (hn2 : 2 ≤ n) (hn6 : n ≤ 6) : ∀ (rs p : List Int) (s : Nat), (∀ x ∈ rs, 0 ≤ x ∧ x ≤ (n : Int) - 2) → isOrd p = true → p.length = n → s + rs.length * (8 * 8 ^ 16) ≤ 1152921504606846976 → impl_RankOfLeast.ro impl_counter_count.f rs p (s : Int) = some ((s + rkLad rs p : Nat) : Int)
 | [], p, s, _, _, _, _ => by rw [impl_RankOfLeast.ro]; rfl
 | r :: rs, p, s, hr, ho, hp, hs => by
  have h0 := hr r (by simp)
  obtain ⟨j, rfl⟩ := Int.eq_ofNat_of_zero_le h0.1
  have hk := rkS_le (j : Int) p (by omega) (by omega)
  rw [List.length_cons, Nat.add_mul, Nat.one_mul] at hs
  have hf : (desc p).filter (fun x => decide (x < (j : Int))) = descGo p j 0 := descGo_filter p j (p.length - 1) 0 (by omega) (by omega)
  have h1 := impl_RankOfLeast.ok_di p ho (by omega) (j : Int) (desc p) s (fun x hx => by
   obtain ⟨i, e, hi, _⟩ := desc_mem hx
   exact ⟨i, e, hi⟩) (by rw [hf]; unfold rkS at hk; rw [toNat_cast] at hk; omega)
  rw [hf] at h1
  rw [impl_RankOfLeast.ro, show (impl_RankOfLeast.ev fun k => impl_descents.f k p) = impl_descents.f.v p from rfl, impl_descents.ok p (by omega) (by omega), Option.bind_some, if_pos (by have := desc_length p; omega), h1]
  simp only [Option.bind_some]
  rw [impl_exchanged.ok p j (by omega) (by omega)]
  simp only [Option.bind_some]
  have h2 := impl_RankOfLeast.ok_ro n hn2 hn6 rs (swp p j (j + 1)) (s + rkS (j : Int) p) (fun x hx => hr x (by simp [hx])) (isOrd_swp ho j (by omega)) (by rw [swp_length]; exact hp) (by omega)
  unfold rkS at h2
  rw [toNat_cast] at h2
  rw [h2, rkLad, rkS, toNat_cast, Nat.add_assoc]
theorem impl_RankOfLeast.ok (n : Int) (l : List Int) : impl_RankOfLeast.f n l = some (if cLad n l = true then (((rkLad l (resL n l) : Nat) : Int), true) else (0, false)) := by
 unfold impl_RankOfLeast.f
 rw [show (impl_RankOfLeast.ev fun k => impl_isCountedLadder.f k n l) = impl_isCountedLadder.f.v n l from rfl, impl_isCountedLadder.ok, Option.bind_some]
 by_cases h : cLad n l = true
 ·have hc := cLad_iff.1 h
  have hg := good_iff.1 hc.1
  obtain ⟨m, rfl⟩ := Int.eq_ofNat_of_zero_le (show 0 ≤ n by omega)
  rw [if_pos h, if_pos h, if_pos hg.2.2.1]
  rw [show (impl_RankOfLeast.ev fun k => impl_result.f k (m : Int) l) = impl_result.f.v (m : Int) l from rfl, impl_result.ok _ l hc.1, Option.bind_some]
  have := impl_RankOfLeast.ok_ro m (by omega) (by omega) l (resL (m : Int) l) 0 hg.2.2.2 (isOrd_resL hc.1) (by rw [resL_length]; rfl) (by have : l.length * (8 * 8 ^ 16) ≤ 60 * (8 * 8 ^ 16) := Nat.mul_le_mul_right _ hg.2.2.1; omega)
  rw [show ((0 : Nat) : Int) = 0 from rfl, Nat.zero_add] at this
  rw [this]; rfl
 ·rw [if_neg h, if_neg h]
theorem impl_ResultOf.ok (n : Int) (l : List Int) : impl_ResultOf.f.v n l = some (if good n l = true then (resL n l, true) else ([], false)) := by
 rw [impl_ResultOf.f.v_eq, impl_isLadder.ok, Option.bind_some]
 by_cases h : good n l = true
 ·rw [if_pos h, if_pos h, impl_result.ok n l h]; rfl
 ·rw [if_neg h, if_neg h]
theorem laws_nSame.ok_l (a b : List Int) (hab : a.length = b.length) (ha : a.length ≤ 1000) : ∀ (d i : Nat), i + d = a.length → laws_nSame.l0.v a b a.length i = some (decide (a.drop i = b.drop i)) := by
 intro d
 induction d with
 | zero =>
  intro i hd
  rw [laws_nSame.l0.v_eq, if_neg (cast_nlt (by omega)), List.drop_eq_nil_of_le (by omega), List.drop_eq_nil_of_le (by omega)]; rfl
 | succ d ih =>
  intro i hd
  have h : i < a.length := by omega
  rw [laws_nSame.l0.v_eq, if_pos (cast_lt h), if_pos (Int.natCast_nonneg i), if_pos (cast_lt h), if_pos (cast_lt (by omega)), succ_wrap h (by omega), ih (i + 1) (by omega), drop_rd a i h, drop_rd b i (by omega)]
  by_cases e : rd a (i : Int) = rd b (i : Int)
  ·rw [if_pos e, e]
   congr 1
   rw [decide_eq_decide, List.cons.injEq]
   exact ⟨fun x => ⟨rfl, x⟩, fun x => x.2⟩
  ·rw [if_neg e, decide_eq_false (fun x => e (List.cons.inj x).1)]
theorem laws_nSame.ok (a b : List Int) (hab : a.length = b.length) (ha : a.length ≤ 1000) : laws_nSame.f.v a b = some (decide (a = b)) := by
 rw [laws_nSame.f.v_eq, if_pos (by omega)]
 have := laws_nSame.ok_l a b hab ha a.length 0 (by omega)
 simpa using this
theorem laws_nSame.self (a : List Int) (ha : a.length ≤ 1000) : laws_nSame.f.v a a = some true := by
 rw [laws_nSame.ok a a rfl ha]; simp
theorem laws_nLadder.self (n : Int) (l : List Int) (h : l.length ≤ 1000) : laws_nLadder.f.v n l n l = some true := by
 rw [laws_nLadder.f.v_eq, if_pos rfl, laws_nSame.self l h]
 rfl
theorem laws_nLadders.ok_l (a : List S34) (ha : a.length ≤ 1000) (hx : ∀ x ∈ a, x.f1.length ≤ 1000) : ∀ (d i : Nat), i + d = a.length → laws_nLadders.l0.v a a (a.length : Int) (i : Int) = some true := by
 intro d
 induction d with
 | zero => intro i hd; rw [laws_nLadders.l0.v_eq, if_neg (cast_nlt (by omega))]
 | succ d ih =>
  intro i hd
  have hi : i < a.length := by omega
  have hm : rd_T34 a (i : Int) ∈ a := by
   unfold rd_T34
   rw [Int.toNat_natCast, List.getD_eq_getElem?_getD, List.getElem?_eq_getElem hi]
   exact List.getElem_mem hi
  rw [laws_nLadders.l0.v_eq, if_pos (cast_lt hi), if_pos (Int.natCast_nonneg i), if_pos (cast_lt hi), if_pos (cast_lt hi), laws_nLadder.self _ _ (hx _ hm), Option.bind_some, if_pos rfl, succ_wrap hi (by omega)]
  exact ih (i + 1) (by omega)
theorem laws_nLadders.self (a : List S34) (ha : a.length ≤ 1000) (hx : ∀ x ∈ a, x.f1.length ≤ 1000) : laws_nLadders.f.v a a = some true := by
 rw [laws_nLadders.f.v_eq, if_pos rfl]
 exact laws_nLadders.ok_l a ha hx a.length 0 (by omega)
theorem laws_nLess.ok_l (a b : List Int) (ha : a.length ≤ 1000) : ∀ (d i : Nat), i + d = a.length → i ≤ b.length → laws_nLess.l0.v a b (a.length : Int) (i : Int) = some (lexL (a.drop i) (b.drop i)) := by
 intro d
 induction d with
 | zero =>
  intro i hd hb
  rw [laws_nLess.l0.v_eq, if_neg (cast_nlt (by omega)), List.drop_eq_nil_of_le (show a.length ≤ i by omega), lexL, List.length_drop]
  congr 1
  rw [decide_eq_decide]
  omega
 | succ d ih =>
  intro i hd hb
  have h : i < a.length := by omega
  rw [laws_nLess.l0.v_eq, if_pos (cast_lt h), drop_rd a i h]
  by_cases h2 : i < b.length
  ·rw [if_neg (by omega), if_pos (Int.natCast_nonneg i), if_pos (cast_lt h), if_pos (cast_lt h2), drop_rd b i h2, lexL]
   by_cases e : rd a (i : Int) = rd b (i : Int)
   ·rw [if_pos e, if_pos e, succ_wrap h (by omega)]
    exact ih (i + 1) (by omega) (by omega)
   ·rw [if_neg e, if_neg e]
  ·rw [if_pos (by omega), List.drop_eq_nil_of_le (show b.length ≤ i by omega), lexL]
theorem laws_nLess.ok (a b : List Int) (ha : a.length ≤ 1000) : laws_nLess.f.v a b = some (lexL a b) := by
 rw [laws_nLess.f.v_eq]
 have := laws_nLess.ok_l a b ha a.length 0 (by omega) (by omega)
 simpa using this
theorem spec_alRank.ok_i (p : List Int) (hp : p.length ≤ 8) (acc : Int) (i : Nat) (x : Int) (ys : List Int) (hy : ys.length ≤ 8) (hi : i < p.length) (h0 : 0 ≤ acc) (h1 : acc ≤ 100000000) : ∀ (d j c : Nat), j + d = ys.length → c ≤ j → spec_alRank.l1.v p acc i x c p p.length i ys ys.length j = spec_alRank.l0.v p (acc * ((p.length : Int) - i) + ((c + fewer x (ys.drop j) : Nat) : Int)) p p.length ((i + 1 : Nat) : Int) := by
 intro d
 induction d with
 | zero =>
  intro j c hd hc
  have hm : 0 ≤ acc * ((p.length : Int) - i) ∧ acc * ((p.length : Int) - i) ≤ 100000000 * 8 := ⟨Int.mul_nonneg h0 (by omega), Int.mul_le_mul h1 (by omega) (by omega) (by omega)⟩
  rw [spec_alRank.l1.v_eq, if_neg (cast_nlt (by omega)), succ_wrap hi (by omega), List.drop_eq_nil_of_le (by omega), fewer, Nat.add_zero, wrap_id (x := (p.length : Int) - i) (by omega) (by omega), wrap_id (x := acc * ((p.length : Int) - i)) (by omega) (by omega), wrap_id (x := acc * ((p.length : Int) - i) + (c : Int)) (by omega) (by omega)]
  simp only [Nat.add_zero]
 | succ d ih =>
  intro j c hd hc
  have h : j < ys.length := by omega
  rw [spec_alRank.l1.v_eq, if_pos (cast_lt h), if_pos (Int.natCast_nonneg j), if_pos (cast_lt h), succ_wrap h (by omega), drop_rd ys j h, fewer]
  by_cases e : rd ys (j : Int) < x
  ·rw [if_pos e, if_pos e, wrap_id (x := (c : Int) + 1) (by omega) (by omega), show (c : Int) + 1 = ((c + 1 : Nat) : Int) by omega, ih (j + 1) (c + 1) (by omega) (by omega), Nat.add_assoc]
  ·rw [if_neg e, if_neg e, ih (j + 1) c (by omega) (by omega), Nat.zero_add]
theorem spec_alRank.ok_o (p : List Int) (hp : p.length ≤ 8) : ∀ (d i : Nat) (acc : Int), i + d = p.length → 0 ≤ acc → acc < ((9 ^ i : Nat) : Int) → spec_alRank.l0.v p acc p p.length i = some (rkGo acc (p.drop i)) := by
 intro d
 induction d with
 | zero =>
  intro i acc hd h0 h1
  rw [spec_alRank.l0.v_eq, if_neg (cast_nlt (by omega)), List.drop_eq_nil_of_le (by omega), rkGo]
 | succ d ih =>
  intro i acc hd h0 h1
  have h : i < p.length := by omega
  have h9 : 9 ^ i ≤ 9 ^ 8 := Nat.pow_le_pow_right (by decide) (by omega)
  have h98 : 9 ^ 8 = 43046721 := by decide
  have h2 := spec_alRank.ok_i p hp acc i (rd p (i : Int)) (p.drop (i + 1)) (by rw [List.length_drop]; omega) h h0 (by omega) (p.drop (i + 1)).length 0 0 (by omega) (by omega)
  rw [spec_alRank.l0.v_eq, if_pos (cast_lt h), if_pos (Int.natCast_nonneg i), if_pos (cast_lt h), succ_wrap h (by omega), if_pos (Int.natCast_nonneg _), if_pos (by omega), toNat_cast, Option.bind_some]
  rw [show ((0 : Nat) : Int) = 0 from rfl] at h2
  have hf := fewer_len (rd p (i : Int)) (p.drop (i + 1))
  rw [List.length_drop] at hf
  have hb : acc * ((p.length : Int) - i) + ((fewer (rd p (i : Int)) (p.drop (i + 1)) : Nat) : Int) < ((9 ^ (i + 1) : Nat) : Int) := by
   have h3 : acc * ((p.length : Int) - i) ≤ (((9 ^ i : Nat) : Int) - 1) * 8 := Int.mul_le_mul (by omega) (by omega) (by omega) (by omega)
   rw [Nat.pow_succ]
   omega
  rw [h2, List.drop_zero, Nat.zero_add, ih (i + 1) _ (by omega) (by have := Int.mul_nonneg h0 (show (0 : Int) ≤ (p.length : Int) - i by omega); omega) hb, drop_rd p i h, rkGo, List.length_drop, show ((p.length - (i + 1) : Nat) : Int) + 1 = (p.length : Int) - i by omega]
theorem spec_alRank.ok (p : List Int) (hp : p.length ≤ 8) : spec_alRank.f.v p = some (rankL p) := by
 rw [spec_alRank.f.v_eq]
 have := spec_alRank.ok_o p hp p.length 0 0 (by omega) (by omega) (by decide)
 simpa [rankL] using this
theorem spec_l1Own.ok (l : List Int) (h : l.length ≤ 1048576) : spec_l1Own.f l = some l := by
 unfold spec_l1Own.f
 rw [Option.bind_some, if_pos (by simp; omega)]; rfl
theorem spec_alSwap.ok (p : List Int) (j : Nat) (hj : j + 1 < p.length) (hp : p.length ≤ 1048576) : spec_alSwap.f p (j : Int) = some (swp p j (j + 1)) := by
 have e : wrap64 ((j : Int) + 1) = ((j + 1 : Nat) : Int) := succ_wrap (show j < p.length by omega) (by omega)
 unfold spec_alSwap.f
 rw [spec_l1Own.ok p hp, Option.bind_some, e, if_pos (Int.natCast_nonneg _), if_pos (cast_lt hj), if_pos (Int.natCast_nonneg _), if_pos (cast_lt (by omega)), if_pos (cast_lt (by omega)), if_pos (cast_lt hj), toNat_cast, toNat_cast]
 rfl
theorem spec_alCounter_count.good_of {p : List Int} (h : isOrd p = true) : spec_alCounter_count.good p := ⟨(isOrd_all h).2, (isOrd_all h).1⟩
theorem spec_alCounter_count.ord_of {p : List Int} (h : spec_alCounter_count.good p) (h1 : 1 ≤ p.length) (h8 : p.length ≤ 8) : isOrd p = true := by
 unfold isOrd
 rw [if_pos ⟨h1, h8⟩]
 exact ordGo_of _ p [] (fun x hx => by have := h.2 x hx; exact ⟨this.1, by omega, by simp⟩) h.1
theorem spec_alCounter_count.rank_of {p : List Int} (hp : p.length ≤ 8) {k : Nat} {a : Int} (h : spec_alRank.f k p = some a) : a = rankL p := by
 have h1 : spec_alRank.f.v p = some a := lim_of (fun k => spec_alRank.mono p k) h
 rw [spec_alRank.ok p hp] at h1
 exact (Option.some.inj h1).symm
theorem spec_alCounter_count.inj_ok : spec_alCounter_count.inj := by
 intro q q' k k' a hq hq' h8 hl h h'
 rcases Nat.eq_zero_or_pos q.length with h0 | h0
 ·rw [List.length_eq_zero_iff.1 h0, List.length_eq_zero_iff.1 (show q'.length = 0 by omega)]
 ·have h1 := spec_alCounter_count.ord_of hq h0 h8
  have h2 := spec_alCounter_count.ord_of hq' (by omega) (by omega)
  have e1 := spec_alCounter_count.rank_of (isOrd_len h1).2 h
  have e2 := spec_alCounter_count.rank_of (isOrd_len h2).2 h'
  exact rank_inj h1 h2 hl (e1.symm.trans e2)
theorem spec_alCounter_count.fc_eq : ∀ n, spec_alNew.fc n = fct n
 | 0 => rfl
 | n + 1 => by rw [spec_alNew.fc, fct, spec_alCounter_count.fc_eq n]
theorem spec_alCounter_count.ok_lp (g : List Int → Option Int) (c : List Int → Nat) (p : List Int) (hp : p.length ≤ 8) (M : Nat) (hM : M ≤ 1152921504606846976) : ∀ (m i n : Nat) (b : Bool), i + m + 1 = p.length → (∀ j : Nat, j + 1 < p.length → rd p (j : Int) > rd p ((j : Int) + 1) → g (swp p j (j + 1)) = some ((c (swp p j (j + 1)) : Nat) : Int)) → n + ((descGo p m i).map fun x => c (swp p x.toNat (x.toNat + 1))).sum ≤ M →
    spec_alCounter_count.lp g p m i (n : Int) b = some (((n + ((descGo p m i).map fun x => c (swp p x.toNat (x.toNat + 1))).sum : Nat) : Int), if (descGo p m i).length = 0 then b else false)
  | 0, i, n, b, _, _, _ => by rw [spec_alCounter_count.lp, descGo]; rfl
  | m + 1, i, n, b, hi, hg, hn => by
    rw [spec_alCounter_count.lp, descGo]
    rw [descGo] at hn
    by_cases e : rd p (i : Int) > rd p ((i : Int) + 1)
    · rw [if_pos e] at hn ⊢
      rw [if_pos e]
      rw [List.map_cons, List.sum_cons] at hn
      simp only [toNat_cast] at hn
      rw [spec_alSwap.ok p i (by omega) (by omega)]
      simp only [Option.bind_some]
      rw [hg i (by omega) e]
      simp only [Option.bind_some]
      rw [wrap_id (by omega) (by omega), show (n : Int) + ((c (swp p i (i + 1)) : Nat) : Int) = ((n + c (swp p i (i + 1)) : Nat) : Int) by omega]
      rw [spec_alCounter_count.ok_lp g c p hp M hM m (i + 1) _ false (by omega) hg (by omega), List.map_cons, List.sum_cons]
      simp only [toNat_cast, List.length_cons, Nat.add_assoc]
      congr 2
      by_cases hz : (descGo p m (i + 1)).length = 0
      · rw [if_pos hz, if_neg (by omega)]
      · rw [if_neg hz, if_neg (by omega)]
    · rw [if_neg e] at hn ⊢
      rw [if_neg e]
      exact spec_alCounter_count.ok_lp g c p hp M hM m (i + 1) n b (by omega) hg hn
theorem spec_alCounter_count.ok_g (n : Nat) (hn8 : n ≤ 8) : ∀ (d : Nat) (p : List Int), isOrd p = true → p.length = n → invC p ≤ d → d ≤ 16 → spec_alCounter_count.g (spec_alNew.fc n) n (d + 1) p = some ((cntF (d + 1) p : Nat) : Int) := by
 intro d
 induction d with
 | zero =>
  intro p ho hl hi hd
  have hr := rank_lt p
  have hln := isOrd_len ho
  have hds : desc p = [] := by
   cases e : desc p with
   | nil => rfl
   | cons a r =>
    obtain ⟨j, _, _, _, hc⟩ := desc_head e
    omega
  rw [spec_alCounter_count.g, if_pos ⟨spec_alCounter_count.inj_ok, spec_alCounter_count.good_of ho, hl, hn8⟩]
  rw [show (spec_alCounter_count.ev fun k => spec_alRank.f k p) = spec_alRank.f.v p from rfl, spec_alRank.ok p (by omega), Option.bind_some, if_pos (by rw [spec_alCounter_count.fc_eq, ← hl]; exact hr)]
  have := spec_alCounter_count.ok_lp (spec_alCounter_count.g (spec_alNew.fc n) n 0) (cntF 0) p (by omega) (8 ^ 18) (by decide) (p.length - 1) 0 0 true (by omega) (fun j hj hgt => by
   have hh : (j : Int) ∈ desc p := (desc_iff p j hj).2 hgt
   rw [hds] at hh; cases hh) (by rw [show descGo p (p.length - 1) 0 = desc p from rfl, hds]; simp)
  rw [show descGo p (p.length - 1) 0 = desc p from rfl, hds] at this
  rw [show ((0 : Nat) : Int) = 0 from rfl] at this
  rw [this, cntF, hds]
  rfl
 | succ d ih =>
  intro p ho hl hi hd
  have hr := rank_lt p
  have hln := isOrd_len ho
  rw [spec_alCounter_count.g, if_pos ⟨spec_alCounter_count.inj_ok, spec_alCounter_count.good_of ho, hl, hn8⟩]
  rw [show (spec_alCounter_count.ev fun k => spec_alRank.f k p) = spec_alRank.f.v p from rfl, spec_alRank.ok p (by omega), Option.bind_some, if_pos (by rw [spec_alCounter_count.fc_eq, ← hl]; exact hr)]
  have hle := cntF_le (d + 1 + 1) p (by omega)
  rw [cntF] at hle ⊢
  have h818 : (8 : Nat) ^ (d + 1 + 1) ≤ 8 ^ 18 := Nat.pow_le_pow_right (by decide) (by omega)
  have hlp := spec_alCounter_count.ok_lp (spec_alCounter_count.g (spec_alNew.fc n) n (d + 1)) (cntF (d + 1)) p (by omega) (8 ^ 18) (by decide) (p.length - 1) 0 0 true (by omega) (fun j hj hgt => ih _ (isOrd_swp ho j hj) (by rw [swp_length]; exact hl) (by have := invC_fall p j hj hgt; omega) (by omega))
  rw [show descGo p (p.length - 1) 0 = desc p from rfl] at hlp
  rw [show ((0 : Nat) : Int) = 0 from rfl] at hlp
  by_cases hz : (desc p).length = 0
  ·have hds := List.length_eq_zero_iff.1 hz
   rw [hds] at hlp
   rw [hlp (by simp), if_pos hz]
   rfl
  ·rw [if_neg hz] at hle
   rw [hlp (by omega), if_neg hz]
   simp only [if_neg hz, Option.bind_some, Nat.zero_add, Bool.false_eq_true, if_false]
theorem spec_alCounter_count.ok (p : List Int) (h : isOrd p = true) (h6 : p.length ≤ 6) : spec_alCounter_count.f (spec_alNew.fc p.length) p = some ((cntF 16 p : Nat) : Int) := by
 have hl := isOrd_len h
 exact spec_alCounter_count.ok_g p.length hl.2 15 p h rfl (invC_six h6) (by decide)
theorem spec_alCounter_count.ok_n (n : Nat) (h6 : n ≤ 6) (p : List Int) (h : isOrd p = true) (hl : p.length = n) : spec_alCounter_count.g (spec_alNew.fc n) n 16 p = some ((cntF 16 p : Nat) : Int) := spec_alCounter_count.ok_g n (by omega) 15 p h hl (invC_six (by omega)) (by decide)
theorem spec_l1Has.ok_l (v : Int) (xs : List Int) (hn : xs.length ≤ 140737488355328) : ∀ (d i : Nat), xs.length - i = d → spec_l1Has.l0.v v xs xs.length i = some (decide (v ∈ xs.drop i)) := by
 intro d
 induction d with
 | zero =>
  intro i hd
  rw [spec_l1Has.l0.v_eq, if_neg (cast_nlt (by omega)), List.drop_eq_nil_of_le (by omega)]
  simp
 | succ d ih =>
  intro i hd
  have h : i < xs.length := by omega
  rw [spec_l1Has.l0.v_eq, if_pos (cast_lt h), if_pos (Int.natCast_nonneg i), if_pos (cast_lt h), succ_wrap h hn, ih (i + 1) (by omega), drop_rd xs i h]
  by_cases e : rd xs (i : Int) = v
  ·rw [if_pos e]; simp [e]
  ·have e' : ¬ v = rd xs (i : Int) := fun h => e h.symm
   rw [if_neg e]; simp [e']
theorem spec_l1Has.ok (v : Int) (xs : List Int) (hn : xs.length ≤ 140737488355328) : spec_l1Has.f.v xs v = some (decide (v ∈ xs)) := by
 rw [spec_l1Has.f.v_eq]
 have := spec_l1Has.ok_l v xs hn xs.length 0 (by omega)
 simpa using this
theorem spec_laOrder.ok_l (p : List Int) (hn : p.length ≤ 8) : ∀ (d i : Nat), p.length - i = d → spec_laOrder.l0.v p p p.length i = some (ordGo p.length (p.take i) (p.drop i)) := by
 intro d
 induction d with
 | zero =>
  intro i hd
  rw [spec_laOrder.l0.v_eq, if_neg (cast_nlt (by omega)), List.drop_eq_nil_of_le (by omega)]
  rfl
 | succ d ih =>
  intro i hd
  have h : i < p.length := by omega
  rw [spec_laOrder.l0.v_eq, if_pos (cast_lt h), if_pos (Int.natCast_nonneg i), if_pos (cast_lt h), succ_wrap h (by omega), ih (i + 1) (by omega), drop_rd p i h, take_rd p i h]
  rw [wrap_id (x := (p.length : Int) - 1) (by omega) (by omega), toNat_cast, spec_l1Has.ok _ _ (by rw [List.length_take]; omega)]
  unfold spec_l1In.f
  rw [ordGo_cons]
  by_cases a : 0 ≤ rd p (i : Int)
  ·by_cases b : rd p (i : Int) ≤ (p.length : Int) - 1
   ·have hi : (i : Int) ≤ (p.length : Int) := by omega
    by_cases c : rd p (i : Int) ∈ p.take i
    ·simp only [ge_iff_le, a, b, c, hi, decide_true, decide_false, if_true, if_false, Option.bind_some, true_and, and_true, and_self, Bool.false_eq_true]
    ·simp only [ge_iff_le, a, b, c, hi, decide_true, decide_false, if_true, if_false, Option.bind_some, true_and, and_true, and_self, Bool.false_eq_true]
   ·simp [a, b]
  ·simp [a]
theorem spec_laOrder.ok (p : List Int) : spec_laOrder.f.v p = some (isOrd p) := by
 rw [spec_laOrder.f.v_eq]
 unfold spec_l1In.f isOrd
 by_cases h : 1 ≤ p.length ∧ p.length ≤ 8
 ·have := spec_laOrder.ok_l p h.2 p.length 0 (by omega)
  have h1 : (p.length : Int) ≥ 1 := by omega
  have h2 : (p.length : Int) ≤ 8 := by omega
  rw [if_pos h1, if_pos h, decide_eq_true h2]
  simpa using this
 ·rw [if_neg h]
  by_cases h1 : (p.length : Int) ≥ 1
  ·have h2 : ¬ (p.length : Int) ≤ 8 := by omega
   rw [if_pos h1, decide_eq_false h2]; rfl
  ·rw [if_neg h1]; rfl
theorem spec_alGood.ok (p : List Int) : spec_alGood.f.v p = some (cntd p) := by
 rw [spec_alGood.f.v_eq, spec_laOrder.ok, Option.bind_some]
 unfold cntd
 cases h : isOrd p
 ·rfl
 ·rw [if_pos rfl]
  unfold spec_l1In.f
  by_cases h2 : (p.length : Int) ≥ 2
  ·rw [if_pos h2, Option.bind_some]
   have : decide (2 ≤ p.length) = true := decide_eq_true (by omega)
   rw [this]
   congr 1
   simp only [Bool.true_and]
   exact decide_eq_decide.2 (by omega)
  ·rw [if_neg h2, Option.bind_some]
   have : decide (2 ≤ p.length) = false := decide_eq_false (by omega)
   rw [this]; rfl
theorem spec_alList.ok_l1 (p : List Int) (b : Bool) (x : Int) (L : List (List Int)) (hL : L.length ≤ 100000) (hs : ∀ r ∈ L, r.length ≤ 1000) : ∀ (d i : Nat) (acc : List (List Int)), i + d = L.length → acc.length + d ≤ 100000 → spec_alList.l1.v p acc b x L (L.length : Int) (i : Int) = spec_alList.l0.v p (acc ++ (L.drop i).map fun r => x :: r) b (wrap64 (x + 1)) := by
 intro d
 induction d with
 | zero => intro i acc hi ha; rw [spec_alList.l1.v_eq, if_neg (by omega), List.drop_eq_nil_of_le (by omega), List.map_nil, List.append_nil]
 | succ d ih =>
  intro i acc hi ha
  have h : i < L.length := by omega
  have e : rd_L2 L (i : Int) = L[i] := by
   unfold rd_L2
   rw [Int.toNat_natCast, List.getD_eq_getElem?_getD, List.getElem?_eq_getElem h, Option.getD_some]
  have hm := hs _ (List.getElem_mem h)
  rw [spec_alList.l1.v_eq, if_pos (cast_lt h), if_pos (Int.natCast_nonneg _), if_pos (cast_lt h), Option.bind_some, e, if_pos (by simp; omega), if_pos (by omega), succ_wrap h (by omega), ih (i + 1) _ (by omega) (by simp; omega), List.drop_eq_getElem_cons h, List.map_cons, List.append_assoc]
  rfl
theorem spec_alList.ok_l0 (p : List Int) (hp : isOrd p = true) (c : List Int → List (List Int)) (hg : ∀ j : Nat, j + 1 < p.length → rd p (j : Int) > rd p ((j : Int) + 1) → spec_alList.f.v (swp p j (j + 1)) = some (c (swp p j (j + 1))) ∧ (c (swp p j (j + 1))).length ≤ 100000 ∧ ∀ r ∈ c (swp p j (j + 1)), r.length ≤ 1000) : ∀ (m i : Nat) (acc : List (List Int)) (b : Bool), i + m + 1 = p.length → acc.length + ((descGo p m i).map fun x => (c (swp p x.toNat (x.toNat + 1))).length).sum ≤ 100000 → spec_alList.l0.v p acc b (i : Int) = some (if b = true ∧ (descGo p m i).length = 0 then [[]] else acc ++ (descGo p m i).flatMap fun x => (c (swp p x.toNat (x.toNat + 1))).map fun r => x :: r) := by
 have h8 := (isOrd_len hp).2
 intro m
 induction m with
 | zero =>
  intro i acc b hi ha
  rw [spec_alList.l0.v_eq, wrap_id (by omega) (by omega), if_neg (by omega), descGo]
  cases b
  ·rw [if_neg Bool.false_ne_true, if_neg (by simp)]; simp
  ·rw [if_pos rfl, if_pos (by simp)]
 | succ m ih =>
  intro i acc b hi ha
  have e := rd_adj hp i (by omega)
  rw [spec_alList.l0.v_eq, wrap_id (x := (i : Int) + 1) (by omega) (by omega), if_pos (by omega), if_pos (by omega), if_pos (by omega), if_pos (by omega), descGo]
  rw [descGo] at ha
  rw [show (i : Int) + 1 = ((i + 1 : Nat) : Int) by omega] at *
  by_cases d : rd p (i : Int) > rd p ((i + 1 : Nat) : Int)
  ·rw [if_pos d] at ha ⊢
   rw [List.map_cons, List.sum_cons, Int.toNat_natCast] at ha
   obtain ⟨g1, g2, g3⟩ := hg i (by omega) (by rw [show (i : Int) + 1 = ((i + 1 : Nat) : Int) by omega]; exact d)
   rw [if_neg (by omega), spec_alSwap.ok p i (by omega) (by omega), Option.bind_some, g1, Option.bind_some]
   have h1 := spec_alList.ok_l1 p false (i : Int) _ g2 g3 (c (swp p i (i + 1))).length 0 acc (by omega) (by omega)
   rw [show ((0 : Nat) : Int) = 0 from rfl, List.drop_zero] at h1
   rw [h1, wrap_id (x := (i : Int) + 1) (by omega) (by omega), show (i : Int) + 1 = ((i + 1 : Nat) : Int) by omega, ih (i + 1) _ false (by omega) (by simp; omega), if_neg (by simp), if_neg (by simp)]
   simp
  ·rw [if_neg d] at ha ⊢
   rw [if_pos (by omega), ih (i + 1) acc b (by omega) ha]
theorem spec_alList.ok : ∀ (d : Nat) (p : List Int), isOrd p = true → invC p < d → d ≤ 100 → cntF d p ≤ 100000 → spec_alList.f.v p = some (listF d p) := by
 intro d
 induction d with
 | zero => intro p _ h; omega
 | succ d ih =>
  intro p hp hd h1 hc
  have hl := (isOrd_len hp).1
  have hcs : ((desc p).map fun x => (listF d (swp p x.toNat (x.toNat + 1))).length).sum ≤ 100000 := by
   simp only [listF_length]
   by_cases h0 : (desc p).length = 0
   ·rw [List.length_eq_zero_iff.1 h0]; simp
   ·rw [cntF, if_neg h0] at hc; exact hc
  rw [spec_alList.f.v_eq]
  have h2 := spec_alList.ok_l0 p hp (listF d) (fun j hj hr => by
   have hf := invC_fall p j hj hr
   have hm := cnt_part (d := d) (mem_desc hj hr)
   rw [Int.toNat_natCast] at hm
   exact ⟨ih _ (isOrd_swp hp j hj) (by omega) (by omega) (by omega), by rw [listF_length]; omega, fun r hr => by have := listF_short d _ r hr; omega⟩) (p.length - 1) 0 [] true (by omega) (by rw [List.length_nil, Nat.zero_add]; exact hcs)
  rw [show ((0 : Nat) : Int) = 0 from rfl] at h2
  rw [h2]
  show some (if true = true ∧ (desc p).length = 0 then [[]] else [] ++ (desc p).flatMap _) = _
  rw [listF]
  by_cases h0 : (desc p).length = 0
  ·rw [if_pos h0, if_pos ⟨rfl, h0⟩]
  ·rw [if_neg h0, if_neg (fun x => h0 x.2), List.nil_append]
theorem spec_alAsked.ok (p : List Int) : spec_alAsked.f p = some (if cntd p = true ∧ cntF 16 p ≤ 800 then (listF 16 p, true) else ([], false)) := by
 unfold spec_alAsked.f
 rw [show (spec_alAsked.ev fun k => spec_alGood.f k p) = spec_alGood.f.v p from rfl, spec_alGood.ok, Option.bind_some]
 by_cases h : cntd p = true
 ·have hc := cntd_iff.1 h
  have h6 := invC_six hc.2.2
  rw [if_pos h, if_pos (by omega), spec_alCounter_count.ok p hc.1 hc.2.2, Option.bind_some]
  by_cases c : cntF 16 p ≤ 800
  ·rw [if_neg (by omega), if_pos ⟨h, c⟩, show (spec_alAsked.ev fun k => spec_alList.f k p) = spec_alList.f.v p from rfl, spec_alList.ok 16 p hc.1 (by omega) (by omega) (by omega)]; rfl
  ·rw [if_pos (by omega), if_neg (fun x => c x.2)]
 ·rw [if_neg h, if_neg (fun x => h x.1)]
theorem spec_alLadders.ok_l (n : Int) (L : List (List Int)) (hL : L.length ≤ 100000) : ∀ (d i : Nat) (acc : List S34), i + d = L.length → acc.length + d ≤ 100000 → spec_alLadders.l0.v n acc L (L.length : Int) (i : Int) = some (acc ++ (L.drop i).map fun r => (⟨n, r⟩ : S34)) := by
 intro d
 induction d with
 | zero => intro i acc hi ha; rw [spec_alLadders.l0.v_eq, if_neg (by omega), List.drop_eq_nil_of_le (by omega), List.map_nil, List.append_nil]
 | succ d ih =>
  intro i acc hi ha
  have h : i < L.length := by omega
  have e : rd_L2 L (i : Int) = L[i] := by
   unfold rd_L2
   rw [Int.toNat_natCast, List.getD_eq_getElem?_getD, List.getElem?_eq_getElem h, Option.getD_some]
  rw [spec_alLadders.l0.v_eq, if_pos (cast_lt h), if_pos (Int.natCast_nonneg _), if_pos (cast_lt h), e, if_pos (by omega), succ_wrap h (by omega), ih (i + 1) _ (by omega) (by simp; omega), List.drop_eq_getElem_cons h, List.map_cons, List.append_assoc]
  rfl
theorem spec_alLadders.ok (n : Int) (L : List (List Int)) (hL : L.length ≤ 100000) : spec_alLadders.f.v n L = some (L.map fun r => (⟨n, r⟩ : S34)) := by
 have h := spec_alLadders.ok_l n L hL L.length 0 [] (by omega) (by simp; omega)
 rw [show ((0 : Nat) : Int) = 0 from rfl, List.drop_zero, List.nil_append] at h
 rw [spec_alLadders.f.v_eq, h]
theorem spec_AllLeast.ok (p : List Int) : spec_AllLeast.f.v p = some (if cntd p = true ∧ cntF 16 p ≤ 800 then ((listF 16 p).map fun r => (⟨(p.length : Int), r⟩ : S34), true) else ([], false)) := by
 rw [spec_AllLeast.f.v_eq, spec_alAsked.ok, Option.bind_some]
 by_cases h : cntd p = true ∧ cntF 16 p ≤ 800
 ·rw [if_pos h, if_pos h, if_pos rfl, spec_alLadders.ok _ _ (by rw [listF_length]; omega)]; rfl
 ·rw [if_neg h, if_neg h, if_neg (by simp)]
theorem spec_CountFirst.ok (p : List Int) (a : Int) : spec_CountFirst.f p a = some (if cntd p = true then (if 0 ≤ a ∧ a ≤ (p.length : Int) - 2 then (if rd p a < rd p (a + 1) then (0, true) else (((cntF 16 (swp p a.toNat (a.toNat + 1)) : Nat) : Int), true)) else (0, false)) else (0, false)) := by
 unfold spec_CountFirst.f
 rw [show (spec_CountFirst.ev fun k => spec_alGood.f k p) = spec_alGood.f.v p from rfl, spec_alGood.ok, Option.bind_some]
 by_cases h : cntd p = true
 ·have hc := cntd_iff.1 h
  have hl := isOrd_len hc.1
  rw [if_pos h, if_pos h, wrap_id (by omega) (by omega)]
  have hb : spec_l1In.f a 0 ((p.length : Int) - 2) = some (decide (0 ≤ a ∧ a ≤ (p.length : Int) - 2)) := by
   unfold spec_l1In.f
   by_cases h0 : a ≥ 0
   ·rw [if_pos h0]
    congr 1
    exact decide_eq_decide.2 ⟨fun h => ⟨h0, h⟩, fun h => h.2⟩
   ·rw [if_neg h0, decide_eq_false (fun h => h0 h.1)]
  rw [hb, Option.bind_some]
  by_cases hr : 0 ≤ a ∧ a ≤ (p.length : Int) - 2
  ·obtain ⟨j, rfl⟩ := Int.eq_ofNat_of_zero_le hr.1
   rw [if_pos (decide_eq_true hr), if_pos hr, if_pos ⟨by omega, by omega, by omega⟩]
   by_cases hlt : rd p (j : Int) < rd p ((j : Int) + 1)
   ·rw [if_pos hlt, if_pos hlt]
   ·rw [if_neg hlt, if_neg hlt, spec_alSwap.ok p j (by omega) (by omega), Option.bind_some, toNat_cast]
    rw [spec_alCounter_count.ok_g p.length hl.2 15 _ (isOrd_swp hc.1 j (by omega)) (by rw [swp_length]) (invC_six (by rw [swp_length]; omega)) (by decide)]
    rfl
  ·rw [if_neg (by simpa using hr), if_neg hr]
 ·rw [if_neg h, if_neg h]
theorem spec_CountLeast.ok (p : List Int) : spec_CountLeast.f p = some (if cntd p = true then (((cntF 16 p : Nat) : Int), true) else (0, false)) := by
 unfold spec_CountLeast.f
 rw [show (spec_CountLeast.ev fun k => spec_alGood.f k p) = spec_alGood.f.v p from rfl, spec_alGood.ok, Option.bind_some]
 by_cases h : cntd p = true
 ·have hc := cntd_iff.1 h
  rw [if_pos h, if_pos h, if_pos (by omega), spec_alCounter_count.ok p hc.1 hc.2.2]; rfl
 ·rw [if_neg h, if_neg h]
theorem spec_l1Cur_next.ok (c : List Int) (hc : isCode c) (at_ s : Int) (h0 : 0 ≤ at_) (h1 : at_ ≤ 1000000000) : ∃ b s', spec_l1Cur_next.f c at_ s = some (b, at_ + 1, s') ∧ 0 ≤ b ∧ b ≤ 255 := by
  unfold spec_l1Cur_next.f
  rw [wrap_id (x := at_ + 1) (by omega) (by omega)]
  by_cases e : at_ < (c.length : Int)
  · have hb : 0 ≤ rd c at_ ∧ rd c at_ ≤ 255 := by
      have := rd_mem c at_.toNat (by omega)
      rw [Int.toNat_of_nonneg h0] at this
      exact hc.1 _ this
    rw [if_pos e, if_pos h0, if_pos (by omega), wrap_id (x := rd c at_) (by omega) (by omega)]
    exact ⟨_, _, rfl, hb.1, hb.2⟩
  · rw [if_neg e, if_neg (by omega)]
    exact ⟨_, _, rfl, (top_byte _).1, (top_byte _).2⟩
theorem spec_l1Cur_pick.ok (c : List Int) (hc : isCode c) (at_ s n : Int) (h0 : 0 ≤ at_) (h1 : at_ ≤ 100000000) (hn : 1 ≤ n) (hn2 : n ≤ 200) : ∃ x a' s', spec_l1Cur_pick.f c at_ s n = some (x, a', s') ∧ 0 ≤ x ∧ x < n ∧ 0 ≤ a' ∧ a' ≤ at_ + 1 := by
 unfold spec_l1Cur_pick.f
 by_cases e : n ≤ 1
 ·rw [if_pos e]
  exact ⟨_, _, _, rfl, by omega, by omega, by omega, by omega⟩
 ·obtain ⟨b, s', hf, hb0, hb1⟩ := spec_l1Cur_next.ok c hc at_ s h0 (by omega)
  rw [if_neg e, hf, Option.bind_some, if_neg (by omega), if_neg (by omega)]
  have := tmod_lt b n hb0 (by omega)
  exact ⟨_, _, _, rfl, this.1, this.2, by dsimp only; omega, by dsimp only; omega⟩
theorem spec_l1Cur_one.ok (c : List Int) (hc : isCode c) (at_ s n : Int) (h0 : 0 ≤ at_) (h1 : at_ ≤ 100000000) (hn : 1 ≤ n) (hn2 : n ≤ 200) : ∃ b a' s', spec_l1Cur_one.f c at_ s n = some (b, a', s') ∧ 0 ≤ a' ∧ a' ≤ at_ + 1 := by
 obtain ⟨x, a', s', h, _, _, h2, h3⟩ := spec_l1Cur_pick.ok c hc at_ s n h0 h1 hn hn2
 unfold spec_l1Cur_one.f
 rw [h]
 exact ⟨_, _, _, rfl, h2, h3⟩
theorem spec_l1Cur_among.ok (c : List Int) (hc : isCode c) (at_ s : Int) (l : List Int) (h0 : 0 ≤ at_) (h1 : at_ ≤ 100000000) (hn : 1 ≤ l.length) (hn2 : l.length ≤ 200) : ∃ x a' s', spec_l1Cur_among.f c at_ s l = some (x, a', s') ∧ 0 ≤ a' ∧ a' ≤ at_ + 1 := by
 unfold spec_l1Cur_among.f
 obtain ⟨x, a', s', hf, x0, x1, a0, a1⟩ := spec_l1Cur_pick.ok c hc at_ s l.length h0 h1 (by omega) (by omega)
 rw [hf, Option.bind_some, if_pos x0, if_pos x1]
 exact ⟨_, _, _, rfl, a0, a1⟩
theorem spec_l1Cur_among.mem (c : List Int) (hc : isCode c) (at_ s : Int) (l : List Int) (h0 : 0 ≤ at_) (h1 : at_ ≤ 100000000) (hn : 1 ≤ l.length) (hn2 : l.length ≤ 200) : ∃ x a' s', spec_l1Cur_among.f c at_ s l = some (x, a', s') ∧ x ∈ l ∧ 0 ≤ a' ∧ a' ≤ at_ + 1 := by
 unfold spec_l1Cur_among.f
 obtain ⟨x, a', s', hf, x0, x1, a0, a1⟩ := spec_l1Cur_pick.ok c hc at_ s l.length h0 h1 (by omega) (by omega)
 rw [hf, Option.bind_some, if_pos x0, if_pos x1]
 obtain ⟨j, rfl⟩ := Int.eq_ofNat_of_zero_le x0
 exact ⟨_, _, _, rfl, rd_mem l j (by omega), a0, a1⟩
theorem spec_l1Cur_sureOrder.ok_l (c : List Int) (hc : isCode c) (n m : Int) (hn : n ≤ 100) (hm : m ≤ 50000000) : ∀ (d : Nat) (p : List Int) (x : Int) (at_ s : Int), x + d = n → 0 ≤ x → (p.length : Int) = x → 0 ≤ at_ → at_ ≤ m + x → ∃ q a' s', spec_l1Cur_sureOrder.l0.v n p x c at_ s = some (q, a', s') ∧ (q.length : Int) = n ∧ 0 ≤ a' ∧ a' ≤ m + n := by
 intro d
 induction d with
 | zero =>
  intro p x at_ s hd h0 hp a0 a1
  rw [spec_l1Cur_sureOrder.l0.v_eq, if_neg (by omega)]
  exact ⟨_, _, _, rfl, by omega, a0, by omega⟩
 | succ d ih =>
  intro p x at_ s hd h0 hp a0 a1
  obtain ⟨y, a', s', hf, y0, y1, b0, b1⟩ := spec_l1Cur_pick.ok c hc at_ s (p.length + 1) a0 (by omega) (by omega) (by omega)
  rw [spec_l1Cur_sureOrder.l0.v_eq, if_pos (by omega), wrap_id (x := (p.length : Int) + 1) (by omega) (by omega), hf, Option.bind_some]
  simp only []
  rw [if_pos y0, if_pos (by omega), spec_l1Own.ok _ (by rw [List.length_take]; omega), Option.bind_some, if_pos (by rw [List.length_take]; omega), Option.bind_some, Option.bind_some, if_pos (by simp; omega), wrap_id (x := x + 1) (by omega) (by omega)]
  exact ih _ (x + 1) a' s' (by omega) (by omega) (by simp; omega) b0 (by omega)
theorem spec_l1Cur_sureOrder.ok (c : List Int) (hc : isCode c) (at_ s n : Int) (h0 : 0 ≤ n) (hn : n ≤ 100) (a0 : 0 ≤ at_) (m : Int) (hm : m ≤ 50000000) (a1 : at_ ≤ m) : ∃ q a' s', spec_l1Cur_sureOrder.f.v c at_ s n = some (q, a', s') ∧ (q.length : Int) = n ∧ 0 ≤ a' ∧ a' ≤ m + n := by
 rw [spec_l1Cur_sureOrder.f.v_eq]
 exact spec_l1Cur_sureOrder.ok_l c hc n m hn hm n.toNat [] 0 at_ s (by omega) (by omega) (by simp) a0 (by omega)
theorem spec_l1Cur_order.gen (c : List Int) (hc : isCode c) (at_ s m : Int) (hm : m ≤ 40000000) (a0 : 0 ≤ at_) (a1 : at_ ≤ m) : ∃ q a' s', spec_l1Cur_order.f.v c at_ s = some (q, a', s') ∧ q.length ≤ 100 ∧ 0 ≤ a' ∧ a' ≤ m + 200 := by
 rw [spec_l1Cur_order.f.v_eq]
 obtain ⟨x, b, t, hf, x0, x1, b0, b1⟩ := spec_l1Cur_pick.ok c hc at_ s 6 a0 (by omega) (by omega) (by omega)
 rw [hf, Option.bind_some]
 simp only []
 obtain ⟨q, b2, t2, hf2, ql, c0, c1⟩ := spec_l1Cur_sureOrder.ok c hc b t (1 + x) (by omega) (by omega) b0 (m + 1) (by omega) (by omega)
 rw [wrap_id (x := 1 + x) (by omega) (by omega), hf2, Option.bind_some]
 simp only []
 obtain ⟨y, b3, t3, hf3, y0, y1, d0, d1⟩ := spec_l1Cur_pick.ok c hc b2 t2 14 c0 (by omega) (by omega) (by omega)
 rw [hf3, Option.bind_some]
 simp only []
 by_cases e0 : y = 0
 ·rw [if_pos e0]
  obtain ⟨z, b4, t4, hf4, z0, z1, g0, g1⟩ := spec_l1Cur_pick.ok c hc b3 t3 q.length d0 (by omega) (by omega) (by omega)
  rw [hf4, Option.bind_some]
  simp only []
  obtain ⟨u, b5, t5, hf5, k0, k1⟩ := spec_l1Cur_among.ok c hc b4 t4 [-1, 0, (q.length : Int), 4611686018427387904] g0 (by omega) (by simp) (by simp)
  rw [hf5, Option.bind_some]
  simp only []
  rw [if_pos z0, if_pos z1]
  exact ⟨_, _, _, rfl, by rw [List.length_set]; omega, k0, by omega⟩
 ·rw [if_neg e0]
  by_cases e1 : y = 1
  ·rw [if_pos e1]
   exact ⟨_, _, _, rfl, by simp, d0, by omega⟩
  ·rw [if_neg e1]
   by_cases e2 : y = 2
   ·rw [if_pos e2]
    obtain ⟨z, b4, t4, hf4, z0, z1, g0, g1⟩ := spec_l1Cur_pick.ok c hc b3 t3 2 d0 (by omega) (by omega) (by omega)
    rw [hf4, Option.bind_some]
    simp only []
    obtain ⟨q2, b5, t5, hf5, ql2, k0, k1⟩ := spec_l1Cur_sureOrder.ok c hc b4 t4 (8 + z) (by omega) (by omega) g0 (m + 100) (by omega) (by omega)
    rw [wrap_id (x := 8 + z) (by omega) (by omega), hf5, Option.bind_some]
    exact ⟨_, _, _, rfl, by dsimp only; omega, k0, by dsimp only; omega⟩
   ·rw [if_neg e2]
    exact ⟨_, _, _, rfl, by omega, d0, by omega⟩
theorem spec_l1Cur_order.ok (c : List Int) (hc : isCode c) (at_ s : Int) (a0 : 0 ≤ at_) (a1 : at_ ≤ 1000) : ∃ q a' s', spec_l1Cur_order.f.v c at_ s = some (q, a', s') ∧ q.length ≤ 200 ∧ 0 ≤ a' ∧ a' ≤ 10000000 := by
 obtain ⟨q, a', s', h1, h2, h3, h4⟩ := spec_l1Cur_order.gen c hc at_ s 1000 (by omega) a0 a1
 exact ⟨q, a', s', h1, by omega, h3, by omega⟩
theorem spec_l1Cur_few.ok (c : List Int) (hc : isCode c) (most : Int) (hm : 2 ≤ most) (hm2 : most ≤ 6) : ∃ q a' s', spec_l1Cur_few.f.v c 0 0 most = some (q, a', s') ∧ q.length ≤ 200 ∧ 0 ≤ a' ∧ a' ≤ 10000000 := by
 obtain ⟨b, a1, s1, hf, b0, b1⟩ := spec_l1Cur_one.ok c hc 0 0 14 (by omega) (by omega) (by omega) (by omega)
 rw [spec_l1Cur_few.f.v_eq, hf, Option.bind_some]
 simp only []
 by_cases e : b = true
 ·obtain ⟨q, a2, s2, hf2, hq, c0, c1⟩ := spec_l1Cur_order.ok c hc a1 s1 b0 (by omega)
  rw [if_pos e, hf2, Option.bind_some]
  exact ⟨_, _, _, rfl, hq, c0, c1⟩
 ·obtain ⟨x, a2, s2, hf2, x0, x1, c0, c1⟩ := spec_l1Cur_pick.ok c hc a1 s1 (most - 1) b0 (by omega) (by omega) (by omega)
  rw [if_neg e, wrap_id (x := most - 1) (by omega) (by omega), hf2, Option.bind_some]
  simp only []
  obtain ⟨q, a3, s3, hf3, hq, d0, d1⟩ := spec_l1Cur_sureOrder.ok c hc a2 s2 (2 + x) (by omega) (by omega) c0 1000000 (by omega) (by omega)
  rw [wrap_id (x := 2 + x) (by omega) (by omega), hf3, Option.bind_some]
  exact ⟨_, _, _, rfl, by dsimp only; omega, d0, by dsimp only; omega⟩
theorem spec_DrawAllLeast.ok (c : List Int) (hc : isCode c) : ∃ q, spec_DrawAllLeast.f.v c = some q ∧ q.length ≤ 200 := by
 obtain ⟨q, a, s, hf, hq, _⟩ := spec_l1Cur_few.ok c hc 5 (by omega) (by omega)
 rw [spec_DrawAllLeast.f.v_eq, hf, Option.bind_some]
 exact ⟨q, rfl, hq⟩
theorem spec_DrawCountFirst.ok (c : List Int) (hc : isCode c) : ∃ q r, spec_DrawCountFirst.f.v c = some (q, r) ∧ q.length ≤ 200 := by
 obtain ⟨q, a, s, hf, hq, a0, a1⟩ := spec_l1Cur_few.ok c hc 6 (by omega) (by omega)
 obtain ⟨x, a2, s2, hf2, x0, x1, _⟩ := spec_l1Cur_pick.ok c hc a s 6 a0 (by omega) (by omega) (by omega)
 rw [spec_DrawCountFirst.f.v_eq, hf, Option.bind_some]
 simp only []
 rw [hf2, Option.bind_some]
 exact ⟨q, _, rfl, hq⟩
theorem spec_DrawLeastOfRank.ok (c : List Int) (hc : isCode c) : ∃ q r, spec_DrawLeastOfRank.f.v c = some (q, r) ∧ q.length ≤ 200 ∧ -9223372036854775808 ≤ r ∧ r ≤ 9223372036854775807 := by
 obtain ⟨q, a, s, hf, hq, a0, a1⟩ := spec_l1Cur_few.ok c hc 6 (by omega) (by omega)
 obtain ⟨x, a2, s2, hf2, x0, x1, b0, b1⟩ := spec_l1Cur_pick.ok c hc a s 20 a0 (by omega) (by omega) (by omega)
 obtain ⟨y, a3, s3, hf3, hy, _⟩ := spec_l1Cur_among.mem c hc a2 s2 [0, 1, 2, 5, 15, 100, (-1), 4611686018427387904, x] b0 (by omega) (by simp) (by simp)
 rw [spec_DrawLeastOfRank.f.v_eq, hf, Option.bind_some]
 simp only []
 rw [hf2, Option.bind_some]
 simp only []
 rw [hf3, Option.bind_some]
 have hb : -9223372036854775808 ≤ y ∧ y ≤ 9223372036854775807 := by
  simp only [List.mem_cons, List.mem_singleton, List.not_mem_nil, or_false] at hy
  omega
 exact ⟨q, y, rfl, hq, hb.1, hb.2⟩
theorem spec_l1Cur_sureLadder.ok_l (c : List Int) (hc : isCode c) (n : Int) (h2 : 2 ≤ n) (h6 : n ≤ 100) : ∀ (k : Nat) (l : List Int) (at_ s : Int), k ≤ 100 → l.length + k ≤ 1000 → 0 ≤ at_ → at_ + k ≤ 100000000 →
    ∃ r a' s', spec_l1Cur_sureLadder.l0.v (k : Int) c at_ s n l = some (n, r, a', s') ∧ r.length = l.length + k ∧ 0 ≤ a' ∧ a' ≤ at_ + k ∧ (∀ x ∈ r, x ∈ l ∨ (0 ≤ x ∧ x ≤ n - 2)) := by
  intro k
  induction k with
  | zero =>
    intro l at_ s _ _ h0 h1
    rw [spec_l1Cur_sureLadder.l0.v_eq, if_neg (by omega)]
    exact ⟨_, _, _, rfl, by omega, h0, by omega, fun x hx => .inl hx⟩
  | succ k ih =>
    intro l at_ s hk hl h0 h1
    obtain ⟨x, a', s', hf, x0, x1, a0, a1⟩ := spec_l1Cur_pick.ok c hc at_ s (n - 1) h0 (by omega) (by omega) (by omega)
    rw [spec_l1Cur_sureLadder.l0.v_eq, if_pos (by omega), wrap_id (x := n - 1) (by omega) (by omega), hf, Option.bind_some]
    simp only []
    rw [if_pos (by omega), wrap_id (x := ((k + 1 : Nat) : Int) - 1) (by omega) (by omega), show ((k + 1 : Nat) : Int) - 1 = (k : Int) by omega]
    obtain ⟨r, a2, s2, hr, e1, e2, e3, e4⟩ := ih (l ++ [x]) a' s' (by omega) (by rw [List.length_append, List.length_singleton]; omega) a0 (by omega)
    refine ⟨r, a2, s2, hr, by rw [e1, List.length_append, List.length_singleton]; omega, e2, by omega, fun y hy => ?_⟩
    rcases e4 y hy with h | h
    · rcases List.mem_append.1 h with h | h
      · exact .inl h
      · obtain rfl := List.mem_singleton.1 h
        exact .inr ⟨x0, by omega⟩
    · exact .inr h
theorem spec_l1Cur_sureLadder.ok (c : List Int) (hc : isCode c) (at_ s : Int) (ws rs : Int) (w2 : 2 ≤ ws) (w8 : ws ≤ 50) (r0 : 0 ≤ rs) (r1 : rs ≤ 90) (a0 : 0 ≤ at_) (a1 : at_ ≤ 50000000) :
    ∃ n r a' s', spec_l1Cur_sureLadder.f.v c at_ s ws rs = some (n, r, a', s') ∧ 2 ≤ n ∧ n ≤ ws ∧ (r.length : Int) ≤ rs ∧ (∀ x ∈ r, 0 ≤ x ∧ x ≤ n - 2) ∧ 0 ≤ a' ∧ a' ≤ at_ + 100 := by
  obtain ⟨x, b, t, hf, x0, x1, b0, b1⟩ := spec_l1Cur_pick.ok c hc at_ s (ws - 1) a0 (by omega) (by omega) (by omega)
  rw [spec_l1Cur_sureLadder.f.v_eq, wrap_id (x := ws - 1) (by omega) (by omega), hf, Option.bind_some]
  simp only []
  obtain ⟨y, b2, t2, hf2, y0, y1, c0, c1⟩ := spec_l1Cur_pick.ok c hc b t (rs + 1) b0 (by omega) (by omega) (by omega)
  rw [wrap_id (x := rs + 1) (by omega) (by omega), hf2, Option.bind_some]
  simp only []
  rw [wrap_id (x := 2 + x) (by omega) (by omega)]
  obtain ⟨k, rfl⟩ := Int.eq_ofNat_of_zero_le y0
  obtain ⟨r, a2, s2, hr, e1, e2, e3, e4⟩ := spec_l1Cur_sureLadder.ok_l c hc (2 + x) (by omega) (by omega) k [] b2 t2 (by omega) (by simp; omega) c0 (by omega)
  refine ⟨_, r, a2, s2, hr, by omega, by omega, by rw [e1]; simp; omega, fun z hz => ?_, e2, by omega⟩
  rcases e4 z hz with h | h
  · cases h
  · exact h
theorem spec_l1Cur_ladder.ok (c : List Int) (hc : isCode c) (at_ s : Int) (a0 : 0 ≤ at_) (a1 : at_ ≤ 40000000) : ∃ n r a' s', spec_l1Cur_ladder.f.v c at_ s = some (n, r, a', s') ∧ r.length ≤ 61 ∧ 0 ≤ a' ∧ a' ≤ at_ + 200 := by
 obtain ⟨n, r, b, t, hf, n0, n1, r1, r2, b0, b1⟩ := spec_l1Cur_sureLadder.ok c hc at_ s 6 12 (by omega) (by omega) (by omega) (by omega) a0 (by omega)
 rw [spec_l1Cur_ladder.f.v_eq, hf, Option.bind_some]
 simp only []
 obtain ⟨x, b2, t2, hf2, x0, x1, c0, c1⟩ := spec_l1Cur_pick.ok c hc b t 16 b0 (by omega) (by omega) (by omega)
 rw [hf2, Option.bind_some]
 simp only []
 by_cases e0 : x = 0
 ·obtain ⟨y, b3, t3, hf3, d0, d1⟩ := spec_l1Cur_among.ok c hc b2 t2 [-1, wrap64 (n - 1), 4611686018427387904] c0 (by omega) (by simp) (by simp)
  rw [if_pos e0, hf3, Option.bind_some]
  simp only []
  rw [if_pos (by omega)]
  exact ⟨_, _, _, _, rfl, by rw [List.length_append, List.length_singleton]; omega, d0, by omega⟩
 ·rw [if_neg e0]
  by_cases e1 : x = 1
  ·obtain ⟨y, b3, t3, hf3, d0, d1⟩ := spec_l1Cur_among.ok c hc b2 t2 [1, 2, 8, 9, -1] c0 (by omega) (by simp) (by simp)
   rw [if_pos e1, hf3, Option.bind_some]
   exact ⟨_, _, _, _, rfl, by first | omega | (dsimp only; omega), d0, by first | omega | (dsimp only; omega)⟩
  ·rw [if_neg e1]
   by_cases e2 : x = 2
   ·obtain ⟨y, b3, t3, hf3, y0, y1, d0, d1⟩ := spec_l1Cur_pick.ok c hc b2 t2 2 c0 (by omega) (by omega) (by omega)
    rw [if_pos e2, hf3, Option.bind_some]
    simp only []
    rw [wrap_id (x := 60 + y) (by omega) (by omega), if_pos (by omega), if_pos (by omega)]
    exact ⟨_, _, _, _, rfl, by rw [List.length_replicate]; omega, d0, by omega⟩
   ·rw [if_neg e2]
    exact ⟨_, _, _, _, rfl, by omega, c0, by omega⟩
theorem spec_lsInversions.ok_i (p : List Int) (hp : p.length ≤ 8) (i : Nat) (hi : i < p.length) : ∀ (d j : Nat) (acc : List (List Int)), j + d = p.length → acc.length + d ≤ 1000 → spec_lsInversions.l1.v p acc i j p.length i = spec_lsInversions.l0.v p (acc ++ invRow p i j d) p.length ((i + 1 : Nat) : Int) := by
 intro d
 induction d with
 | zero =>
  intro j acc hd ha
  rw [spec_lsInversions.l1.v_eq, if_neg (cast_nlt (by omega)), succ_wrap hi (by omega), invRow, List.append_nil]
 | succ d ih =>
  intro j acc hd ha
  have hj : j < p.length := by omega
  rw [spec_lsInversions.l1.v_eq, if_pos (cast_lt hj), if_pos (Int.natCast_nonneg i), if_pos (cast_lt hi), if_pos (Int.natCast_nonneg j), succ_wrap hj (by omega), invRow]
  by_cases e : rd p (i : Int) > rd p (j : Int)
  ·rw [if_pos e, if_pos e, if_pos (by omega), ih (j + 1) _ (by omega) (by simp; omega), List.append_assoc]; rfl
  ·rw [if_neg e, if_neg e, ih (j + 1) _ (by omega) (by omega)]
theorem spec_lsInversions.ok_o (p : List Int) (hp : p.length ≤ 8) : ∀ (d i : Nat) (acc : List (List Int)), i + d = p.length → acc.length + d * p.length ≤ 900 → spec_lsInversions.l0.v p acc p.length i = some (acc ++ invFrom p i d) := by
 intro d
 induction d with
 | zero =>
  intro i acc hd ha
  rw [spec_lsInversions.l0.v_eq, if_neg (cast_nlt (by omega)), invFrom, List.append_nil]
 | succ d ih =>
  intro i acc hd ha
  have hi : i < p.length := by omega
  rw [Nat.succ_mul] at ha
  have h1 := invRow_length p i (p.length - (i + 1)) (i + 1)
  rw [spec_lsInversions.l0.v_eq, if_pos (cast_lt hi), succ_wrap hi (by omega), spec_lsInversions.ok_i p hp i hi (p.length - (i + 1)) (i + 1) acc (by omega) (by omega), ih (i + 1) _ (by omega) (by rw [List.length_append]; omega), invFrom, List.append_assoc]
theorem spec_lsInversions.ok (p : List Int) (hp : p.length ≤ 8) : spec_lsInversions.f.v p = some (invs p) := by
 rw [spec_lsInversions.f.v_eq]
 have h2 : p.length * p.length ≤ 8 * 8 := Nat.mul_le_mul hp hp
 have := spec_lsInversions.ok_o p hp p.length 0 [] (by omega) (by simp; omega)
 simpa [invs] using this
theorem spec_l1Cur_leastOf.ok_i (c : List Int) (at_ s n left : Int) (p out : List Int) (hp : p.length ≤ 8) : ∀ (d i : Nat) (acc : List Int), i + 1 + d = p.length → acc.length + d ≤ 1000 → spec_l1Cur_leastOf.l1.v p left acc (i : Int) c at_ s n out = spec_l1Cur_leastOf.l1.v p left (acc ++ descGo p d i) (((p.length - 1 : Nat)) : Int) c at_ s n out := by
 intro d
 induction d with
 | zero =>
  intro i acc hd ha
  rw [descGo, List.append_nil, show i = p.length - 1 by omega]
 | succ d ih =>
  intro i acc hd ha
  have e : wrap64 ((i : Int) + 1) = ((i + 1 : Nat) : Int) := succ_wrap (show i < p.length by omega) (by omega)
  rw [spec_l1Cur_leastOf.l1.v_eq, e, if_pos (cast_lt (by omega)), if_pos (Int.natCast_nonneg i), if_pos (cast_lt (by omega)), if_pos (Int.natCast_nonneg _), descGo]
  by_cases f : rd p (i : Int) > rd p ((i : Int) + 1)
  ·have f' : rd p (i : Int) > rd p ((i + 1 : Nat) : Int) := f
   rw [if_pos f', if_pos f, if_pos (by omega), ih (i + 1) _ (by omega) (by simp; omega), List.append_assoc]; rfl
  ·have f' : ¬ rd p (i : Int) > rd p ((i + 1 : Nat) : Int) := f
   rw [if_neg f', if_neg f, ih (i + 1) _ (by omega) (by omega)]
theorem spec_l1Cur_leastOf.ok_0 (c : List Int) (hc : isCode c) (n : Int) : ∀ (m : Nat) (p out : List Int) (at_ s : Int), invC p = m → 1 ≤ p.length → p.length ≤ 8 → out.length + m ≤ 200 → 0 ≤ at_ → at_ + m ≤ 90000000 → ∃ l a' s', spec_l1Cur_leastOf.l0.v p (m : Int) c at_ s n out = some (n, l, a', s') ∧ l.length ≤ 200 := by
 intro m
 induction m with
 | zero =>
  intro p out at_ s hm h1 h8 ho a0 a1
  rw [spec_l1Cur_leastOf.l0.v_eq, if_neg (by omega)]
  exact ⟨_, _, _, rfl, by omega⟩
 | succ m ih =>
  intro p out at_ s hm h1 h8 ho a0 a1
  have hd : desc p ≠ [] := fun e => by have := desc_nil_any e; omega
  have hdl := desc_length p
  have hdp : 1 ≤ (desc p).length := by
   rcases Nat.eq_zero_or_pos (desc p).length with e | e
   ·exact absurd (List.length_eq_zero_iff.1 e) hd
   ·exact e
  have hi := spec_l1Cur_leastOf.ok_i c at_ s n ((m + 1 : Nat) : Int) p out h8 (p.length - 1) 0 [] (by omega) (by simp; omega)
  rw [spec_l1Cur_leastOf.l0.v_eq, if_pos (by omega)]
  refine (?_ : ∃ l a' s', spec_l1Cur_leastOf.l1.v p ((m + 1 : Nat) : Int) [] ((0 : Nat) : Int) c at_ s n out = some (n, l, a', s') ∧ l.length ≤ 200)
  rw [hi, List.nil_append]
  refine (?_ : ∃ l a' s', spec_l1Cur_leastOf.l1.v p ((m + 1 : Nat) : Int) (desc p) (((p.length - 1 : Nat)) : Int) c at_ s n out = some (n, l, a', s') ∧ l.length ≤ 200)
  obtain ⟨x, a2, s2, hf, x0, x1, b0, b1⟩ := spec_l1Cur_pick.ok c hc at_ s ((desc p).length : Int) a0 (by omega) (by omega) (by omega)
  obtain ⟨k, rfl⟩ := Int.eq_ofNat_of_zero_le x0
  have hk : rd (desc p) (k : Int) ∈ desc p := rd_mem (desc p) k (by omega)
  obtain ⟨j, hj, hjl, hjr⟩ := desc_mem hk
  have hcf := invC_fall p j hjl hjr
  rw [spec_l1Cur_leastOf.l1.v_eq, succ_wrap (show p.length - 1 < p.length by omega) (by omega), if_neg (cast_nlt (by omega)), hf, Option.bind_some]
  simp only []
  rw [if_pos x0, if_pos x1, if_pos (by omega), hj, spec_alSwap.ok p j hjl (by omega), Option.bind_some, wrap_id (x := ((m + 1 : Nat) : Int) - 1) (by omega) (by omega), show ((m + 1 : Nat) : Int) - 1 = (m : Int) by omega]
  exact ih (swp p j (j + 1)) _ a2 s2 (by omega) (by rw [swp_length]; omega) (by rw [swp_length]; omega) (by simp; omega) b0 (by omega)
theorem spec_l1Cur_leastOf.ok (c : List Int) (hc : isCode c) (at_ s : Int) (p : List Int) (h1 : 1 ≤ p.length) (h8 : p.length ≤ 8) (a0 : 0 ≤ at_) (a1 : at_ ≤ 80000000) : ∃ n l a' s', spec_l1Cur_leastOf.f.v c at_ s p = some (n, l, a', s') ∧ l.length ≤ 200 := by
 have hi := invs_invC p
 have hle := invC_le p h8
 rw [spec_l1Cur_leastOf.f.v_eq, spec_lsInversions.ok p h8, Option.bind_some]
 obtain ⟨l, a', s', hf, hl⟩ := spec_l1Cur_leastOf.ok_0 c hc (p.length : Int) (invC p) p [] at_ s rfl h1 h8 (by simp; omega) a0 (by omega)
 rw [hi, hf]
 exact ⟨_, _, _, _, rfl, hl⟩
theorem spec_l1Cur_least.ok (c : List Int) (hc : isCode c) : ∃ n l a' s', spec_l1Cur_least.f.v c 0 0 6 = some (n, l, a', s') ∧ l.length ≤ 200 := by
 obtain ⟨b, a1, s1, hf, b0, b1⟩ := spec_l1Cur_one.ok c hc 0 0 10 (by omega) (by omega) (by omega) (by omega)
 rw [spec_l1Cur_least.f.v_eq, hf, Option.bind_some]
 simp only []
 by_cases e : b = true
 ·obtain ⟨n, l, a2, s2, hf2, l1, _⟩ := spec_l1Cur_ladder.ok c hc a1 s1 b0 (by omega)
  rw [if_pos e, hf2, Option.bind_some]
  exact ⟨_, _, _, _, rfl, by dsimp only; omega⟩
 ·obtain ⟨x, a2, s2, hf2, x0, x1, c0, c1⟩ := spec_l1Cur_pick.ok c hc a1 s1 5 b0 (by omega) (by omega) (by omega)
  rw [if_neg e, wrap_id (x := 6 - 1) (by omega) (by omega), show (6 - 1 : Int) = 5 by omega, hf2, Option.bind_some]
  simp only []
  obtain ⟨q, a3, s3, hf3, hq, d0, d1⟩ := spec_l1Cur_sureOrder.ok c hc a2 s2 (2 + x) (by omega) (by omega) c0 1000000 (by omega) (by omega)
  rw [wrap_id (x := 2 + x) (by omega) (by omega), hf3, Option.bind_some]
  simp only []
  obtain ⟨n, l, a4, s4, hf4, hl⟩ := spec_l1Cur_leastOf.ok c hc a3 s3 q (by omega) (by omega) d0 (by omega)
  rw [hf4, Option.bind_some]
  exact ⟨_, _, _, _, rfl, hl⟩
theorem spec_DrawRankOfLeast.ok (c : List Int) (hc : isCode c) : ∃ n l, spec_DrawRankOfLeast.f.v c = some (n, l) ∧ l.length ≤ 200 := by
 obtain ⟨n, l, a, s, hf, hl⟩ := spec_l1Cur_least.ok c hc
 rw [spec_DrawRankOfLeast.f.v_eq, hf, Option.bind_some]
 exact ⟨n, l, rfl, hl⟩
theorem spec_LeastOfRank.ok_i (n : Nat) (hn : n ≤ 6) (p : List Int) (ho : isOrd p = true) (hp : p.length = n) (out : List Int) (hout : out.length ≤ 1000) (z x8 : Int) (x : Int) (r' : Nat) : ∀ (d i r k : Nat), i + 1 + d = p.length → pickL p (descGo p d i) r = some (x, r') → r ≤ 1152921504606846976 → d + 1 ≤ k → ∃ k', k ≤ k' + d + 1 ∧ spec_LeastOfRank.l1 k p (r : Int) z x8 (i : Int) (n : Int) out = spec_LeastOfRank.l0 k' (swp p x.toNat (x.toNat + 1)) (r' : Int) z (wrap64 (x8 - 1)) (n : Int) (out ++ [x]) := by
  have hl := isOrd_len ho
  intro d
  induction d with
  | zero => intro i r k hd h; rw [descGo] at h; cases h
  | succ d ih =>
    intro i r k hd h hr hk
    obtain ⟨k, rfl⟩ : ∃ m, k = m + 1 := ⟨k - 1, by omega⟩
    have hi : i + 1 < p.length := by omega
    rw [spec_LeastOfRank.l1, succ_wrap (show i < p.length by omega) (by omega), if_pos (by omega), if_pos (by omega), if_pos (by omega), if_pos (by omega)]
    rw [descGo] at h
    by_cases f : rd p (i : Int) > rd p ((i : Int) + 1)
    · rw [if_pos f, pickL] at h
      have hc := cnt16_le p (i : Int) (by omega)
      have h8 : (8 : Nat) ^ 16 = 281474976710656 := by decide
      have hcn : spec_LeastOfRank.ct (n : Int) (swp p i (i + 1)) = some ((cnt16 p (i : Int) : Nat) : Int) := by
        unfold spec_LeastOfRank.ct
        rw [toNat_cast, spec_alCounter_count.ok_n n hn _ (isOrd_swp ho i hi) (by rw [swp_length]; exact hp)]; rfl
      rw [if_neg (by have e_ : ((i + 1 : Nat) : Int) = (i : Int) + 1 := by omega
                     rw [e_]; omega), spec_alSwap.ok p i hi (by omega)]
      simp only [Option.bind_some]
      rw [hcn]
      simp only [Option.bind_some]
      by_cases e : r < cnt16 p (i : Int)
      · rw [if_pos e] at h
        obtain ⟨rfl, rfl⟩ : (i : Int) = x ∧ r = r' := by simpa using h
        rw [if_pos (by omega), if_pos (by omega), toNat_cast]
        exact ⟨k, by omega, rfl⟩
      · rw [if_neg e] at h
        rw [if_neg (by omega), wrap_id (x := (r : Int) - _) (by omega) (by omega), show (r : Int) - ((cnt16 p (i : Int) : Nat) : Int) = ((r - cnt16 p (i : Int) : Nat) : Int) by omega]
        obtain ⟨k', h1, h2⟩ := ih (i + 1) (r - cnt16 p (i : Int)) k (by omega) h (by omega) (by omega)
        exact ⟨k', by omega, h2⟩
    · rw [if_neg f] at h
      have hne : rd p (i : Int) ≠ rd p ((i + 1 : Nat) : Int) := fun e => by
        have := (isOrd_all ho).2
        rw [rd_lt p i (by omega), rd_lt p (i + 1) hi] at e
        have := (List.nodup_iff_pairwise_ne.1 this)
        exact (List.pairwise_iff_getElem.1 this i (i + 1) (by omega) hi (by omega)) e
      have f' : rd p (i : Int) < rd p ((i + 1 : Nat) : Int) := by
        have e_ : ((i + 1 : Nat) : Int) = (i : Int) + 1 := by omega
        rw [e_] at hne ⊢; omega
      rw [if_pos f']
      obtain ⟨k', h1, h2⟩ := ih (i + 1) r k (by omega) h (by omega) (by omega)
      exact ⟨k', by omega, h2⟩
theorem spec_LeastOfRank.ok_o (n : Nat) (hn2 : 2 ≤ n) (hn : n ≤ 6) (z : Int) : ∀ (m : Nat) (p : List Int) (r k : Nat) (out : List Int), invC p = m → isOrd p = true → p.length = n → r < cntF 16 p → 10 * m + 1 ≤ k → out.length + m ≤ 100 → spec_LeastOfRank.l0 k p (r : Int) z (m : Int) (n : Int) out = some ((n : Int), out ++ lorF m p r, true) := by
 intro m
 induction m with
 | zero =>
  intro p r k out hm ho h6 hr hk hout
  obtain ⟨k, rfl⟩ : ∃ z, k = z + 1 := ⟨k - 1, by omega⟩
  rw [spec_LeastOfRank.l0, if_neg (by omega), lorF, List.append_nil]
 | succ m ih =>
  intro p r k out hm ho h6 hr hk hout
  have hdn : desc p ≠ [] := fun e => by have := desc_nil_inv e ho; omega
  have h15 := invC_six (p := p) (by omega)
  have h8 : (8 : Nat) ^ 16 = 281474976710656 := by decide
  have hcl := cntF_le 16 p (by omega)
  rw [cntF_sum h15 hdn] at hr
  obtain ⟨x, r', hp, hx, hr'⟩ := pickL_some p (desc p) r hr
  rw [← cntF_sum h15 hdn] at hr
  obtain ⟨k, rfl⟩ : ∃ z, k = z + 1 := ⟨k - 1, by omega⟩
  rw [spec_LeastOfRank.l0, if_pos (by omega)]
  obtain ⟨k', h1, h2⟩ := spec_LeastOfRank.ok_i n hn p ho h6 out (by omega) z ((m + 1 : Nat) : Int) x r' (p.length - 1) 0 r k (by omega) hp (by omega) (by omega)
  rw [show ((0 : Nat) : Int) = 0 from rfl] at h2
  rw [h2]
  obtain ⟨j, rfl, hj, hf⟩ := desc_mem hx
  have hi := invC_fall p j hj hf
  rw [wrap_id (by omega) (by omega), show ((m + 1 : Nat) : Int) - 1 = (m : Int) by omega, toNat_cast, ih (swp p j (j + 1)) r' k' _ (by omega) (isOrd_swp ho j hj) (by rw [swp_length]; exact h6) (by unfold cnt16 at hr'; rw [toNat_cast] at hr'; exact hr') (by omega) (by simp; omega), lorF, hp]
  simp
theorem spec_LeastOfRank.ok (p : List Int) (r : Int) : spec_LeastOfRank.f p r = some (lorM p r) := by
 unfold spec_LeastOfRank.f spec_LeastOfRank.g lorM
 rw [show (spec_LeastOfRank.ev fun k_ => spec_alGood.f k_ p) = spec_alGood.f.v p from rfl, spec_alGood.ok, Option.bind_some]
 by_cases h : cntd p = true
 ·have hc := cntd_iff.1 h
  have h8 : (8 : Nat) ^ 16 = 281474976710656 := by decide
  rw [if_pos h, spec_LeastOfRank.j0]
  by_cases h3 : r < 0
  ·rw [decide_eq_true h3, if_pos rfl, if_neg (by omega)]
  ·rw [decide_eq_false h3, if_neg (by simp)]
   unfold spec_LeastOfRank.nw
   rw [if_pos (by omega), Option.bind_some]
   unfold spec_LeastOfRank.ct
   rw [toNat_cast, spec_alCounter_count.ok_n p.length hc.2.2 p hc.1 rfl, Option.bind_some]
   by_cases h4 : r ≥ ((cntF 16 p : Nat) : Int)
   ·rw [if_pos h4, if_neg (by omega)]
   ·obtain ⟨r, rfl⟩ := Int.eq_ofNat_of_zero_le (show 0 ≤ r by omega)
    have hi := invC_six hc.2.2
    rw [if_neg h4, show (spec_LeastOfRank.ev fun k_ => spec_lsInversions.f k_ p) = spec_lsInversions.f.v p from rfl, spec_lsInversions.ok p (by omega), Option.bind_some, invs_invC, spec_LeastOfRank.ok_o p.length hc.2.1 hc.2.2 _ (invC p) p r 199 [] rfl hc.1 rfl (by omega) (by omega) (by simp; omega), if_pos ⟨h, by omega, by omega⟩, toNat_cast, List.nil_append]
 ·rw [if_neg h, if_neg (fun z => h z.1), spec_LeastOfRank.j0, if_pos rfl]
theorem spec_l1All.ok_l (a b : Int) (xs : List Int) (hn : xs.length ≤ 140737488355328) : ∀ (d i : Nat), i + d = xs.length → spec_l1All.l0.v a b xs xs.length i = some ((xs.drop i).all fun x => decide (a ≤ x) && decide (x ≤ b)) := by
 intro d
 induction d with
 | zero =>
  intro i hd
  rw [spec_l1All.l0.v_eq, if_neg (cast_nlt (by omega)), List.drop_eq_nil_of_le (by omega)]
  rfl
 | succ d ih =>
  intro i hd
  have h : i < xs.length := by omega
  rw [spec_l1All.l0.v_eq, if_pos (cast_lt h), if_pos (Int.natCast_nonneg i), if_pos (cast_lt h), succ_wrap h hn, ih (i + 1) (by omega), drop_rd xs i h, List.all_cons]
  unfold spec_l1In.f
  by_cases e : a ≤ rd xs (i : Int)
  ·rw [if_pos (show rd xs (i : Int) ≥ a from e), Option.bind_some, decide_eq_true e, Bool.true_and]
   by_cases e2 : rd xs (i : Int) ≤ b
   ·rw [decide_eq_true e2, if_pos rfl, Bool.true_and]
   ·rw [decide_eq_false e2, if_neg (by simp), Bool.false_and]
  ·rw [if_neg (show ¬ rd xs (i : Int) ≥ a from e), Option.bind_some, decide_eq_false e, if_neg (by simp), Bool.false_and, Bool.false_and]
theorem spec_l1All.ok (xs : List Int) (a b : Int) (hn : xs.length ≤ 140737488355328) : spec_l1All.f.v xs a b = some (xs.all fun x => decide (a ≤ x) && decide (x ≤ b)) := by
 rw [spec_l1All.f.v_eq]
 have := spec_l1All.ok_l a b xs hn xs.length 0 (by omega)
 simpa using this
theorem spec_laGood.ok (n : Int) (l : List Int) : spec_laGood.f.v n l = some (good n l) := by
 rw [spec_laGood.f.v_eq]
 unfold spec_l1In.f good
 by_cases h1 : 2 ≤ n
 ·rw [if_pos (show n ≥ 2 from h1), Option.bind_some, decide_eq_true h1, Bool.true_and]
  by_cases h2 : n ≤ 8
  ·rw [decide_eq_true h2, if_pos rfl, Bool.true_and]
   by_cases h3 : l.length ≤ 60
   ·rw [if_pos (by omega), decide_eq_true h3, Bool.true_and, spec_l1All.ok l 0 _ (by omega), wrap_id (x := n - 2) (by omega) (by omega)]; rfl
   ·rw [if_neg (by omega), decide_eq_false h3, Bool.false_and]
  ·rw [decide_eq_false h2, if_neg (by simp), Bool.false_and, Bool.false_and]
 ·rw [if_neg (show ¬ n ≥ 2 from h1), Option.bind_some, decide_eq_false h1, if_neg (by simp), Bool.false_and, Bool.false_and, Bool.false_and]
theorem spec_laOver.ok (w r : Int) (h0 : -1000 ≤ r) (h1 : r ≤ 1000) : spec_laOver.f w r = some (over w r) := by
 unfold spec_laOver.f over
 rw [wrap_id (x := r + 1) (by omega) (by omega)]
 by_cases a : w = r
 ·rw [if_pos a, if_pos a]
 ·rw [if_neg a, if_neg a]
  by_cases b : w = r + 1
  ·rw [if_pos b, if_pos b]
  ·rw [if_neg b, if_neg b]
theorem spec_laDown.ok_l (xs : List Int) (hn : xs.length ≤ 1000) (hb : ∀ x ∈ xs, -1000 ≤ x ∧ x ≤ 1000) : ∀ (d i : Nat) (w : Int) (acc : List Int), i + d = xs.length → acc.length ≤ i + 1 → spec_laDown.l0.v w acc xs xs.length i = some (acc ++ wayT w (xs.drop i)) := by
 intro d
 induction d with
 | zero =>
  intro i w acc hd ha
  rw [spec_laDown.l0.v_eq, if_neg (cast_nlt (by omega)), List.drop_eq_nil_of_le (by omega), wayT, List.append_nil]
 | succ d ih =>
  intro i w acc hd ha
  have h : i < xs.length := by omega
  obtain ⟨h0, h1⟩ := hb _ (rd_mem xs i h)
  rw [spec_laDown.l0.v_eq, if_pos (cast_lt h), if_pos (Int.natCast_nonneg i), if_pos (cast_lt h), spec_laOver.ok w _ h0 h1, Option.bind_some, if_pos (by omega), succ_wrap h (by omega), ih (i + 1) _ _ (by omega) (by simp; omega), drop_rd xs i h, wayT, List.append_assoc]
  rfl
theorem spec_laDown.ok (xs : List Int) (w : Int) (hn : xs.length ≤ 1000) (hb : ∀ x ∈ xs, -1000 ≤ x ∧ x ≤ 1000) : spec_laDown.f.v xs w = some (wayL w xs) := by
 rw [spec_laDown.f.v_eq]
 have := spec_laDown.ok_l xs hn hb xs.length 0 w [w] (by omega) (by simp)
 simpa [wayL] using this
theorem good_wide {n : Int} {l : List Int} (h : good n l = true) : l.length ≤ 1000 ∧ ∀ x ∈ l, -1000 ≤ x ∧ x ≤ 1000 := by
 obtain ⟨_, h2, h3, h4⟩ := good_iff.1 h
 exact ⟨by omega, fun x hx => by have := h4 x hx; omega⟩
theorem spec_laResult.ok_l (n : Int) (l : List Int) (hg : good n l = true) : ∀ (d i : Nat) (acc : List Int), i + d = n.toNat → acc.length ≤ i → spec_laResult.l0.v n l acc i = some (acc ++ resGo l d i) := by
 obtain ⟨g1, g2, _, _⟩ := good_iff.1 hg
 obtain ⟨h1, h2⟩ := good_wide hg
 intro d
 induction d with
 | zero =>
  intro i acc hd ha
  rw [spec_laResult.l0.v_eq, if_neg (by omega), resGo, List.append_nil]
 | succ d ih =>
  intro i acc hd ha
  rw [spec_laResult.l0.v_eq, if_pos (by omega), spec_laDown.ok l _ h1 h2, Option.bind_some, if_pos (Int.natCast_nonneg _), if_pos (by rw [wayL_length]; omega), if_pos (by omega), wayL_last, succ_wrap (show i < n.toNat by omega) (by omega), ih (i + 1) _ (by omega) (by simp; omega), resGo, List.append_assoc]; rfl
theorem spec_laResult.ok (n : Int) (l : List Int) (hg : good n l = true) : spec_laResult.f.v n l = some (resL n l) := by
 rw [spec_laResult.f.v_eq]
 have := spec_laResult.ok_l n l hg n.toNat 0 [] (by omega) (by simp)
 simpa [resL] using this
theorem spec_alLadder.ok (n : Int) (l : List Int) : spec_alLadder.f.v n l = some (cLad n l) := by
 rw [spec_alLadder.f.v_eq, spec_laGood.ok, Option.bind_some]
 unfold cLad
 by_cases h : good n l = true
 ·have hg := good_iff.1 h
  rw [if_pos h, h, Bool.true_and]
  by_cases h6 : n ≤ 6
  ·rw [if_pos h6, spec_laResult.ok n l h, Option.bind_some, spec_lsInversions.ok _ (by rw [resL_length]; omega), Option.bind_some, decide_eq_true h6, Bool.true_and]
   congr 1
   unfold needL
   by_cases e : (l.length : Int) = ((invs (resL n l)).length : Int)
   ·rw [decide_eq_true (by omega)]; exact beq_iff_eq.2 e
   ·rw [decide_eq_false (by omega)]; exact beq_eq_false_iff_ne.2 e
  ·rw [if_neg h6, decide_eq_false h6]; rfl
 ·rw [if_neg h, Bool.eq_false_iff.2 h]; rfl
theorem spec_RankOfLeast.ok_ri (n : Nat) (hn6 : n ≤ 6) (p : List Int) (ho : isOrd p = true) (hp : p.length = n) : ∀ (m i s : Nat), i + m + 1 ≤ p.length → s + ((descGo p m i).map fun x => cntF 16 (swp p x.toNat (x.toNat + 1))).sum ≤ 1152921504606846976 → spec_RankOfLeast.ri (spec_alCounter_count.g (spec_alNew.fc n) n 16) p m i (s : Int) = some ((s + ((descGo p m i).map fun x => cntF 16 (swp p x.toNat (x.toNat + 1))).sum : Nat) : Int)
 | 0, i, s, _, _ => by rw [spec_RankOfLeast.ri, descGo]; rfl
 | m + 1, i, s, hi, hs => by
  rw [spec_RankOfLeast.ri, descGo, if_pos ⟨by omega, by omega⟩]
  rw [descGo] at hs
  by_cases e : rd p (i : Int) > rd p ((i : Int) + 1)
  ·rw [if_pos e] at hs ⊢
   rw [if_pos e]
   rw [List.map_cons, List.sum_cons] at hs
   simp only [toNat_cast] at hs
   rw [spec_alSwap.ok p i (by omega) (by omega)]
   simp only [Option.bind_some]
   rw [spec_alCounter_count.ok_n n hn6 _ (isOrd_swp ho i (by omega)) (by rw [swp_length]; exact hp)]
   simp only [Option.bind_some]
   rw [wrap_id (by omega) (by omega), show (s : Int) + ((cntF 16 (swp p i (i + 1)) : Nat) : Int) = ((s + cntF 16 (swp p i (i + 1)) : Nat) : Int) by omega]
   rw [spec_RankOfLeast.ok_ri n hn6 p ho hp m (i + 1) _ (by omega) (by omega), List.map_cons, List.sum_cons]
   simp only [toNat_cast, Nat.add_assoc]
  ·rw [if_neg e] at hs ⊢
   rw [if_neg e]
   exact spec_RankOfLeast.ok_ri n hn6 p ho hp m (i + 1) s (by omega) hs
theorem spec_RankOfLeast.ok_ro (n : Nat) (hn2 : 2 ≤ n) (hn6 : n ≤ 6) : ∀ (rs p : List Int) (s : Nat), (∀ x ∈ rs, 0 ≤ x ∧ x ≤ (n : Int) - 2) → isOrd p = true → p.length = n → s + rs.length * (8 * 8 ^ 16) ≤ 1152921504606846976 → spec_RankOfLeast.ro (spec_alCounter_count.g (spec_alNew.fc n) n 16) rs p (s : Int) = some ((s + rkLad rs p : Nat) : Int)
 | [], p, s, _, _, _, _ => by rw [spec_RankOfLeast.ro]; rfl
 | r :: rs, p, s, hr, ho, hp, hs => by
  have h0 := hr r (by simp)
  obtain ⟨j, rfl⟩ := Int.eq_ofNat_of_zero_le h0.1
  have hk := rkS_le (j : Int) p (by omega) (by omega)
  rw [List.length_cons, Nat.add_mul, Nat.one_mul] at hs
  have h1 := spec_RankOfLeast.ok_ri n hn6 p ho hp j 0 s (by omega) (by unfold rkS at hk; rw [toNat_cast] at hk; omega)
  rw [spec_RankOfLeast.ro, if_pos h0.1, toNat_cast, h1]
  simp only [Option.bind_some]
  rw [spec_alSwap.ok p j (by omega) (by omega)]
  simp only [Option.bind_some]
  have h2 := spec_RankOfLeast.ok_ro n hn2 hn6 rs (swp p j (j + 1)) (s + rkS (j : Int) p) (fun x hx => hr x (by simp [hx])) (isOrd_swp ho j (by omega)) (by rw [swp_length]; exact hp) (by omega)
  unfold rkS at h2
  rw [toNat_cast] at h2
  rw [h2, rkLad, rkS, toNat_cast, Nat.add_assoc]
theorem spec_RankOfLeast.ok (n : Int) (l : List Int) : spec_RankOfLeast.f n l = some (if cLad n l = true then (((rkLad l (resL n l) : Nat) : Int), true) else (0, false)) := by
 unfold spec_RankOfLeast.f
 rw [show (spec_RankOfLeast.ev fun k => spec_alLadder.f k n l) = spec_alLadder.f.v n l from rfl, spec_alLadder.ok, Option.bind_some]
 by_cases h : cLad n l = true
 ·have hc := cLad_iff.1 h
  have hg := good_iff.1 hc.1
  obtain ⟨m, rfl⟩ := Int.eq_ofNat_of_zero_le (show 0 ≤ n by omega)
  rw [if_pos h, if_pos h, if_pos (by omega)]
  rw [show (spec_RankOfLeast.ev fun k => spec_laResult.f k (m : Int) l) = spec_laResult.f.v (m : Int) l from rfl, spec_laResult.ok _ l hc.1, Option.bind_some, toNat_cast]
  have := spec_RankOfLeast.ok_ro m (by omega) (by omega) l (resL (m : Int) l) 0 hg.2.2.2 (isOrd_resL hc.1) (by rw [resL_length]; rfl) (by have : l.length * (8 * 8 ^ 16) ≤ 60 * (8 * 8 ^ 16) := Nat.mul_le_mul_right _ hg.2.2.1; omega)
  rw [show ((0 : Nat) : Int) = 0 from rfl, Nat.zero_add] at this
  rw [this]; rfl
 ·rw [if_neg h, if_neg h]
theorem fl_get (p : List Int) (i : Nat) {l : List Int} (h : (listF 16 p)[i]? = some l) : ((listF 16 p).map fun r => (⟨(p.length : Int), r⟩ : S34)).getD i z34 = ⟨(p.length : Int), l⟩ := by
 rw [List.getD_eq_getElem?_getD, List.getElem?_map, h]; rfl
theorem fl_big {p : List Int} (h : cntd p = true) : cntF 16 p ≤ 281474976710656 := by
 obtain ⟨ho, h2, h6⟩ := cntd_iff.1 h
 exact Nat.le_trans (cntF_le 16 p (by omega)) (by decide)
theorem fl_lor {p : List Int} (h : cntd p = true) (i : Nat) (hi : i < cntF 16 p) : impl_LeastOfRank.f p (i : Int) = some ((p.length : Int), lorF (invC p) p i, true) := by
 have := fl_big h
 rw [impl_LeastOfRank.ok p (i : Int) (by omega) (by omega)]
 unfold lorM
 rw [if_pos ⟨h, by omega, by omega⟩, Int.toNat_natCast]
theorem fl_el_ok (p : List Int) (h : cntd p = true) (i : Nat) (hi : i < cntF 16 p) : FlEl p ((cntF 16 p : Nat) : Int) ((invC p : Nat) : Int) ((listF 16 p).map fun r => (⟨(p.length : Int), r⟩ : S34)) i := by
 obtain ⟨ho, h2, h6⟩ := cntd_iff.1 h
 have h15 := inv15 h6
 obtain ⟨hc, hr, hk, hl, he⟩ := lor_all h i hi
 obtain ⟨hg, _, _⟩ := cLad_iff.1 hc
 refine ⟨(p.length : Int), lorF (invC p) p i, fl_get p i he, impl_ResultOf.f.ends _ _ (by rw [impl_ResultOf.ok, if_pos hg, hr]), laws_nSame.f.ends _ _ (laws_nSame.self p (by omega)), by rw [hl], fun h0 => ?_, fun _ => ⟨?_, fl_lor h i hi, laws_nLadder.f.ends _ _ _ _ (laws_nLadder.self _ _ (by omega))⟩⟩
 ·obtain ⟨_, _, _, hl2, he2⟩ := lor_all h (i - 1) (by omega)
  refine ⟨(p.length : Int), lorF (invC p) p (i - 1), fl_get p (i - 1) he2, laws_nLess.f.ends _ _ ?_⟩
  have hlen := listF_length 16 p
  have hp := List.pairwise_iff_getElem.1 (listF_lex 16 p) (i - 1) i (by omega) (by omega) (by omega)
  rw [List.getElem?_eq_getElem (by omega)] at he he2
  rw [Option.some.inj he, Option.some.inj he2] at hp
  rw [laws_nLess.ok _ _ (by omega), hp]
 ·rw [impl_RankOfLeast.ok, if_pos hc, hr, hk]
theorem fl_ok_ok (p : List Int) (h : cntd p = true) (h8 : cntF 16 p ≤ 800) : FlOk p ((listF 16 p).map fun r => (⟨(p.length : Int), r⟩ : S34)) ((cntF 16 p : Nat) : Int) ((invC p : Nat) : Int) := by
 obtain ⟨ho, h2, h6⟩ := cntd_iff.1 h
 have h15 := inv15 h6
 obtain ⟨t, ht⟩ := listF_head 16 p ho (by omega)
 have hlen := listF_length 16 p
 have hl : (leastL p).length ≤ 64 := leastL_length p (by omega)
 have hpos : 0 < (listF 16 p).length := by rw [ht]; simp
 refine ⟨by rw [List.length_map, hlen], by rw [List.length_map]; exact hpos, by rw [List.length_map]; omega, fun i hi => fl_el_ok p h i (by rw [List.length_map] at hi; omega), (p.length : Int), leastL p, fl_get p 0 (by rw [ht]; rfl), impl_LeastLadder.f.ends _ (by rw [impl_LeastLadder.ok, if_pos ⟨ho, h2⟩]), laws_nLadder.f.ends _ _ _ _ (laws_nLadder.self _ _ (by omega))⟩
theorem fl_one_ok (p : List Int) (h : cntd p = true) (al : List S34) (ok : Bool) (hok : ok = true → FlOk p al ((cntF 16 p : Nat) : Int) ((invC p : Nat) : Int)) : FlOne p al ok ((cntF 16 p : Nat) : Int) := by
  obtain ⟨ho, h2, h6⟩ := cntd_iff.1 h
  have h15 := inv15 h6
  have hb := fl_big h
  have hii := invs_invC p
  refine ⟨fun i => ((cfS p i : Nat) : Int), fun i => ((cf1 p i : Nat) : Int), ((invC p : Nat) : Int), h2, by omega, ?_, fun r hr => ⟨?_, ?_⟩, impl_InversionsOf.f.ends _ (by rw [impl_InversionsOf.ok, if_pos ho, hii]), by omega, fun hv => ?_, fun hv => ?_, hok, 0, [], ?_⟩
  · show ((cfS p 0 : Nat) : Int) = 0
    rfl
  · show impl_CountFirst.f p (r : Int) = some (((cf1 p r : Nat) : Int), true)
    rw [impl_CountFirst.ok, if_pos h, if_pos ⟨by omega, by omega⟩]
    unfold cf1
    split
    · rfl
    · rfl
  · have e := cfS_next ho r hr
    have hle : cfS p (r + 1) ≤ 6 * 8 ^ 16 := cfS_le p h6 (r + 1) (by omega)
    have hle2 : cfS p (r + 1) ≤ 1688849860263936 := Nat.le_trans hle (by decide)
    show wrap64 (((cfS p r : Nat) : Int) + ((cf1 p r : Nat) : Int)) = ((cfS p (r + 1) : Nat) : Int)
    rw [wrap_id (by omega) (by omega)]; omega
  · have hd : desc p ≠ [] := fun e => by have := desc_nil_any e; omega
    show ((cfS p (p.length - 1) : Nat) : Int) = _
    rw [cfS_all h6 hd]
  · have hd : desc p = [] := by
      cases e : desc p with
      | nil => rfl
      | cons a r => obtain ⟨j, rfl, _, _, hc⟩ := desc_head e; omega
    refine ⟨?_, ?_⟩
    · rw [← listF_length, listF_nil hd]; rfl
    · show ((cfS p (p.length - 1) : Nat) : Int) = 0
      unfold cfS; unfold desc at hd; rw [hd]; rfl
  · rw [impl_LeastOfRank.ok p _ (by omega) (by omega)]
    unfold lorM
    rw [if_neg (fun x => by omega)]
theorem fl_head_ok (l0 : List Int) (c0 : isCode l0) : FlHead l0 := by
 obtain ⟨p, hf, hl⟩ := spec_DrawAllLeast.ok l0 c0
 obtain ⟨kd, hkd⟩ := spec_DrawAllLeast.f.ends l0 hf
 by_cases h : cntd p = true
 ·obtain ⟨ho, h2, h6⟩ := cntd_iff.1 h
  have h15 := inv15 h6
  have hlen := listF_length 16 p
  have r3 : impl_CountLeast.f p = some (((cntF 16 p : Nat) : Int), true) := by rw [impl_CountLeast.ok, if_pos h]
  have r4 : spec_CountLeast.f p = some (((cntF 16 p : Nat) : Int), true) := by rw [spec_CountLeast.ok, if_pos h]
  by_cases h8 : cntF 16 p ≤ 800
  ·refine ⟨p, (listF 16 p).map fun r => (⟨(p.length : Int), r⟩ : S34), true, ((cntF 16 p : Nat) : Int), true, ⟨kd, hkd⟩, by rw [impl_AllLeast.ok, if_pos ⟨h, h8⟩], spec_AllLeast.f.ends _ (by rw [spec_AllLeast.ok, if_pos ⟨h, h8⟩]), r3, r4, laws_nLadders.f.ends _ _ (laws_nLadders.self _ (by rw [List.length_map]; omega) ?_), fun _ => rfl, fun _ => decide_eq_true (by omega), fun _ => fl_one_ok p h _ true (fun _ => fl_ok_ok p h h8)⟩
   intro x hx
   obtain ⟨r, hr, rfl⟩ := List.mem_map.1 hx
   have := listF_short 16 p r hr
   show r.length ≤ 1000
   omega
  ·have hn : ¬ (cntd p = true ∧ cntF 16 p ≤ 800) := fun x => h8 x.2
   exact ⟨p, [], false, ((cntF 16 p : Nat) : Int), true, ⟨kd, hkd⟩, by rw [impl_AllLeast.ok, if_neg hn], spec_AllLeast.f.ends _ (by rw [spec_AllLeast.ok, if_neg hn]), r3, r4, laws_nLadders.f.ends _ _ (laws_nLadders.self [] (by simp) (by simp)), fun x => (by cases x), fun _ => decide_eq_false (by omega), fun _ => fl_one_ok p h _ false (fun x => (by cases x))⟩
 ·have hn : ¬ (cntd p = true ∧ cntF 16 p ≤ 800) := fun x => h x.1
  exact ⟨p, [], false, 0, false, ⟨kd, hkd⟩, by rw [impl_AllLeast.ok, if_neg hn], spec_AllLeast.f.ends _ (by rw [spec_AllLeast.ok, if_neg hn]), by rw [impl_CountLeast.ok, if_neg h], by rw [spec_CountLeast.ok, if_neg h], laws_nLadders.f.ends _ _ (laws_nLadders.self [] (by simp) (by simp)), fun x => (by cases x), fun x => (by cases x), fun x => (by cases x)⟩
theorem fl_five_ok (n : Int) (l : List Int) (h : cLad n l = true) : FlFive n l ((rkLad l (resL n l) : Nat) : Int) := by
 obtain ⟨h1, h2, h3⟩ := cLad_rank n l h
 obtain ⟨hg, h6, hz⟩ := cLad_iff.1 h
 obtain ⟨g2, g8, g60, gb⟩ := good_iff.1 hg
 have hlen : ((resL n l).length : Int) = n := by rw [resL_length]; omega
 refine ⟨resL n l, impl_ResultOf.f.ends _ _ (by rw [impl_ResultOf.ok, if_pos hg]), ?_, impl_IsLeast.f.ends _ _ (by rw [impl_IsLeast.ok, if_pos hg, hz]; rfl), laws_nLadder.f.ends _ _ _ _ (laws_nLadder.self _ _ (by omega))⟩
 rw [fl_lor h1 _ h2, h3, hlen]
theorem fl_tail_ok (l1 : List Int) (c1 : isCode l1) : FlTail l1 := by
 obtain ⟨ql, rg, hf1, hl1⟩ := spec_DrawCountFirst.ok l1 c1
 obtain ⟨k1, hk1⟩ := spec_DrawCountFirst.f.ends l1 hf1
 obtain ⟨bn, bl, hf2, hl2⟩ := spec_DrawRankOfLeast.ok l1 c1
 obtain ⟨k2, hk2⟩ := spec_DrawRankOfLeast.f.ends l1 hf2
 obtain ⟨rr, kk, hf3, hl3, b0, b1⟩ := spec_DrawLeastOfRank.ok l1 c1
 obtain ⟨k3, hk3⟩ := spec_DrawLeastOfRank.f.ends l1 hf3
 obtain ⟨fc, th, hq⟩ : ∃ fc th, (if cntd ql = true then (if 0 ≤ rg ∧ rg ≤ (ql.length : Int) - 2 then (if rd ql rg < rd ql (rg + 1) then ((0 : Int), true) else (((cntF 16 (swp ql rg.toNat (rg.toNat + 1)) : Nat) : Int), true)) else (0, false)) else (0, false)) = (fc, th) := ⟨_, _, rfl⟩
 have r1 : impl_CountFirst.f ql rg = some (fc, th) := by rw [impl_CountFirst.ok, hq]
 have r2 : spec_CountFirst.f ql rg = some (fc, th) := by rw [spec_CountFirst.ok, hq]
 obtain ⟨rk, fv, e1, e2, h5⟩ : ∃ rk fv, impl_RankOfLeast.f bn bl = some (rk, fv) ∧ spec_RankOfLeast.f bn bl = some (rk, fv) ∧ (fv = true → FlFive bn bl rk) := by
  by_cases h : cLad bn bl = true
  ·exact ⟨_, true, by rw [impl_RankOfLeast.ok, if_pos h], by rw [spec_RankOfLeast.ok, if_pos h], fun _ => fl_five_ok bn bl h⟩
  ·exact ⟨0, false, by rw [impl_RankOfLeast.ok, if_neg h], by rw [spec_RankOfLeast.ok, if_neg h], fun x => (by cases x)⟩
 have i1 := impl_LeastOfRank.ok rr kk b0 b1
 have i2 := spec_LeastOfRank.ok rr kk
 by_cases h : cntd rr = true ∧ 0 ≤ kk ∧ kk < ((cntF 16 rr : Nat) : Int)
 ·unfold lorM at i1 i2
  rw [if_pos h] at i1 i2
  obtain ⟨hc, h0, h1⟩ := h
  obtain ⟨ho, h2, h6⟩ := cntd_iff.1 hc
  have h15 := inv15 h6
  obtain ⟨g1, g2, g3, g4, _⟩ := lor_all hc kk.toNat (by omega)
  refine ⟨ql, rg, fc, th, bn, bl, rk, fv, rr, kk, (rr.length : Int), lorF (invC rr) rr kk.toNat, true, ⟨k1, hk1⟩, r1, r2, ⟨k2, hk2⟩, e1, e2, ⟨k3, hk3⟩, i1, i2, laws_nLadder.f.ends _ _ _ _ (laws_nLadder.self _ _ (by omega)), h5, fun _ => ?_⟩
  rw [impl_RankOfLeast.ok, if_pos g1, g2, g3, Int.toNat_of_nonneg h0]
 ·unfold lorM at i1 i2
  rw [if_neg h] at i1 i2
  exact ⟨ql, rg, fc, th, bn, bl, rk, fv, rr, kk, 0, [], false, ⟨k1, hk1⟩, r1, r2, ⟨k2, hk2⟩, e1, e2, ⟨k3, hk3⟩, i1, i2, laws_nLadder.f.ends _ _ _ _ (laws_nLadder.self 0 [] (by simp)), h5, fun x => (by cases x)⟩
theorem FnLeastListed : laws_FnLeastListed.Pure := by
 intro l0 l1 _ _ h0 _ _ h1
 unfold laws_FnLeastListed.Ok laws_big.f
 by_cases e0 : (l0.length : Int) > 1048576
 ·rw [if_pos e0]; exact Or.inl rfl
 ·rw [if_neg e0, wrap_id (x := 1048576 - (l0.length : Int)) (by omega) (by omega)]
  by_cases e1 : (l1.length : Int) > 1048576 - (l0.length : Int)
  ·rw [decide_eq_true e1]; exact Or.inl rfl
  ·rw [decide_eq_false e1]
   exact Or.inr ⟨rfl, fl_head_ok l0 ⟨fun x hx => u8_bounds (h0 x hx), by omega⟩, fl_tail_ok l1 ⟨fun x hx => u8_bounds (h1 x hx), by omega⟩⟩
end Go.Proofs.Ytdeoeogdnagibaa.Pure
