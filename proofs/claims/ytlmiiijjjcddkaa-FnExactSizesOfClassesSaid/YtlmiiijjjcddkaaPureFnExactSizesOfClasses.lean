/- Proved: for every input the law FnExactSizesOfClasses returns true (its plain statement, over numbers and lists). No condition. -/
import Derived.Test.YtlmiiijjjcddkaaPKbx7
import Derived.Test.YtlmiiijjjcddkaaVKbx1
import Derived.Test.YtlmiiijjjcddkaaVKbx2
import Derived.Test.YtlmiiijjjcddkaaVKbx3
import Derived.Test.YtlmiiijjjcddkaaVKbx4
import Derived.Test.YtlmiiijjjcddkaaVKbx5
import Derived.Test.YtlmiiijjjcddkaaVKbx6
import Derived.Test.YtlmiiijjjcddkaaVKbx7
import Derived.Test.YtlmiiijjjcddkaaLibFnExactSizesOfClasses
namespace Go.Proofs.Ytlmiiijjjcddkaa.Pure
open Go.RowKit Go.Proofs.Ytlmiiijjjcddkaa.PKb Go.Proofs.YtlmiiijjjcddkaaW.PrintWords Go.Proofs.YtlmiiijjjcddkaaW.PrintLast Go.Proofs.YtlmiiijjjcddkaaW.PrintMore Go.Proofs.YtlmiiijjjcddkaaL
set_option linter.unusedVariables false
set_option linter.unusedSimpArgs false
theorem impl_canFlip.ok (n : Int) (l : List Int) (a : Int) (hs : ∀ x ∈ l, 0 ≤ x ∧ x ≤ 1000) (hl : l.length ≤ 1000) : impl_canFlip.f n l a = some (flipC l a) := by
 unfold impl_canFlip.f impl_between.f
 rw [wrap_id (x := (l.length : Int) - 3) (by omega) (by omega)]
 by_cases h0 : 0 ≤ a
 ·rw [if_pos h0, Option.bind_some]
  by_cases h1 : a + 2 < l.length
  ·have b1 := small_rd hs a h0 (by omega)
   have b2 := small_rd hs (a + 1) (by omega) (by omega)
   rw [decide_eq_true (show a ≤ (l.length : Int) - 3 by omega), if_pos rfl, if_pos h0, if_pos (by omega), wrap_id (x := a + 2) (by omega) (by omega), if_pos (by omega), if_pos h1]
   unfold flipC
   by_cases c0 : rd l a = rd l (a + 2)
   ·rw [if_pos c0, wrap_id (x := a + 1) (by omega) (by omega), if_pos (by omega), if_pos (by omega), wrap_id (x := rd l a + 1) (by omega) (by omega), wrap_id (x := rd l a - 1) (by omega) (by omega)]
    by_cases c : rd l (a + 1) = rd l a + 1
    ·rw [if_pos c, decide_eq_true (p := 0 ≤ a ∧ _) ⟨h0, h1, c0, .inr (by omega)⟩]
    ·rw [if_neg c]
     congr 1
     rw [Bool.eq_iff_iff, beq_iff_eq, decide_eq_true_iff]
     constructor
     ·intro x; exact ⟨h0, h1, c0, by omega⟩
     ·intro x; have := x.2.2.2; omega
   ·rw [if_neg c0, decide_eq_false (fun x => c0 x.2.2.1)]
  ·rw [decide_eq_false (by omega), if_neg (by simp)]
   unfold flipC
   rw [decide_eq_false (fun x => h1 x.2.1)]
 ·rw [if_neg h0, Option.bind_some, if_neg (by simp)]
  unfold flipC
  rw [decide_eq_false (fun x => h0 x.1)]
theorem impl_firsts.free_eq (l : List Int) (i : Nat) : impl_firsts.free l i = freeL l i := by
 unfold impl_firsts.free freeL
 rw [List.not_any_eq_all_not]
 congr 1; funext x
 unfold impl_firsts.near farI
 exact Bool.not_not _
theorem impl_firsts.ok (l : List Int) (h0 : 0 < l.length) (h1 : l.length ≤ 60) (hs : ∀ x ∈ l, 0 ≤ x ∧ x ≤ 6) : ∃ t, impl_firsts.f l = some t ∧ 0 < t.length ∧ rd t 0 = bestL l l.length := by
 have hsm : impl_firsts.small l = true := by
  unfold impl_firsts.small
  refine List.all_eq_true.2 fun x hx => ?_
  have := hs x hx
  simp only [Bool.and_eq_true, decide_eq_true_eq]
  omega
 have hmo : ∀ i, i ∈ impl_firsts.outs l l.length ↔ i < l.length ∧ freeL l i = true := by
  intro i
  unfold impl_firsts.outs
  rw [List.mem_filter, List.mem_range, impl_firsts.free_eq]
 have hfew : (impl_firsts.outs l l.length).length ≤ 7 := by
  refine free_few l 7 (fun x hx => by have := hs x hx; omega) _ ?_ fun i hi => (hmo i).1 hi
  unfold impl_firsts.outs
  exact List.Pairwise.filter _ List.nodup_range
 refine ⟨_, by unfold impl_firsts.f; rw [if_pos ⟨h0, by omega, hsm, by omega⟩], ?_⟩
 obtain ⟨⟨hsz, _, hperm⟩, hsort⟩ := Sort.insertionSort_holds (impl_firsts.swo l) (impl_firsts.arr l) 0 (impl_firsts.arr l).size (Nat.zero_le _) (Nat.le_refl _)
 change (impl_firsts.sorted l).size = _ at hsz
 change Sort.SortedIn _ _ _ (impl_firsts.sorted l) at hsort
 change ((impl_firsts.sorted l).extract _ _).toList.Perm _ at hperm
 have hperm2 : (impl_firsts.sorted l).toList.Perm (impl_firsts.arr l).toList := by
  simp only [Array.toList_extract, hsz] at hperm
  simp only [List.extract, Nat.sub_zero, List.drop_zero] at hperm
  rw [List.take_of_length_le (by simp [hsz]), List.take_of_length_le (by simp)] at hperm
  exact hperm
 have hma : ∀ x, x ∈ (impl_firsts.arr l).toList ↔ x.val < l.length ∧ freeL l x.val = true := by
  intro x
  unfold impl_firsts.arr
  rw [List.mem_map]
  constructor
  ·rintro ⟨i, hi, rfl⟩
   have h2 := (hmo i).1 hi
   have h3 : (Fin.ofNat (l.length - 1 + 1) i).val = i := Nat.mod_eq_of_lt (by omega)
   rw [h3]; exact h2
  ·intro h
   refine ⟨x.val, (hmo _).2 h, ?_⟩
   apply Fin.ext
   exact Nat.mod_eq_of_lt (by omega)
 have hms : ∀ x, x ∈ (impl_firsts.sorted l).toList ↔ x.val < l.length ∧ freeL l x.val = true := fun x => hperm2.mem_iff.trans (hma x)
 have hz : (⟨0, by omega⟩ : impl_firsts.Pl l) ∈ (impl_firsts.sorted l).toList := (hms _).2 ⟨h0, bestL_zero l⟩
 have hpos : 0 < (impl_firsts.sorted l).size := by
  have := List.length_pos_of_mem hz
  simpa using this
 have hpl : 0 < (impl_firsts.sorted l).toList.length := by simpa using hpos
 refine ⟨by simpa using hpos, ?_⟩
 have e0 : rd ((impl_firsts.sorted l).toList.map fun x => (x.val : Int)) 0 = (((impl_firsts.sorted l)[0]!).val : Int) := by
  show rd _ ((0 : Nat) : Int) = _
  rw [rd_lt _ 0 (by simpa using hpos), List.getElem_map, getElem!_pos _ 0 hpos]
  rfl
 rw [e0]
 have hm0 : (impl_firsts.sorted l)[0]! ∈ (impl_firsts.sorted l).toList := by
  rw [getElem!_pos _ 0 hpos, ← Array.getElem_toList]
  exact List.getElem_mem hpl
 have h3 := (hms _).1 hm0
 refine (bestL_only l _ h3.1 h3.2 fun j hj fj => ?_).symm
 have hjm := (hms ⟨j, by omega⟩).2 ⟨hj, fj⟩
 obtain ⟨k, hk, ek⟩ := List.getElem_of_mem hjm
 have hk2 : k < (impl_firsts.sorted l).size := by simpa using hk
 have ek2 : (impl_firsts.sorted l)[k]! = ⟨j, by omega⟩ := by rw [getElem!_pos _ k hk2, ← ek, Array.getElem_toList]
 by_cases h : k = 0
 ·subst h
  rw [ek2]
  exact Int.le_refl _
 ·have h4 := of_decide_eq_false (hsort 0 k (Nat.le_refl _) (by omega) (by omega))
  rw [ek2] at h4
  change ¬ (rd l (j : Int) - rd l (((impl_firsts.sorted l)[0]!).val : Int) < 0) at h4
  omega
theorem slices_Clone_int_int.ok (l : List Int) (h : l.length ≤ 1048576) : slices_Clone_int_int.f l = some l := by
 unfold slices_Clone_int_int.f
 rw [if_pos (by omega)]
theorem slices_Delete_int_int.ok (l : List Int) (a b : Int) (h0 : 0 ≤ a) (h1 : a ≤ b) (h2 : b ≤ l.length) : slices_Delete_int_int.f l a b = some (l.take a.toNat ++ l.drop b.toNat) := by
 unfold slices_Delete_int_int.f
 rw [if_pos h0, if_pos h1, if_pos h2]
theorem impl_without.ok (l : List Int) (i : Int) (h : l.length ≤ 1048576) (h0 : 0 ≤ i) (h1 : i < l.length) : impl_without.f l i = some (woL l i) := by
 unfold impl_without.f
 rw [slices_Clone_int_int.ok l h, Option.bind_some, wrap_id (x := i + 1) (by omega) (by omega), slices_Delete_int_int.ok l i (i + 1) h0 (by omega) (by omega), Option.bind_some, show (i + 1).toNat = i.toNat + 1 by omega]
 rfl
theorem impl_firstSame.ok_l : ∀ (d : Nat) (l acc : List Int), l.length = d → d ≤ 60 → acc.length + d ≤ 1000 → (∀ x ∈ l, 0 ≤ x ∧ x ≤ 6) → impl_firstSame.l0.v l acc = some (acc ++ nfGo d l) := by
 intro d
 induction d with
 | zero =>
  intro l acc h _ _ _
  rw [impl_firstSame.l0.v_eq, if_neg (by omega), nfGo, List.append_nil]
 | succ d ih =>
  intro l acc h h60 ha hs
  obtain ⟨t, ht, htp, ht0⟩ := impl_firsts.ok l (by omega) (by omega) hs
  have hb := bestL_range l l.length
  have hb0 := bestL_pos l l.length (by omega)
  rw [impl_firstSame.l0.v_eq, if_pos (by omega), ht, Option.bind_some, if_pos (by omega), ht0, if_pos hb0, if_pos hb.2, if_pos (by omega), impl_without.ok l _ (by omega) hb0 hb.2, Option.bind_some]
  have hw := woL_len l _ hb0 hb.2
  rw [ih _ _ (by omega) (by omega) (by rw [List.length_append, List.length_singleton]; omega) (fun x hx => hs x (woL_mem l _ x hx)), nfGo, List.append_assoc]
  rfl
theorem impl_firstSame.ok (l : List Int) (h : l.length ≤ 60) (hs : ∀ x ∈ l, 0 ≤ x ∧ x ≤ 6) : impl_firstSame.f.v l = some (nfL l) := by
 rw [impl_firstSame.f.v_eq]
 exact impl_firstSame.ok_l l.length l [] rfl h (by simp; omega) hs
theorem slices_Replace_int_int.ok (l : List Int) (i : Nat) (x y z : Int) (h : i + 2 < l.length) (hl : l.length ≤ 1000) : slices_Replace_int_int.f l (i : Int) ((i : Int) + 3) [x, y, z] = some (l.take i ++ [x, y, z] ++ l.drop (i + 3)) := by
 unfold slices_Replace_int_int.f
 rw [if_pos (Int.natCast_nonneg i), if_pos (by simp), if_pos (by omega), if_pos (by simp), if_pos (by omega), toNat_cast, show ((i : Int) + 3).toNat = i + 3 by omega]
theorem impl_flipped.ok (n : Int) (l : List Int) (i : Nat) (h : i + 2 < l.length) (hl : l.length ≤ 1000) : impl_flipped.f n l (i : Int) = some (n, flipL l (i : Int)) := by
 unfold impl_flipped.f
 rw [if_pos (Int.natCast_nonneg i), if_pos (cast_lt (by omega)), wrap_id (x := (i : Int) + 1) (by omega) (by omega), if_pos (by omega), if_pos (by omega), slices_Clone_int_int.ok l (by omega), Option.bind_some, wrap_id (x := (i : Int) + 3) (by omega) (by omega), slices_Replace_int_int.ok l i _ _ _ h hl, Option.bind_some, flipL_eq l i h]
theorem impl_descents.ok_l (p : List Int) (h1 : 1 ≤ p.length) (hp : p.length ≤ 1000) : ∀ (d i : Nat) (acc : List Int), i + 1 + d = p.length → acc.length ≤ i → impl_descents.l0.v p acc i = some (acc ++ descGo p d i) := by
 intro d
 induction d with
 | zero =>
  intro i acc hd ha
  rw [impl_descents.l0.v_eq, succ_wrap (show i < p.length by omega) (by omega), if_neg (cast_nlt (by omega)), descGo, List.append_nil]
 | succ d ih =>
  intro i acc hd ha
  rw [impl_descents.l0.v_eq, succ_wrap (show i < p.length by omega) (by omega), if_pos (cast_lt (by omega)), if_pos (Int.natCast_nonneg i), if_pos (cast_lt (by omega)), if_pos (Int.natCast_nonneg _), descGo]
  by_cases e : rd p (i : Int) > rd p ((i : Int) + 1)
  ·have e' : rd p (i : Int) > rd p ((i + 1 : Nat) : Int) := e
   rw [if_pos e', if_pos e, if_pos (by omega), ih (i + 1) _ (by omega) (by simp; omega), List.append_assoc]; rfl
  ·have e' : ¬ rd p (i : Int) > rd p ((i + 1 : Nat) : Int) := e
   rw [if_neg e', if_neg e, ih (i + 1) _ (by omega) (by omega)]
theorem impl_descents.ok (p : List Int) (h1 : 1 ≤ p.length) (hp : p.length ≤ 1000) : impl_descents.f.v p = some (desc p) := by
 rw [impl_descents.f.v_eq]
 have := impl_descents.ok_l p h1 hp (p.length - 1) 0 [] (by omega) (by simp)
 simpa [desc] using this
theorem impl_exchanged.ok (p : List Int) (j : Nat) (hj : j + 1 < p.length) (hp : p.length ≤ 1048576) : impl_exchanged.f p (j : Int) = some (swp p j (j + 1)) := by
 have e : wrap64 ((j : Int) + 1) = ((j + 1 : Nat) : Int) := succ_wrap (show j < p.length by omega) (by omega)
 unfold impl_exchanged.f
 rw [slices_Clone_int_int.ok p hp, Option.bind_some, e, if_pos (Int.natCast_nonneg _), if_pos (cast_lt hj), if_pos (Int.natCast_nonneg _), if_pos (cast_lt (by omega)), toNat_cast, toNat_cast]
 rfl
theorem impl_all.mono_lp {G G' : List Int → List Int → List S40 → Option (List S40)} (h : ∀ a b c r, G a b c = some r → G' a b c = some r) (l1 l2 ds : List Int) : ∀ (m i : Nat) (xs r : List S40), impl_all.lp G l1 l2 ds m i xs = some r → impl_all.lp G' l1 l2 ds m i xs = some r := by
 intro m
 induction m with
 | zero => intro i xs r hr; exact hr
 | succ m ih =>
  intro i xs r hr
  rw [impl_all.lp] at hr ⊢
  obtain ⟨c, hc, hr⟩ := Option.bind_eq_some_iff.1 hr
  rw [hc, Option.bind_some]
  by_cases h1 : c.length < 1000
  ·rw [if_pos h1] at hr ⊢
   obtain ⟨q, hq, hr⟩ := Option.bind_eq_some_iff.1 hr
   rw [hq, Option.bind_some]
   obtain ⟨ys, hy, hr⟩ := Option.bind_eq_some_iff.1 hr
   rw [h _ _ _ _ hy, Option.bind_some]
   exact ih _ _ _ hr
  ·rw [if_neg h1] at hr; cases hr
theorem impl_all.mono_g : ∀ (d : Nat) (a0 : Int) (l1 l2 : List Int) (xs r : List S40), impl_all.g d a0 l1 l2 xs = some r → impl_all.g (d + 1) a0 l1 l2 xs = some r := by
 intro d
 induction d with
 | zero => intro a0 l1 l2 xs r h; cases h
 | succ d ih =>
  intro a0 l1 l2 xs r h
  rw [impl_all.g] at h ⊢
  obtain ⟨ds, hd, h⟩ := Option.bind_eq_some_iff.1 h
  rw [hd, Option.bind_some]
  by_cases hz : ds.length = 0
  ·rw [if_pos hz] at h ⊢; exact h
  ·rw [if_neg hz] at h ⊢
   exact impl_all.mono_lp (fun a b c r hr => ih a0 a b c r hr) l1 l2 ds _ _ _ _ h
theorem impl_all.ok_lp (G : List Int → List Int → List S40 → Option (List S40)) (F : List Int → List (List Int)) (a0 : Int) (done p : List Int) (hp : p.length ≤ 8) (hdn : done.length < 1000) (ds : List Int) (hds : ∀ x ∈ ds, ∃ j : Nat, x = (j : Int) ∧ j + 1 < p.length) (M : Nat)
    (hG : ∀ (j : Nat), (j : Int) ∈ ds → ∀ xs, xs.length + (F (swp p j (j + 1))).length ≤ M → G (done ++ [(j : Int)]) (swp p j (j + 1)) xs = some (xs ++ (F (swp p j (j + 1))).map fun r => ⟨a0, (done ++ [(j : Int)]) ++ r⟩)) :
    ∀ (m i : Nat) (xs : List S40), i + m = ds.length → xs.length + ((ds.drop i).flatMap fun x => (F (swp p x.toNat (x.toNat + 1))).map fun r => x :: r).length ≤ M → impl_all.lp G done p ds m i xs = some (xs ++ ((ds.drop i).flatMap fun x => (F (swp p x.toNat (x.toNat + 1))).map fun r => x :: r).map fun r => ⟨a0, done ++ r⟩) := by
  intro m
  induction m with
  | zero => intro i xs hi hM; rw [impl_all.lp, List.drop_eq_nil_of_le (by omega)]; simp
  | succ m ih =>
    intro i xs hi hM
    have h : i < ds.length := by omega
    have hm := List.getElem_mem h
    obtain ⟨j, hj, hjl⟩ := hds ds[i] hm
    rw [List.drop_eq_getElem_cons h, List.flatMap_cons, List.length_append, List.length_map] at hM
    rw [hj] at hm
    rw [List.drop_eq_getElem_cons h, List.flatMap_cons, impl_all.lp, slices_Clone_int_int.ok done (by omega), Option.bind_some, if_pos hdn, rd_lt ds i h]
    simp only [hj, toNat_cast] at hM ⊢
    rw [impl_exchanged.ok p j hjl (by omega), Option.bind_some, hG j hm xs (by omega), Option.bind_some, ih (i + 1) _ (by omega) (by rw [List.length_append, List.length_map]; omega), List.append_assoc, List.map_append, List.map_map]
    congr 3
    apply List.map_congr_left
    intro r _
    simp
theorem impl_all.ok_g : ∀ (d : Nat) (p : List Int), isOrd p = true → p.length ≤ 6 → invC p < d → ∀ (a0 : Int) (done : List Int) (xs : List S40), done.length + d ≤ 900 → xs.length + (listF d p).length ≤ 99999 → impl_all.g d a0 done p xs = some (xs ++ (listF d p).map fun r => ⟨a0, done ++ r⟩) := by
 intro d
 induction d with
 | zero => intro p _ _ hi; omega
 | succ d ih =>
  intro p ho h6 hi a0 done xs hdn hM
  have hl := isOrd_len ho
  rw [impl_all.g, show (impl_all.ev fun k => impl_descents.f k p) = impl_descents.f.v p from rfl, impl_descents.ok p hl.1 (by omega), Option.bind_some]
  rw [listF] at hM ⊢
  by_cases hz : (desc p).length = 0
  ·rw [if_pos hz] at hM ⊢
   rw [if_pos hz, if_pos (by simp at hM; omega)]; simp
  ·rw [if_neg hz] at hM ⊢
   rw [if_neg hz]
   have := impl_all.ok_lp (fun l1' l2' xs' => impl_all.g d a0 l1' l2' xs') (listF d) a0 done p hl.2 (by omega) (desc p) (fun x hx => by
    obtain ⟨j, e, hj, _⟩ := desc_mem hx
    exact ⟨j, e, hj⟩) 99999 (fun j hm xs hx => by
    obtain ⟨j', e, hj, hr⟩ := desc_mem hm
    obtain rfl : j = j' := by omega
    have := invC_fall p j hj hr
    exact ih _ (isOrd_swp ho j hj) (by rw [swp_length]; exact h6) (by omega) a0 _ xs (by simp; omega) hx) (desc p).length 0 xs (by omega) (by rw [List.drop_zero]; exact hM)
   rw [List.drop_zero] at this
   exact this
theorem impl_counter_count.ok_sm (g : List Int → Option Int) (c : List Int → Nat) (p : List Int) (hp : p.length ≤ 8) (M : Nat) (hM : M ≤ 1152921504606846976) : ∀ (ds : List Int) (n : Nat), (∀ x ∈ ds, ∃ j : Nat, x = (j : Int) ∧ j + 1 < p.length ∧ g (swp p j (j + 1)) = some ((c (swp p j (j + 1)) : Nat) : Int)) → n + (ds.map fun x => c (swp p x.toNat (x.toNat + 1))).sum ≤ M → impl_counter_count.sm g p ds (n : Int) = some ((n + (ds.map fun x => c (swp p x.toNat (x.toNat + 1))).sum : Nat) : Int)
 | [], n, _, _ => by rw [impl_counter_count.sm]; rfl
 | x :: ds, n, h, hn => by
  obtain ⟨j, rfl, hj, hg⟩ := h x (by simp)
  rw [List.map_cons, List.sum_cons] at hn
  simp only [toNat_cast] at hn
  rw [impl_counter_count.sm, impl_exchanged.ok p j hj (by omega)]
  simp only [Option.bind_some]
  rw [hg]
  simp only [Option.bind_some]
  rw [wrap_id (by omega) (by omega), show (n : Int) + ((c (swp p j (j + 1)) : Nat) : Int) = ((n + c (swp p j (j + 1)) : Nat) : Int) by omega]
  rw [impl_counter_count.ok_sm g c p hp M hM ds _ (fun y hy => h y (by simp [hy])) (by omega), List.map_cons, List.sum_cons]
  simp only [toNat_cast]
  rw [Nat.add_assoc]
theorem impl_counter_count.ok_g : ∀ (d : Nat) (p : List Int), (∀ x ∈ p, 0 ≤ x ∧ x ≤ 100) → 1 ≤ p.length → p.length ≤ 8 → invC p ≤ d → d ≤ 16 → impl_counter_count.g (d + 1) p = some ((cntF (d + 1) p : Nat) : Int) := by
 intro d
 induction d with
 | zero =>
  intro p hg h1 h8 hi hd
  have hds : desc p = [] := by
   cases e : desc p with
   | nil => rfl
   | cons a r =>
    obtain ⟨j, _, _, _, hc⟩ := desc_head e
    omega
  rw [impl_counter_count.g, if_pos ⟨List.all_eq_true.2 fun x hx => by have := hg x hx; simp; omega, h8⟩]
  rw [show (impl_counter_count.ev fun k => impl_descents.f k p) = impl_descents.f.v p from rfl, impl_descents.ok p h1 (by omega), Option.bind_some, hds, cntF, hds]
  rfl
 | succ d ih =>
  intro p hg h1 h8 hi hd
  rw [impl_counter_count.g, if_pos ⟨List.all_eq_true.2 fun x hx => by have := hg x hx; simp; omega, h8⟩]
  rw [show (impl_counter_count.ev fun k => impl_descents.f k p) = impl_descents.f.v p from rfl, impl_descents.ok p h1 (by omega), Option.bind_some, cntF]
  by_cases hz : (desc p).length = 0
  ·rw [if_pos hz, if_pos hz]; rfl
  ·rw [if_neg hz, if_neg hz, if_pos (Nat.le_trans (desc_length p) h8)]
   have hle := cntF_le (d + 1 + 1) p h8
   rw [cntF, if_neg hz] at hle
   have h818 : (8 : Nat) ^ (d + 1 + 1) ≤ 8 ^ 18 := Nat.pow_le_pow_right (by decide) (by omega)
   have := impl_counter_count.ok_sm (impl_counter_count.g (d + 1)) (cntF (d + 1)) p h8 (8 ^ 18) (by decide) (desc p) 0 (fun x hx => by
    obtain ⟨j, e, hj, hr⟩ := desc_mem hx
    refine ⟨j, e, hj, ih _ ?_ (by rw [swp_length]; omega) (by rw [swp_length]; omega) ?_ (by omega)⟩
    ·intro y hy
     exact hg y ((swp_perm p j (j + 1) (by omega) hj).mem_iff.1 hy)
    ·have := invC_fall p j hj hr; omega) (by omega)
   rw [Nat.zero_add] at this
   exact this
theorem impl_counter_count.ok (p : List Int) (h : isOrd p = true) (h6 : p.length ≤ 6) : impl_counter_count.f p = some ((cntF 16 p : Nat) : Int) := by
 have hl := isOrd_len h
 exact impl_counter_count.ok_g 15 p (fun x hx => by have := (isOrd_all h).1 x hx; omega) hl.1 hl.2 (invC_six h6) (by decide)
theorem slices_Index_int_int.ok_l (v : Int) (xs : List Int) (hn : xs.length ≤ 140737488355328) : ∀ (d i : Nat), xs.length - i = d → ∃ r, slices_Index_int_int.l0.v xs v xs.length i = some r ∧ decide (r ≥ 0) = decide (v ∈ xs.drop i) := by
 intro d
 induction d with
 | zero =>
  intro i hd
  refine ⟨-1, ?_, ?_⟩
  ·rw [slices_Index_int_int.l0.v_eq, if_neg (cast_nlt (by omega))]
  ·rw [List.drop_eq_nil_of_le (by omega)]; simp
 | succ d ih =>
  intro i hd
  have h : i < xs.length := by omega
  obtain ⟨r, hr, hr'⟩ := ih (i + 1) (by omega)
  rw [slices_Index_int_int.l0.v_eq, if_pos (cast_lt h), if_pos (Int.natCast_nonneg i), if_pos (cast_lt h), succ_wrap h hn, hr, drop_rd xs i h]
  by_cases e : v = rd xs (i : Int)
  ·rw [if_pos e]; exact ⟨i, rfl, by simp [e, Int.natCast_nonneg]⟩
  ·rw [if_neg e]; exact ⟨r, rfl, by rw [hr']; simp [e]⟩
theorem slices_Contains_int_int.ok (v : Int) (xs : List Int) (hn : xs.length ≤ 140737488355328) : slices_Contains_int_int.f.v xs v = some (decide (v ∈ xs)) := by
 obtain ⟨r, hr, hr'⟩ := slices_Index_int_int.ok_l v xs hn xs.length 0 (by omega)
 have e : slices_Index_int_int.f.v xs v = some r := by rw [slices_Index_int_int.f.v_eq]; exact hr
 rw [slices_Contains_int_int.f.v_eq, e, Option.bind_some, hr', List.drop_zero]
theorem impl_isOrder.ok_l (p : List Int) (hn : p.length ≤ 8) : ∀ (d i : Nat), p.length - i = d → impl_isOrder.l0.v p p p.length i = some (ordGo p.length (p.take i) (p.drop i)) := by
 intro d
 induction d with
 | zero =>
  intro i hd
  rw [impl_isOrder.l0.v_eq, if_neg (cast_nlt (by omega)), List.drop_eq_nil_of_le (by omega)]
  rfl
 | succ d ih =>
  intro i hd
  have h : i < p.length := by omega
  rw [impl_isOrder.l0.v_eq, if_pos (cast_lt h), if_pos (Int.natCast_nonneg i), if_pos (cast_lt h), succ_wrap h (by omega), ih (i + 1) (by omega), drop_rd p i h, take_rd p i h]
  rw [wrap_id (x := (p.length : Int) - 1) (by omega) (by omega), toNat_cast, slices_Contains_int_int.ok _ _ (by rw [List.length_take]; omega)]
  unfold impl_between.f
  rw [ordGo_cons]
  by_cases a : 0 ≤ rd p (i : Int)
  ·by_cases b : rd p (i : Int) ≤ (p.length : Int) - 1
   ·have hi : (i : Int) ≤ (p.length : Int) := by omega
    by_cases c : rd p (i : Int) ∈ p.take i
    ·simp only [ge_iff_le, a, b, c, hi, decide_true, decide_false, if_true, if_false, Option.bind_some, true_and, and_true, and_self, Bool.false_eq_true]
    ·simp only [ge_iff_le, a, b, c, hi, decide_true, decide_false, if_true, if_false, Option.bind_some, true_and, and_true, and_self, Bool.false_eq_true]
   ·simp [a, b]
  ·simp [a]
theorem impl_isOrder.ok (p : List Int) : impl_isOrder.f.v p = some (isOrd p) := by
 rw [impl_isOrder.f.v_eq]
 unfold impl_between.f isOrd
 by_cases h : 1 ≤ p.length ∧ p.length ≤ 8
 ·have := impl_isOrder.ok_l p h.2 p.length 0 (by omega)
  have h1 : (p.length : Int) ≥ 1 := by omega
  have h2 : (p.length : Int) ≤ 8 := by omega
  rw [if_pos h1, if_pos h, decide_eq_true h2]
  simpa using this
 ·rw [if_neg h]
  by_cases h1 : (p.length : Int) ≥ 1
  ·have h2 : ¬ (p.length : Int) ≤ 8 := by omega
   rw [if_pos h1, decide_eq_false h2]; rfl
  ·rw [if_neg h1]; rfl
theorem impl_isCounted.ok (p : List Int) : impl_isCounted.f.v p = some (cntd p) := by
 rw [impl_isCounted.f.v_eq, impl_isOrder.ok, Option.bind_some]
 unfold cntd
 cases h : isOrd p
 ·rfl
 ·rw [if_pos rfl]
  unfold impl_between.f
  by_cases h2 : (p.length : Int) ≥ 2
  ·rw [if_pos h2, Option.bind_some]
   have : decide (2 ≤ p.length) = true := decide_eq_true (by omega)
   rw [this]
   congr 1
   simp only [Bool.true_and]
   exact decide_eq_decide.2 (by omega)
  ·rw [if_neg h2, Option.bind_some]
   have : decide (2 ≤ p.length) = false := decide_eq_false (by omega)
   rw [this]; rfl
theorem impl_listed.ev_of {α : Type} {g : Nat → Option α} {K : Nat} {r : α} (hm : ∀ k r, g k = some r → g (k + 1) = some r) (h : g K = some r) : impl_listed.ev g = some r := by
 have hup : ∀ (n k : Nat) (r : α), g k = some r → g (k + n) = some r := by
  intro n
  induction n with
  | zero => intro k r h; exact h
  | succ n ih => intro k r h; exact hm _ _ (ih k r h)
 have hx : ∃ k r, g k = some r := ⟨K, r, h⟩
 unfold impl_listed.ev
 rw [dif_pos hx]
 obtain ⟨r', hr'⟩ := hx.choose_spec
 have e1 := hup K _ _ hr'
 have e2 := hup hx.choose _ _ h
 rw [Nat.add_comm, e2] at e1
 rw [hr', Option.some.inj e1]
theorem impl_listed.ok (p : List Int) : impl_listed.f p = some (if cntd p = true ∧ cntF 16 p ≤ 800 then ((listF 16 p).map fun r => (⟨(p.length : Int), r⟩ : S40), true) else ([], false)) := by
 unfold impl_listed.f
 rw [show (impl_listed.ev fun k => impl_isCounted.f k p) = impl_isCounted.f.v p from rfl, impl_isCounted.ok, Option.bind_some]
 by_cases h : cntd p = true
 ·have hc := cntd_iff.1 h
  have h6 := invC_six hc.2.2
  rw [if_pos h, impl_counter_count.ok p hc.1 hc.2.2, Option.bind_some]
  by_cases c : cntF 16 p ≤ 800
  ·have hg := impl_all.ok_g 16 p hc.1 hc.2.2 (by omega) (p.length : Int) [] [] (by simp) (by rw [listF_length]; simp; omega)
   rw [if_neg (by omega), if_pos ⟨h, c⟩, impl_listed.ev_of (fun k r => impl_all.mono_g k _ _ _ _ r) hg, Option.bind_some]
   simp
  ·rw [if_pos (by omega), if_neg (fun x => c x.2)]
 ·rw [if_neg h, if_neg (fun x => h x.1)]
theorem slices_Equal_int_int.ok_l (a b : List Int) (hab : a.length = b.length) (ha : a.length ≤ 1000) : ∀ (d i : Nat), i + d = a.length → slices_Equal_int_int.l0.v a b a.length i = some (decide (a.drop i = b.drop i)) := by
 intro d
 induction d with
 | zero =>
  intro i hd
  rw [slices_Equal_int_int.l0.v_eq, if_neg (cast_nlt (by omega)), List.drop_eq_nil_of_le (by omega), List.drop_eq_nil_of_le (by omega)]; rfl
 | succ d ih =>
  intro i hd
  have h : i < a.length := by omega
  rw [slices_Equal_int_int.l0.v_eq, if_pos (cast_lt h), if_pos (Int.natCast_nonneg i), if_pos (cast_lt h), if_pos (cast_lt (by omega)), succ_wrap h (by omega), ih (i + 1) (by omega), drop_rd a i h, drop_rd b i (by omega)]
  by_cases e : rd a (i : Int) = rd b (i : Int)
  ·rw [if_pos e, e]
   congr 1
   rw [decide_eq_decide, List.cons.injEq]
   exact ⟨fun x => ⟨rfl, x⟩, fun x => x.2⟩
  ·rw [if_neg e, decide_eq_false (fun x => e (List.cons.inj x).1)]
theorem slices_Equal_int_int.ok (a b : List Int) (hab : a.length = b.length) (ha : a.length ≤ 1000) : slices_Equal_int_int.f.v a b = some (decide (a = b)) := by
 rw [slices_Equal_int_int.f.v_eq, if_pos (by omega)]
 have := slices_Equal_int_int.ok_l a b hab ha a.length 0 (by omega)
 simpa using this
theorem slices_Equal_int_int.ok2 (a b : List Int) (ha : a.length ≤ 1000) : slices_Equal_int_int.f.v a b = some (decide (a = b)) := by
 by_cases h : a.length = b.length
 ·exact slices_Equal_int_int.ok a b h ha
 ·rw [slices_Equal_int_int.f.v_eq, if_neg (by omega), decide_eq_false (fun e => h (by rw [e]))]
theorem impl_classesOf.nf_ok (x : List Int) (h : x.length ≤ 60) (hb : ∀ z ∈ x, 0 ≤ z ∧ z ≤ 6) : impl_classesOf.nf x = nfL x := by
 unfold impl_classesOf.nf
 rw [show (impl_listed.ev fun k => impl_firstSame.f k x) = impl_firstSame.f.v x from rfl, impl_firstSame.ok x h hb]
 rfl
theorem impl_classesOf.fir_ok {P : List (List Int)} (hL : PL P) (n : Int) : impl_classesOf.fir (P.map fun r => (⟨n, r⟩ : S40)) = (headsL P).map fun r => ⟨n, r⟩ := by
 unfold impl_classesOf.fir headsL
 rw [List.filter_map]
 congr 1
 refine List.filter_congr (fun r hr => ?_)
 show decide (impl_classesOf.nf r = r) = decide (nfL r = r)
 rw [impl_classesOf.nf_ok r (hL.len r hr) (hL.bds r hr)]
theorem impl_classesOf.idx_ok {P : List (List Int)} (hL : PL P) (n : Int) (m : Nat) (hm : m < P.length) (hh : isH P m = true) : impl_classesOf.idx ((headsL P).map fun r => (⟨n, r⟩ : S40)) (rdR P (m : Int)) = (rankH P m : Int) ∧ rankH P m < (headsL P).length := by
 obtain ⟨A, B, e, hA, hne⟩ := heads_split hL m hm hh
 have hlt : rankH P m < (headsL P).length := rankH_lt P m hm hh
 refine ⟨impl_classesOf.idx_hit _ _ (rankH P m) (by rw [List.length_map]; exact hlt) ?_ (fun j hj => ?_), hlt⟩
 ·rw [List.getD_eq_getElem?_getD, List.getElem?_map, e, ← hA, List.getElem?_append_right (Nat.le_refl _), Nat.sub_self]; rfl
 ·rw [List.getD_eq_getElem?_getD, List.getElem?_map, e, List.getElem?_append_left (by omega), List.getElem?_eq_getElem (by omega)]
  exact hne _ (List.getElem_mem _)
theorem impl_classesOf.Hit_ok {P : List (List Int)} (hL : PL P) (n : Int) (x : List Int) (hx : x ∈ P) : impl_classesOf.Hit ((headsL P).map fun r => (⟨n, r⟩ : S40)) (nfL x) := by
 obtain ⟨j, hj, rfl⟩ := PL.has hx
 obtain ⟨m, hm, e, hh⟩ := hL.first j hj
 obtain ⟨h1, h2⟩ := impl_classesOf.idx_ok hL n m (by omega) hh
 rw [e] at h1
 refine ⟨fun q hq => ?_, by rw [h1]; omega, by rw [h1, List.length_map]; omega⟩
 rw [List.length_map] at hq
 refine slices_Equal_int_int.f.ends _ _ (slices_Equal_int_int.ok2 _ _ ?_)
 rw [List.getD_eq_getElem?_getD, List.getElem?_map, List.getElem?_eq_getElem hq]
 have := hL.len _ (List.mem_filter.1 (List.getElem_mem hq)).1
 show (headsL P)[q].length ≤ 1000
 omega
theorem impl_classesOf.Fine_ok {p : List Int} (h : cntd p = true ∧ cntF 16 p ≤ 800) : impl_classesOf.Fine ((listF 16 p).map fun r => (⟨(p.length : Int), r⟩ : S40)) := by
 have hL := PL_listF h.1 h.2
 refine ⟨by rw [List.length_map]; have := hL.few; omega, fun j hj => ?_⟩
 rw [List.length_map] at hj
 rw [impl_classesOf.fir_ok hL, List.getD_eq_getElem?_getD, List.getElem?_map, List.getElem?_eq_getElem hj]
 have hx := List.getElem_mem hj
 generalize (listF 16 p)[j] = x at hx
 have h1 := hL.len x hx
 have h2 := hL.bds x hx
 have hn := impl_classesOf.nf_ok x h1 h2
 have hnl := nfL_length x
 show impl_classesOf.One _ (⟨(p.length : Int), x⟩ : S40)
 refine ⟨by show x.length ≤ 1000; omega, impl_firstSame.f.ends _ (by rw [show impl_classesOf.nf (⟨(p.length : Int), x⟩ : S40).f1 = nfL x from hn]; exact impl_firstSame.ok x h1 h2), slices_Equal_int_int.f.ends _ _ (slices_Equal_int_int.ok2 _ _ (by show (impl_classesOf.nf x).length ≤ 1000; rw [hn, hnl]; omega)), by show impl_classesOf.Hit _ (impl_classesOf.nf x); rw [hn]; exact impl_classesOf.Hit_ok hL _ x hx, fun a ha => ?_⟩
 have ha : a < x.length := ha
 refine ⟨_, impl_canFlip.ok (p.length : Int) x (a : Int) (fun z hz => by have := h2 z hz; omega) (by omega), fun hc => ?_⟩
 have hc2 := of_decide_eq_true hc
 have hm := flip_mem h.1 hx a hc
 have h3 := hL.len _ hm
 have h4 := hL.bds _ hm
 have hn2 := impl_classesOf.nf_ok _ h3 h4
 exact ⟨_, _, impl_flipped.ok (p.length : Int) x a (by omega) (by omega), impl_firstSame.f.ends _ (by rw [hn2]; exact impl_firstSame.ok _ h3 h4), by rw [hn2]; exact impl_classesOf.Hit_ok hL _ _ hm⟩
theorem impl_classesOf.ok (p : List Int) : impl_classesOf.f p = some (if cntd p = true ∧ cntF 16 p ≤ 800 then ((headsL (listF 16 p)).map fun r => (⟨(p.length : Int), r⟩ : S40), impl_classesOf.siz ((listF 16 p).map fun r => (⟨(p.length : Int), r⟩ : S40)), true) else ([], [], false)) := by
 unfold impl_classesOf.f
 rw [impl_listed.ok, Option.bind_some]
 by_cases h : cntd p = true ∧ cntF 16 p ≤ 800
 ·rw [if_pos h, if_pos h]
  show (if true = true then _ else _) = _
  rw [if_pos rfl, if_pos (impl_classesOf.Fine_ok h), impl_classesOf.fir_ok (PL_listF h.1 h.2)]
 ·rw [if_neg h, if_neg h]
  show (if false = true then _ else _) = _
  rw [if_neg (by simp)]
theorem impl_classesOf.siz_ok {P : List (List Int)} (hL : PL P) (n : Int) {C H : List Int} (hO : OI P P.length C H) : impl_classesOf.siz (P.map fun r => (⟨n, r⟩ : S40)) = C.foldl bumpC (List.replicate (headsL P).length 0) := by
 unfold impl_classesOf.siz
 rw [impl_classesOf.fir_ok hL, List.length_map]
 have e : C = P.map fun r => impl_classesOf.idx ((headsL P).map fun r => (⟨n, r⟩ : S40)) (impl_classesOf.nf r) := by
  refine List.ext_getElem (by rw [List.length_map]; exact hO.len) (fun j h1 h2 => ?_)
  have hj : j < P.length := by rw [← hO.len]; exact h1
  rw [List.getElem_map, ← rdR_lt P j hj]
  obtain ⟨m, hm, hh, e2, e3⟩ := hO.cls hL j hj
  rw [rd_lt C j h1] at e3
  have hx := PL.mem (L := P) j hj
  rw [e3, impl_classesOf.nf_ok _ (hL.len _ hx) (hL.bds _ hx), ← e2, (impl_classesOf.idx_ok hL n m hm hh).1]
 rw [e, List.foldl_map, List.foldl_map]
 rfl
theorem impl_SizesOfClasses.ok (p : List Int) : (¬ (cntd p = true ∧ cntF 16 p ≤ 800) → impl_SizesOfClasses.f p = some ([], false)) ∧ (cntd p = true ∧ cntF 16 p ≤ 800 → ∀ C H, OI (listF 16 p) (listF 16 p).length C H → impl_SizesOfClasses.f p = some (C.foldl bumpC (List.replicate (headsL (listF 16 p)).length 0), true)) := by
 unfold impl_SizesOfClasses.f
 rw [impl_classesOf.ok, Option.bind_some]
 refine ⟨fun h => by rw [if_neg h], fun h C H hO => ?_⟩
 rw [if_pos h, ← impl_classesOf.siz_ok (PL_listF h.1 h.2) (p.length : Int) hO]
theorem laws_eqIntS.ok_l (xs : List Int) (hn : xs.length ≤ 140737488355328) : ∀ (d i : Nat), xs.length - i = d → laws_eqIntS.l0.v xs xs i = some true := by
 intro d
 induction d with
 | zero =>
  intro i hd
  rw [laws_eqIntS.l0.v_eq, if_neg (cast_nlt (by omega))]
 | succ d ih =>
  intro i hd
  have h : i < xs.length := by omega
  rw [laws_eqIntS.l0.v_eq, if_pos (cast_lt h), if_pos (Int.natCast_nonneg i), if_pos (cast_lt h), if_pos rfl, succ_wrap h hn]
  exact ih (i + 1) (by omega)
theorem laws_eqIntS.ok (xs : List Int) (hn : xs.length ≤ 140737488355328) : laws_eqIntS.f.v xs xs = some true := by
 rw [laws_eqIntS.f.v_eq, if_pos rfl]
 exact laws_eqIntS.ok_l xs hn xs.length 0 (by omega)
theorem rd_fromOn (k : Int) : ∀ (n i : Nat), i < n → rd (fromOn k n) (i : Int) = k + i := by
 intro n i h
 induction n generalizing k i with
 | zero => omega
 | succ n ih =>
  cases i with
  | zero => show k = k + ((0 : Nat) : Int); simp
  | succ i =>
   have := ih (k + 1) i (by omega)
   rw [rd_cast] at this ⊢
   rw [fromOn, List.getD_cons_succ, this]; omega
theorem laws_heldIntS.ok_l (n : Nat) (k : Int) (hn : n ≤ 1099511627776) (h0 : 0 ≤ k) (h1 : k ≤ 4398046511104) : ∀ (d i : Nat), i + d = n → laws_heldIntS.l0.v (fromOn k n) (k + i) i = some (k + n) := by
 intro d
 induction d with
 | zero =>
  intro i hd
  rw [laws_heldIntS.l0.v_eq, fromOn_length, if_neg (cast_nlt (by omega)), show i = n by omega]
 | succ d ih =>
  intro i hd
  have h : i < n := by omega
  rw [laws_heldIntS.l0.v_eq, fromOn_length, if_pos (cast_lt h), if_pos (Int.natCast_nonneg i), if_pos (rd_fromOn k n i h), succ_wrap h (by omega), wrap_id (x := k + (i : Int) + 1) (by omega) (by omega), show k + (i : Int) + 1 = k + ((i + 1 : Nat) : Int) by omega]
  exact ih (i + 1) (by omega)
theorem laws_heldIntS.ok (n : Nat) (k : Int) (hn : n ≤ 1099511627776) (h0 : 0 ≤ k) (h1 : k ≤ 4398046511104) : laws_heldIntS.f.v (fromOn k n) k = some (k + n) := by
 rw [laws_heldIntS.f.v_eq]
 have := laws_heldIntS.ok_l n k hn h0 h1 n 0 (by omega)
 simpa using this
theorem laws_markIntS.ok_l : ∀ (d i : Nat) (xs : List Int) (k : Int), i + d = xs.length → xs.length ≤ 1099511627776 → 0 ≤ k → k ≤ 4398046511104 → laws_markIntS.l0.v xs (k + i) i = some (k + (xs.length : Int), xs.take i ++ fromOn (k + i) d) := by
 intro d
 induction d with
 | zero =>
  intro i xs k hd hn h0 h1
  rw [laws_markIntS.l0.v_eq, if_neg (cast_nlt (by omega)), List.take_of_length_le (by omega), show i = xs.length by omega]
  simp [fromOn]
 | succ d ih =>
  intro i xs k hd hn h0 h1
  have h : i < xs.length := by omega
  rw [laws_markIntS.l0.v_eq, if_pos (cast_lt h), if_pos (Int.natCast_nonneg i), succ_wrap h (by omega), toNat_cast, wrap_id (x := k + (i : Int) + 1) (by omega) (by omega), show k + (i : Int) + 1 = k + ((i + 1 : Nat) : Int) by omega, ih (i + 1) _ k (by rw [List.length_set]; omega) (by rw [List.length_set]; omega) h0 h1, List.length_set, fromOn, List.take_succ_eq_append_getElem (by rw [List.length_set]; omega), List.getElem_set_self, List.take_set_of_le (Nat.le_refl i), List.append_assoc, show k + (i : Int) + 1 = k + ((i + 1 : Nat) : Int) by omega]
  rfl
theorem laws_markIntS.ok (xs : List Int) (k : Int) (hn : xs.length ≤ 1099511627776) (h0 : 0 ≤ k) (h1 : k ≤ 4398046511104) : laws_markIntS.f.v xs k = some (k + (xs.length : Int), fromOn k xs.length) := by
 rw [laws_markIntS.f.v_eq]
 have := laws_markIntS.ok_l xs.length 0 xs k (by omega) hn h0 h1
 simpa using this
theorem laws_toIntS.ok_l (xs : List Int) (hn : xs.length ≤ 140737488355328) : ∀ (d i : Nat) (ys : List Int), xs.length - i = d → ys.length = xs.length → ys.take i = xs.take i → laws_toIntS.l0.v xs ys i = some xs := by
 intro d
 induction d with
 | zero =>
  intro i ys hd hl ht
  rw [laws_toIntS.l0.v_eq, if_neg (cast_nlt (by omega))]
  rw [List.take_of_length_le (by omega), List.take_of_length_le (by omega)] at ht
  rw [ht]
 | succ d ih =>
  intro i ys hd hl ht
  have h : i < xs.length := by omega
  rw [laws_toIntS.l0.v_eq, if_pos (cast_lt h), if_pos (Int.natCast_nonneg i), if_pos (cast_lt (by omega)), succ_wrap h hn, toNat_cast]
  refine ih (i + 1) _ (by omega) (by rw [List.length_set]; exact hl) ?_
  rw [take_rd xs i h, ← ht, rd_lt xs i h, List.take_succ_eq_append_getElem (by rw [List.length_set]; omega), List.getElem_set_self, List.take_set_of_le (Nat.le_refl i)]
theorem laws_toIntS.ok (xs : List Int) (hn : xs.length ≤ 1048576) : laws_toIntS.f.v xs = some xs := by
 rw [laws_toIntS.f.v_eq, if_pos (Int.natCast_nonneg _), toNat_cast, if_pos (by omega)]
 exact laws_toIntS.ok_l xs (by omega) xs.length 0 _ (by omega) (by simp) (by simp)
theorem spec_alRank.ok_i (p : List Int) (hp : p.length ≤ 8) (acc : Int) (i : Nat) (x : Int) (ys : List Int) (hy : ys.length ≤ 8) (hi : i < p.length) (h0 : 0 ≤ acc) (h1 : acc ≤ 100000000) : ∀ (d j c : Nat), j + d = ys.length → c ≤ j → spec_alRank.l1.v p acc i x c p p.length i ys ys.length j = spec_alRank.l0.v p (acc * ((p.length : Int) - i) + ((c + fewer x (ys.drop j) : Nat) : Int)) p p.length ((i + 1 : Nat) : Int) := by
 intro d
 induction d with
 | zero =>
  intro j c hd hc
  have hm : 0 ≤ acc * ((p.length : Int) - i) ∧ acc * ((p.length : Int) - i) ≤ 100000000 * 8 := ⟨Int.mul_nonneg h0 (by omega), Int.mul_le_mul h1 (by omega) (by omega) (by omega)⟩
  rw [spec_alRank.l1.v_eq, if_neg (cast_nlt (by omega)), succ_wrap hi (by omega), List.drop_eq_nil_of_le (by omega), fewer, Nat.add_zero, wrap_id (x := (p.length : Int) - i) (by omega) (by omega), wrap_id (x := acc * ((p.length : Int) - i)) (by omega) (by omega), wrap_id (x := acc * ((p.length : Int) - i) + (c : Int)) (by omega) (by omega)]
  simp only [Nat.add_zero]
 | succ d ih =>
  intro j c hd hc
  have h : j < ys.length := by omega
  rw [spec_alRank.l1.v_eq, if_pos (cast_lt h), if_pos (Int.natCast_nonneg j), if_pos (cast_lt h), succ_wrap h (by omega), drop_rd ys j h, fewer]
  by_cases e : rd ys (j : Int) < x
  ·rw [if_pos e, if_pos e, wrap_id (x := (c : Int) + 1) (by omega) (by omega), show (c : Int) + 1 = ((c + 1 : Nat) : Int) by omega, ih (j + 1) (c + 1) (by omega) (by omega), Nat.add_assoc]
  ·rw [if_neg e, if_neg e, ih (j + 1) c (by omega) (by omega), Nat.zero_add]
theorem spec_alRank.ok_o (p : List Int) (hp : p.length ≤ 8) : ∀ (d i : Nat) (acc : Int), i + d = p.length → 0 ≤ acc → acc < ((9 ^ i : Nat) : Int) → spec_alRank.l0.v p acc p p.length i = some (rkGo acc (p.drop i)) := by
 intro d
 induction d with
 | zero =>
  intro i acc hd h0 h1
  rw [spec_alRank.l0.v_eq, if_neg (cast_nlt (by omega)), List.drop_eq_nil_of_le (by omega), rkGo]
 | succ d ih =>
  intro i acc hd h0 h1
  have h : i < p.length := by omega
  have h9 : 9 ^ i ≤ 9 ^ 8 := Nat.pow_le_pow_right (by decide) (by omega)
  have h98 : 9 ^ 8 = 43046721 := by decide
  have h2 := spec_alRank.ok_i p hp acc i (rd p (i : Int)) (p.drop (i + 1)) (by rw [List.length_drop]; omega) h h0 (by omega) (p.drop (i + 1)).length 0 0 (by omega) (by omega)
  rw [spec_alRank.l0.v_eq, if_pos (cast_lt h), if_pos (Int.natCast_nonneg i), if_pos (cast_lt h), succ_wrap h (by omega), if_pos (Int.natCast_nonneg _), if_pos (by omega), toNat_cast, Option.bind_some]
  rw [show ((0 : Nat) : Int) = 0 from rfl] at h2
  have hf := fewer_len (rd p (i : Int)) (p.drop (i + 1))
  rw [List.length_drop] at hf
  have hb : acc * ((p.length : Int) - i) + ((fewer (rd p (i : Int)) (p.drop (i + 1)) : Nat) : Int) < ((9 ^ (i + 1) : Nat) : Int) := by
   have h3 : acc * ((p.length : Int) - i) ≤ (((9 ^ i : Nat) : Int) - 1) * 8 := Int.mul_le_mul (by omega) (by omega) (by omega) (by omega)
   rw [Nat.pow_succ]
   omega
  rw [h2, List.drop_zero, Nat.zero_add, ih (i + 1) _ (by omega) (by have := Int.mul_nonneg h0 (show (0 : Int) ≤ (p.length : Int) - i by omega); omega) hb, drop_rd p i h, rkGo, List.length_drop, show ((p.length - (i + 1) : Nat) : Int) + 1 = (p.length : Int) - i by omega]
theorem spec_alRank.ok (p : List Int) (hp : p.length ≤ 8) : spec_alRank.f.v p = some (rankL p) := by
 rw [spec_alRank.f.v_eq]
 have := spec_alRank.ok_o p hp p.length 0 0 (by omega) (by omega) (by decide)
 simpa [rankL] using this
theorem spec_l1Own.ok (l : List Int) (h : l.length ≤ 1048576) : spec_l1Own.f l = some l := by
 unfold spec_l1Own.f
 rw [Option.bind_some, if_pos (by simp; omega)]; rfl
theorem spec_alSwap.ok (p : List Int) (j : Nat) (hj : j + 1 < p.length) (hp : p.length ≤ 1048576) : spec_alSwap.f p (j : Int) = some (swp p j (j + 1)) := by
 have e : wrap64 ((j : Int) + 1) = ((j + 1 : Nat) : Int) := succ_wrap (show j < p.length by omega) (by omega)
 unfold spec_alSwap.f
 rw [spec_l1Own.ok p hp, Option.bind_some, e, if_pos (Int.natCast_nonneg _), if_pos (cast_lt hj), if_pos (Int.natCast_nonneg _), if_pos (cast_lt (by omega)), if_pos (cast_lt (by omega)), if_pos (cast_lt hj), toNat_cast, toNat_cast]
 rfl
theorem spec_alCounter_count.good_of {p : List Int} (h : isOrd p = true) : spec_alCounter_count.good p := ⟨(isOrd_all h).2, (isOrd_all h).1⟩
theorem spec_alCounter_count.ord_of {p : List Int} (h : spec_alCounter_count.good p) (h1 : 1 ≤ p.length) (h8 : p.length ≤ 8) : isOrd p = true := by
 unfold isOrd
 rw [if_pos ⟨h1, h8⟩]
 exact ordGo_of _ p [] (fun x hx => by have := h.2 x hx; exact ⟨this.1, by omega, by simp⟩) h.1
theorem spec_alCounter_count.rank_of {p : List Int} (hp : p.length ≤ 8) {k : Nat} {a : Int} (h : spec_alRank.f k p = some a) : a = rankL p := by
 have h1 : spec_alRank.f.v p = some a := lim_of (fun k => spec_alRank.mono p k) h
 rw [spec_alRank.ok p hp] at h1
 exact (Option.some.inj h1).symm
theorem spec_alCounter_count.inj_ok : spec_alCounter_count.inj := by
 intro q q' k k' a hq hq' h8 hl h h'
 rcases Nat.eq_zero_or_pos q.length with h0 | h0
 ·rw [List.length_eq_zero_iff.1 h0, List.length_eq_zero_iff.1 (show q'.length = 0 by omega)]
 ·have h1 := spec_alCounter_count.ord_of hq h0 h8
  have h2 := spec_alCounter_count.ord_of hq' (by omega) (by omega)
  have e1 := spec_alCounter_count.rank_of (isOrd_len h1).2 h
  have e2 := spec_alCounter_count.rank_of (isOrd_len h2).2 h'
  exact rank_inj h1 h2 hl (e1.symm.trans e2)
theorem spec_alCounter_count.fc_eq : ∀ n, spec_alNew.fc n = fct n
 | 0 => rfl
 | n + 1 => by rw [spec_alNew.fc, fct, spec_alCounter_count.fc_eq n]
theorem spec_alCounter_count.ok_lp (g : List Int → Option Int) (c : List Int → Nat) (p : List Int) (hp : p.length ≤ 8) (M : Nat) (hM : M ≤ 1152921504606846976) : ∀ (m i n : Nat) (b : Bool), i + m + 1 = p.length → (∀ j : Nat, j + 1 < p.length → rd p (j : Int) > rd p ((j : Int) + 1) → g (swp p j (j + 1)) = some ((c (swp p j (j + 1)) : Nat) : Int)) → n + ((descGo p m i).map fun x => c (swp p x.toNat (x.toNat + 1))).sum ≤ M →
    spec_alCounter_count.lp g p m i (n : Int) b = some (((n + ((descGo p m i).map fun x => c (swp p x.toNat (x.toNat + 1))).sum : Nat) : Int), if (descGo p m i).length = 0 then b else false)
  | 0, i, n, b, _, _, _ => by rw [spec_alCounter_count.lp, descGo]; rfl
  | m + 1, i, n, b, hi, hg, hn => by
    rw [spec_alCounter_count.lp, descGo]
    rw [descGo] at hn
    by_cases e : rd p (i : Int) > rd p ((i : Int) + 1)
    · rw [if_pos e] at hn ⊢
      rw [if_pos e]
      rw [List.map_cons, List.sum_cons] at hn
      simp only [toNat_cast] at hn
      rw [spec_alSwap.ok p i (by omega) (by omega)]
      simp only [Option.bind_some]
      rw [hg i (by omega) e]
      simp only [Option.bind_some]
      rw [wrap_id (by omega) (by omega), show (n : Int) + ((c (swp p i (i + 1)) : Nat) : Int) = ((n + c (swp p i (i + 1)) : Nat) : Int) by omega]
      rw [spec_alCounter_count.ok_lp g c p hp M hM m (i + 1) _ false (by omega) hg (by omega), List.map_cons, List.sum_cons]
      simp only [toNat_cast, List.length_cons, Nat.add_assoc]
      congr 2
      by_cases hz : (descGo p m (i + 1)).length = 0
      · rw [if_pos hz, if_neg (by omega)]
      · rw [if_neg hz, if_neg (by omega)]
    · rw [if_neg e] at hn ⊢
      rw [if_neg e]
      exact spec_alCounter_count.ok_lp g c p hp M hM m (i + 1) n b (by omega) hg hn
theorem spec_alCounter_count.ok_g (n : Nat) (hn8 : n ≤ 8) : ∀ (d : Nat) (p : List Int), isOrd p = true → p.length = n → invC p ≤ d → d ≤ 16 → spec_alCounter_count.g (spec_alNew.fc n) n (d + 1) p = some ((cntF (d + 1) p : Nat) : Int) := by
 intro d
 induction d with
 | zero =>
  intro p ho hl hi hd
  have hr := rank_lt p
  have hln := isOrd_len ho
  have hds : desc p = [] := by
   cases e : desc p with
   | nil => rfl
   | cons a r =>
    obtain ⟨j, _, _, _, hc⟩ := desc_head e
    omega
  rw [spec_alCounter_count.g, if_pos ⟨spec_alCounter_count.inj_ok, spec_alCounter_count.good_of ho, hl, hn8⟩]
  rw [show (spec_alCounter_count.ev fun k => spec_alRank.f k p) = spec_alRank.f.v p from rfl, spec_alRank.ok p (by omega), Option.bind_some, if_pos (by rw [spec_alCounter_count.fc_eq, ← hl]; exact hr)]
  have := spec_alCounter_count.ok_lp (spec_alCounter_count.g (spec_alNew.fc n) n 0) (cntF 0) p (by omega) (8 ^ 18) (by decide) (p.length - 1) 0 0 true (by omega) (fun j hj hgt => by
   have hh : (j : Int) ∈ desc p := (desc_iff p j hj).2 hgt
   rw [hds] at hh; cases hh) (by rw [show descGo p (p.length - 1) 0 = desc p from rfl, hds]; simp)
  rw [show descGo p (p.length - 1) 0 = desc p from rfl, hds] at this
  rw [show ((0 : Nat) : Int) = 0 from rfl] at this
  rw [this, cntF, hds]
  rfl
 | succ d ih =>
  intro p ho hl hi hd
  have hr := rank_lt p
  have hln := isOrd_len ho
  rw [spec_alCounter_count.g, if_pos ⟨spec_alCounter_count.inj_ok, spec_alCounter_count.good_of ho, hl, hn8⟩]
  rw [show (spec_alCounter_count.ev fun k => spec_alRank.f k p) = spec_alRank.f.v p from rfl, spec_alRank.ok p (by omega), Option.bind_some, if_pos (by rw [spec_alCounter_count.fc_eq, ← hl]; exact hr)]
  have hle := cntF_le (d + 1 + 1) p (by omega)
  rw [cntF] at hle ⊢
  have h818 : (8 : Nat) ^ (d + 1 + 1) ≤ 8 ^ 18 := Nat.pow_le_pow_right (by decide) (by omega)
  have hlp := spec_alCounter_count.ok_lp (spec_alCounter_count.g (spec_alNew.fc n) n (d + 1)) (cntF (d + 1)) p (by omega) (8 ^ 18) (by decide) (p.length - 1) 0 0 true (by omega) (fun j hj hgt => ih _ (isOrd_swp ho j hj) (by rw [swp_length]; exact hl) (by have := invC_fall p j hj hgt; omega) (by omega))
  rw [show descGo p (p.length - 1) 0 = desc p from rfl] at hlp
  rw [show ((0 : Nat) : Int) = 0 from rfl] at hlp
  by_cases hz : (desc p).length = 0
  ·have hds := List.length_eq_zero_iff.1 hz
   rw [hds] at hlp
   rw [hlp (by simp), if_pos hz]
   rfl
  ·rw [if_neg hz] at hle
   rw [hlp (by omega), if_neg hz]
   simp only [if_neg hz, Option.bind_some, Nat.zero_add, Bool.false_eq_true, if_false]
theorem spec_alCounter_count.ok (p : List Int) (h : isOrd p = true) (h6 : p.length ≤ 6) : spec_alCounter_count.f (spec_alNew.fc p.length) p = some ((cntF 16 p : Nat) : Int) := by
 have hl := isOrd_len h
 exact spec_alCounter_count.ok_g p.length hl.2 15 p h rfl (invC_six h6) (by decide)
theorem spec_l1Has.ok_l (v : Int) (xs : List Int) (hn : xs.length ≤ 140737488355328) : ∀ (d i : Nat), xs.length - i = d → spec_l1Has.l0.v v xs xs.length i = some (decide (v ∈ xs.drop i)) := by
 intro d
 induction d with
 | zero =>
  intro i hd
  rw [spec_l1Has.l0.v_eq, if_neg (cast_nlt (by omega)), List.drop_eq_nil_of_le (by omega)]
  simp
 | succ d ih =>
  intro i hd
  have h : i < xs.length := by omega
  rw [spec_l1Has.l0.v_eq, if_pos (cast_lt h), if_pos (Int.natCast_nonneg i), if_pos (cast_lt h), succ_wrap h hn, ih (i + 1) (by omega), drop_rd xs i h]
  by_cases e : rd xs (i : Int) = v
  ·rw [if_pos e]; simp [e]
  ·have e' : ¬ v = rd xs (i : Int) := fun h => e h.symm
   rw [if_neg e]; simp [e']
theorem spec_l1Has.ok (v : Int) (xs : List Int) (hn : xs.length ≤ 140737488355328) : spec_l1Has.f.v xs v = some (decide (v ∈ xs)) := by
 rw [spec_l1Has.f.v_eq]
 have := spec_l1Has.ok_l v xs hn xs.length 0 (by omega)
 simpa using this
theorem spec_laOrder.ok_l (p : List Int) (hn : p.length ≤ 8) : ∀ (d i : Nat), p.length - i = d → spec_laOrder.l0.v p p p.length i = some (ordGo p.length (p.take i) (p.drop i)) := by
 intro d
 induction d with
 | zero =>
  intro i hd
  rw [spec_laOrder.l0.v_eq, if_neg (cast_nlt (by omega)), List.drop_eq_nil_of_le (by omega)]
  rfl
 | succ d ih =>
  intro i hd
  have h : i < p.length := by omega
  rw [spec_laOrder.l0.v_eq, if_pos (cast_lt h), if_pos (Int.natCast_nonneg i), if_pos (cast_lt h), succ_wrap h (by omega), ih (i + 1) (by omega), drop_rd p i h, take_rd p i h]
  rw [wrap_id (x := (p.length : Int) - 1) (by omega) (by omega), toNat_cast, spec_l1Has.ok _ _ (by rw [List.length_take]; omega)]
  unfold spec_l1In.f
  rw [ordGo_cons]
  by_cases a : 0 ≤ rd p (i : Int)
  ·by_cases b : rd p (i : Int) ≤ (p.length : Int) - 1
   ·have hi : (i : Int) ≤ (p.length : Int) := by omega
    by_cases c : rd p (i : Int) ∈ p.take i
    ·simp only [ge_iff_le, a, b, c, hi, decide_true, decide_false, if_true, if_false, Option.bind_some, true_and, and_true, and_self, Bool.false_eq_true]
    ·simp only [ge_iff_le, a, b, c, hi, decide_true, decide_false, if_true, if_false, Option.bind_some, true_and, and_true, and_self, Bool.false_eq_true]
   ·simp [a, b]
  ·simp [a]
theorem spec_laOrder.ok (p : List Int) : spec_laOrder.f.v p = some (isOrd p) := by
 rw [spec_laOrder.f.v_eq]
 unfold spec_l1In.f isOrd
 by_cases h : 1 ≤ p.length ∧ p.length ≤ 8
 ·have := spec_laOrder.ok_l p h.2 p.length 0 (by omega)
  have h1 : (p.length : Int) ≥ 1 := by omega
  have h2 : (p.length : Int) ≤ 8 := by omega
  rw [if_pos h1, if_pos h, decide_eq_true h2]
  simpa using this
 ·rw [if_neg h]
  by_cases h1 : (p.length : Int) ≥ 1
  ·have h2 : ¬ (p.length : Int) ≤ 8 := by omega
   rw [if_pos h1, decide_eq_false h2]; rfl
  ·rw [if_neg h1]; rfl
theorem spec_alGood.ok (p : List Int) : spec_alGood.f.v p = some (cntd p) := by
 rw [spec_alGood.f.v_eq, spec_laOrder.ok, Option.bind_some]
 unfold cntd
 cases h : isOrd p
 ·rfl
 ·rw [if_pos rfl]
  unfold spec_l1In.f
  by_cases h2 : (p.length : Int) ≥ 2
  ·rw [if_pos h2, Option.bind_some]
   have : decide (2 ≤ p.length) = true := decide_eq_true (by omega)
   rw [this]
   congr 1
   simp only [Bool.true_and]
   exact decide_eq_decide.2 (by omega)
  ·rw [if_neg h2, Option.bind_some]
   have : decide (2 ≤ p.length) = false := decide_eq_false (by omega)
   rw [this]; rfl
theorem spec_alList.ok_l1 (p : List Int) (b : Bool) (x : Int) (L : List (List Int)) (hL : L.length ≤ 100000) (hs : ∀ r ∈ L, r.length ≤ 1000) : ∀ (d i : Nat) (acc : List (List Int)), i + d = L.length → acc.length + d ≤ 100000 → spec_alList.l1.v p acc b x L (L.length : Int) (i : Int) = spec_alList.l0.v p (acc ++ (L.drop i).map fun r => x :: r) b (wrap64 (x + 1)) := by
 intro d
 induction d with
 | zero => intro i acc hi ha; rw [spec_alList.l1.v_eq, if_neg (by omega), List.drop_eq_nil_of_le (by omega), List.map_nil, List.append_nil]
 | succ d ih =>
  intro i acc hi ha
  have h : i < L.length := by omega
  have e : rd_L1 L (i : Int) = L[i] := by
   unfold rd_L1
   rw [Int.toNat_natCast, List.getD_eq_getElem?_getD, List.getElem?_eq_getElem h, Option.getD_some]
  have hm := hs _ (List.getElem_mem h)
  rw [spec_alList.l1.v_eq, if_pos (cast_lt h), if_pos (Int.natCast_nonneg _), if_pos (cast_lt h), Option.bind_some, e, if_pos (by simp; omega), if_pos (by omega), succ_wrap h (by omega), ih (i + 1) _ (by omega) (by simp; omega), List.drop_eq_getElem_cons h, List.map_cons, List.append_assoc]
  rfl
theorem spec_alList.ok_l0 (p : List Int) (hp : isOrd p = true) (c : List Int → List (List Int)) (hg : ∀ j : Nat, j + 1 < p.length → rd p (j : Int) > rd p ((j : Int) + 1) → spec_alList.f.v (swp p j (j + 1)) = some (c (swp p j (j + 1))) ∧ (c (swp p j (j + 1))).length ≤ 100000 ∧ ∀ r ∈ c (swp p j (j + 1)), r.length ≤ 1000) : ∀ (m i : Nat) (acc : List (List Int)) (b : Bool), i + m + 1 = p.length → acc.length + ((descGo p m i).map fun x => (c (swp p x.toNat (x.toNat + 1))).length).sum ≤ 100000 → spec_alList.l0.v p acc b (i : Int) = some (if b = true ∧ (descGo p m i).length = 0 then [[]] else acc ++ (descGo p m i).flatMap fun x => (c (swp p x.toNat (x.toNat + 1))).map fun r => x :: r) := by
 have h8 := (isOrd_len hp).2
 intro m
 induction m with
 | zero =>
  intro i acc b hi ha
  rw [spec_alList.l0.v_eq, wrap_id (by omega) (by omega), if_neg (by omega), descGo]
  cases b
  ·rw [if_neg Bool.false_ne_true, if_neg (by simp)]; simp
  ·rw [if_pos rfl, if_pos (by simp)]
 | succ m ih =>
  intro i acc b hi ha
  have e := rd_adj hp i (by omega)
  rw [spec_alList.l0.v_eq, wrap_id (x := (i : Int) + 1) (by omega) (by omega), if_pos (by omega), if_pos (by omega), if_pos (by omega), if_pos (by omega), descGo]
  rw [descGo] at ha
  rw [show (i : Int) + 1 = ((i + 1 : Nat) : Int) by omega] at *
  by_cases d : rd p (i : Int) > rd p ((i + 1 : Nat) : Int)
  ·rw [if_pos d] at ha ⊢
   rw [List.map_cons, List.sum_cons, Int.toNat_natCast] at ha
   obtain ⟨g1, g2, g3⟩ := hg i (by omega) (by rw [show (i : Int) + 1 = ((i + 1 : Nat) : Int) by omega]; exact d)
   rw [if_neg (by omega), spec_alSwap.ok p i (by omega) (by omega), Option.bind_some, g1, Option.bind_some]
   have h1 := spec_alList.ok_l1 p false (i : Int) _ g2 g3 (c (swp p i (i + 1))).length 0 acc (by omega) (by omega)
   rw [show ((0 : Nat) : Int) = 0 from rfl, List.drop_zero] at h1
   rw [h1, wrap_id (x := (i : Int) + 1) (by omega) (by omega), show (i : Int) + 1 = ((i + 1 : Nat) : Int) by omega, ih (i + 1) _ false (by omega) (by simp; omega), if_neg (by simp), if_neg (by simp)]
   simp
  ·rw [if_neg d] at ha ⊢
   rw [if_pos (by omega), ih (i + 1) acc b (by omega) ha]
theorem spec_alList.ok : ∀ (d : Nat) (p : List Int), isOrd p = true → invC p < d → d ≤ 100 → cntF d p ≤ 100000 → spec_alList.f.v p = some (listF d p) := by
 intro d
 induction d with
 | zero => intro p _ h; omega
 | succ d ih =>
  intro p hp hd h1 hc
  have hl := (isOrd_len hp).1
  have hcs : ((desc p).map fun x => (listF d (swp p x.toNat (x.toNat + 1))).length).sum ≤ 100000 := by
   simp only [listF_length]
   by_cases h0 : (desc p).length = 0
   ·rw [List.length_eq_zero_iff.1 h0]; simp
   ·rw [cntF, if_neg h0] at hc; exact hc
  rw [spec_alList.f.v_eq]
  have h2 := spec_alList.ok_l0 p hp (listF d) (fun j hj hr => by
   have hf := invC_fall p j hj hr
   have hm := cnt_part (d := d) (mem_desc hj hr)
   rw [Int.toNat_natCast] at hm
   exact ⟨ih _ (isOrd_swp hp j hj) (by omega) (by omega) (by omega), by rw [listF_length]; omega, fun r hr => by have := listF_short d _ r hr; omega⟩) (p.length - 1) 0 [] true (by omega) (by rw [List.length_nil, Nat.zero_add]; exact hcs)
  rw [show ((0 : Nat) : Int) = 0 from rfl] at h2
  rw [h2]
  show some (if true = true ∧ (desc p).length = 0 then [[]] else [] ++ (desc p).flatMap _) = _
  rw [listF]
  by_cases h0 : (desc p).length = 0
  ·rw [if_pos h0, if_pos ⟨rfl, h0⟩]
  ·rw [if_neg h0, if_neg (fun x => h0 x.2), List.nil_append]
theorem spec_alAsked.ok (p : List Int) : spec_alAsked.f p = some (if cntd p = true ∧ cntF 16 p ≤ 800 then (listF 16 p, true) else ([], false)) := by
 unfold spec_alAsked.f
 rw [show (spec_alAsked.ev fun k => spec_alGood.f k p) = spec_alGood.f.v p from rfl, spec_alGood.ok, Option.bind_some]
 by_cases h : cntd p = true
 ·have hc := cntd_iff.1 h
  have h6 := invC_six hc.2.2
  rw [if_pos h, if_pos (by omega), spec_alCounter_count.ok p hc.1 hc.2.2, Option.bind_some]
  by_cases c : cntF 16 p ≤ 800
  ·rw [if_neg (by omega), if_pos ⟨h, c⟩, show (spec_alAsked.ev fun k => spec_alList.f k p) = spec_alList.f.v p from rfl, spec_alList.ok 16 p hc.1 (by omega) (by omega) (by omega)]; rfl
  ·rw [if_pos (by omega), if_neg (fun x => c x.2)]
 ·rw [if_neg h, if_neg (fun x => h x.1)]
theorem spec_lsLess.ok_l (a b : List Int) (ha : a.length ≤ 1000) : ∀ (d i : Nat), i + d = a.length → i ≤ b.length → spec_lsLess.l0.v a b (i : Int) = some (lexL (a.drop i) (b.drop i)) := by
 intro d
 induction d with
 | zero =>
  intro i hd hb
  rw [spec_lsLess.l0.v_eq, if_neg (cast_nlt (by omega)), spec_lsLess.j1.v_eq, if_neg Bool.false_ne_true, List.drop_eq_nil_of_le (show a.length ≤ i by omega), lexL, List.length_drop]
  congr 1
  rw [decide_eq_decide]
  omega
 | succ d ih =>
  intro i hd hb
  have h : i < a.length := by omega
  rw [spec_lsLess.l0.v_eq, if_pos (cast_lt h), spec_lsLess.j1.v_eq, drop_rd a i h]
  by_cases h2 : i < b.length
  ·rw [decide_eq_true (cast_lt h2), if_pos rfl, if_pos (Int.natCast_nonneg i), if_pos (cast_lt h), if_pos (cast_lt h2), drop_rd b i h2, lexL]
   by_cases e : rd a (i : Int) = rd b (i : Int)
   ·rw [if_pos e, if_pos e, succ_wrap h (by omega)]
    exact ih (i + 1) (by omega) (by omega)
   ·rw [if_neg e, if_neg e]
  ·rw [decide_eq_false (cast_nlt h2), if_neg Bool.false_ne_true, List.drop_eq_nil_of_le (show b.length ≤ i by omega), lexL]
   congr 1
   exact decide_eq_false (by omega)
theorem spec_lsLess.ok (a b : List Int) (ha : a.length ≤ 1000) : spec_lsLess.f.v a b = some (lexL a b) := by
 rw [spec_lsLess.f.v_eq]
 have := spec_lsLess.ok_l a b ha a.length 0 (by omega) (by omega)
 simpa using this
theorem spec_alPlace.mid (a b : Nat) (ha : a ≤ 1000) (hb : b ≤ 1000) : wrap64 (Int.tdiv (wrap64 ((a : Int) + (b : Int))) 2) = (((a + b) / 2 : Nat) : Int) := by
 rw [wrap_id (x := (a : Int) + (b : Int)) (by omega) (by omega), Int.tdiv_eq_ediv_of_nonneg (by omega), wrap_id (by omega) (by omega)]
 omega
theorem spec_alPlace.ok_l (L : List (List Int)) (hL : PL L) (i : Nat) (hi : i < L.length) : ∀ (d lo hi_ : Nat), hi_ ≤ lo + d → lo ≤ i → i ≤ hi_ → hi_ < L.length → spec_alPlace.l0.v L (rdR L (i : Int)) (lo : Int) (hi_ : Int) = some (i : Int) := by
  have hf := hL.few
  intro d
  induction d with
  | zero =>
    intro lo hi_ h1 h2 h3 h4
    rw [spec_alPlace.l0.v_eq, if_neg (by omega)]
    rw [show lo = i by omega]
  | succ d ih =>
    intro lo hi_ h1 h2 h3 h4
    rw [spec_alPlace.l0.v_eq]
    by_cases hlt : lo < hi_
    · have hm : (lo + hi_) / 2 < L.length := by omega
      have hle := hL.len _ (PL.mem ((lo + hi_) / 2) hm)
      rw [if_pos (by omega), spec_alPlace.mid lo hi_ (by omega) (by omega), if_pos (Int.natCast_nonneg _), if_pos (cast_lt hm), show rd_L1 L (((lo + hi_) / 2 : Nat) : Int) = rdR L (((lo + hi_) / 2 : Nat) : Int) from rfl, spec_lsLess.ok _ _ (by omega), Option.bind_some]
      by_cases hmi : (lo + hi_) / 2 < i
      · rw [hL.lt _ i hmi hi, if_pos rfl, succ_wrap hm (by omega)]
        exact ih _ _ (by omega) (by omega) h3 h4
      · have hn : lexL (rdR L (((lo + hi_) / 2 : Nat) : Int)) (rdR L (i : Int)) = false := by
          by_cases e : i = (lo + hi_) / 2
          · rw [← e]; exact lexL_irr _
          · have h5 := hL.lt i _ (by omega) hm
            cases h6 : lexL (rdR L (((lo + hi_) / 2 : Nat) : Int)) (rdR L (i : Int)) with
            | false => rfl
            | true => have := lexL_trans _ _ _ h5 h6; rw [lexL_irr] at this; cases this
        rw [hn, if_neg (by simp)]
        exact ih _ _ (by omega) h2 (by omega) (by omega)
    · rw [if_neg (by omega), show lo = i by omega]
theorem spec_alPlace.ok (L : List (List Int)) (hL : PL L) (i : Nat) (hi : i < L.length) : spec_alPlace.f.v L (rdR L (i : Int)) = some (i : Int) := by
 have hf := hL.few
 rw [spec_alPlace.f.v_eq, wrap_id (by omega) (by omega), show ((L.length : Int) - 1) = ((L.length - 1 : Nat) : Int) by omega]
 exact spec_alPlace.ok_l L hL i hi L.length 0 (L.length - 1) (by omega) (by omega) (by omega) (by omega)
theorem spec_l1Abs.ok (x : Int) (h0 : -1000000 ≤ x) (h1 : x ≤ 1000000) : spec_l1Abs.f x = some (if 0 ≤ x then x else -x) := by
 unfold spec_l1Abs.f spec_l1Most.f
 rw [wrap_id (x := -x) (by omega) (by omega)]
 by_cases h : x > -x
 ·rw [if_pos h, Option.bind_some, if_pos (by omega)]
 ·rw [if_neg h, Option.bind_some]
  by_cases h2 : 0 ≤ x
  ·rw [if_pos h2]; congr 1; omega
  ·rw [if_neg h2]
theorem spec_alClasses.ok_0 (L : List (List Int)) (hf : L.length ≤ 800) : ∀ (d i : Nat) (C : List Int), i + d = L.length → C.length = L.length → (∀ j : Nat, j < i → rd C (j : Int) = -1) → spec_alClasses.l0.v L C (L.length : Int) (i : Int) = spec_alClasses.l1.v L (List.replicate L.length (-1)) [] (L.length : Int) 0 := by
 intro d
 induction d with
 | zero =>
  intro i C hd hl hc
  rw [spec_alClasses.l0.v_eq, if_neg (cast_nlt (by omega))]
  rw [ext_rd C (List.replicate L.length (-1)) (by rw [hl, List.length_replicate]) (fun j hj => by rw [hc j (by omega), rd_lt _ j (by rw [List.length_replicate]; omega)]; simp)]
 | succ d ih =>
  intro i C hd hl hc
  rw [spec_alClasses.l0.v_eq, if_pos (cast_lt (by omega)), if_pos (Int.natCast_nonneg _), if_pos (cast_lt (by omega)), succ_wrap (show i < L.length by omega) (by omega), Int.toNat_natCast]
  refine ih (i + 1) _ (by omega) (by rw [List.length_set]; exact hl) (fun j hj => ?_)
  rw [rd_set_at C i j (-1) (by omega)]
  by_cases e : j = i
  ·rw [if_pos e]
  ·rw [if_neg e]; exact hc j (by omega)
theorem spec_alClasses.ok_3 (L : List (List Int)) (hL : PL L) (C0 : List Int) (i : Nat) (hi : i < L.length) (r : Int) (hr : 0 ≤ r) (H : List Int) (h0 : ∀ j : Nat, j < L.length → nfL (rdR L (j : Int)) = rdR L (i : Int) → rd C0 (j : Int) = -1) (qi : Nat) (x : List Int) (hxL : x ∈ L) : ∀ (d A : Nat) (C Q : List Int), x.length ≤ A + 1 + d → A ≤ 60 → rdR L (rd Q (qi : Int)) = x → BI L C0 i r C Q → qi < Q.length → ClQ L Q qi → ClA L Q qi A → ∃ C' Q', BI L C0 i r C' Q' ∧ qi < Q'.length ∧ ClQ L Q' (qi + 1) ∧ spec_alClasses.l3.v L C H (i : Int) Q (qi : Int) x (A : Int) (L.length : Int) (i : Int) = spec_alClasses.l2.v L C' H (i : Int) Q' ((qi + 1 : Nat) : Int) (L.length : Int) (i : Int) := by
  have hf := hL.few
  have hx6 := hL.len x hxL
  have hxb := hL.bds x hxL
  intro d
  induction d with
  | zero =>
    intro A C Q hA hA2 hx hB hq hc ha
    have hqf := hB.few hL
    rw [spec_alClasses.l3.v_eq, wrap_id (x := (A : Int) + 1) (by omega) (by omega), if_neg (by omega), succ_wrap hq (by omega)]
    exact ⟨C, Q, hB, hq, hc.next (ha.all (by rw [hx]; omega)), rfl⟩
  | succ d ih =>
    intro A C Q hA hA2 hx hB hq hc ha
    have hqf := hB.few hL
    have hn : ∀ {y : List Int}, Rch x y → nfL y = nfL x := fun h_ => nf_eq hxb h_
    rw [spec_alClasses.l3.v_eq, wrap_id (x := (A : Int) + 1) (by omega) (by omega)]
    by_cases hlt : A + 1 < x.length
    · have b1 := hxb _ (rd_mem x A (by omega))
      have b2 := hxb _ (rd_mem x (A + 1) hlt)
      have eA : (A : Int) + 1 = ((A + 1 : Nat) : Int) := by omega
      rw [eA, if_pos (cast_lt hlt), if_pos (Int.natCast_nonneg _), if_pos (cast_lt (by omega)), if_pos (Int.natCast_nonneg _), wrap_id (x := rd x (A : Int) - rd x ((A + 1 : Nat) : Int)) (by omega) (by omega), spec_l1Abs.ok _ (by omega) (by omega), Option.bind_some]
      by_cases c : rd x (A : Int) - rd x ((A + 1 : Nat) : Int) ≥ 2 ∨ rd x ((A + 1 : Nat) : Int) - rd x (A : Int) ≥ 2
      · have hs : slideC x (A : Int) = true := decide_eq_true ⟨by omega, by omega, by rw [eA]; exact c⟩
        have hsl := slide_Sl hs
        have hy := hL.clo x hxL _ hsl
        obtain ⟨j, hj, ej⟩ := PL.has hy
        have hnx : nfL x = rdR L (i : Int) := by
          obtain ⟨m, em, _, hm⟩ := hB.qs _ (rd_mem Q qi hq)
          rw [em] at hx
          rw [← hx]; exact hm
        have hnj : nfL (rdR L (j : Int)) = rdR L (i : Int) := by
          rw [ej, hn (.step .refl hsl), hnx]
        have hset : ((x.set (A : Int).toNat (rd x ((A + 1 : Nat) : Int))).set (((A + 1 : Nat) : Int)).toNat (rd x (A : Int))) = slideL x (A : Int) := by
          unfold slideL swp
          rw [Int.toNat_natCast, Int.toNat_natCast]
        rw [if_neg (by split <;> omega), spec_l1Own.ok x (by omega), Option.bind_some, if_pos (cast_lt (by omega)), if_pos (cast_lt hlt), hset, ← ej, spec_alPlace.ok L hL j hj, Option.bind_some, if_pos (Int.natCast_nonneg _), if_pos (by rw [hB.len]; exact cast_lt hj)]
        have hvi : rd C (i : Int) = r := by rw [hB.val i hi, if_pos hB.self]
        by_cases hv : rd C (j : Int) < 0
        · have hnq : (j : Int) ∉ Q := fun hq2 => by rw [hB.val j hj, if_pos hq2] at hv; omega
          have hB2 := hB.put j hj hnj hnq
          have hrq : rd (Q ++ [(j : Int)]) (qi : Int) = rd Q (qi : Int) := rd_app Q _ qi hq
          rw [if_pos hv, if_pos (Int.natCast_nonneg _), if_pos (by rw [hB.len]; exact cast_lt hi), if_pos (by omega), hvi, Int.toNat_natCast]
          refine ih (A + 1) _ _ (by omega) (by omega) (by rw [hrq]; exact hx) hB2 (by simp; omega) (hc.more (by omega) _) ((ha.more hq _).next (fun hs2 => ?_))
          rw [hrq, hx] at hs2 ⊢
          exact ⟨j, hj, ej, by simp⟩
        · have hq2 : (j : Int) ∈ Q := by
            refine Classical.byContradiction (fun hnq => ?_)
            rw [hB.val j hj, if_neg hnq, h0 j hj hnj] at hv
            omega
          rw [if_neg hv]
          refine ih (A + 1) C Q (by omega) (by omega) hx hB hq hc (ha.next (fun hs2 => ?_))
          rw [hx] at hs2 ⊢
          exact ⟨j, hj, ej, hq2⟩
      · rw [if_pos (by split <;> omega)]
        refine ih (A + 1) C Q (by omega) (by omega) hx hB hq hc (ha.next (fun hs2 => ?_))
        rw [hx] at hs2
        exact absurd (by have := (of_decide_eq_true hs2).2.2; rw [eA] at this; exact this) c
    · rw [if_neg (by omega), succ_wrap hq (by omega)]
      exact ⟨C, Q, hB, hq, hc.next (ha.all (by rw [hx]; omega)), rfl⟩
theorem spec_alClasses.ok_2 (L : List (List Int)) (hL : PL L) (C0 : List Int) (i : Nat) (hi : i < L.length) (r : Int) (hr : 0 ≤ r) (H : List Int) (hH : H.length ≤ 1000) (h0 : ∀ j : Nat, j < L.length → nfL (rdR L (j : Int)) = rdR L (i : Int) → rd C0 (j : Int) = -1) : ∀ (d qi : Nat) (C Q : List Int), L.length ≤ qi + d → BI L C0 i r C Q → qi ≤ Q.length → ClQ L Q qi → ∃ C', C'.length = L.length ∧ (∀ j : Nat, j < L.length → rd C' (j : Int) = if nfL (rdR L (j : Int)) = rdR L (i : Int) then r else rd C0 (j : Int)) ∧ spec_alClasses.l2.v L C H (i : Int) Q (qi : Int) (L.length : Int) (i : Int) = spec_alClasses.l1.v L C' (H ++ [(i : Int)]) (L.length : Int) ((i + 1 : Nat) : Int) := by
 have hf := hL.few
 have stop : ∀ (qi : Nat) (C Q : List Int), BI L C0 i r C Q → qi = Q.length → ClQ L Q qi → ∃ C', C'.length = L.length ∧ (∀ j : Nat, j < L.length → rd C' (j : Int) = if nfL (rdR L (j : Int)) = rdR L (i : Int) then r else rd C0 (j : Int)) ∧ spec_alClasses.l2.v L C H (i : Int) Q (qi : Int) (L.length : Int) (i : Int) = spec_alClasses.l1.v L C' (H ++ [(i : Int)]) (L.length : Int) ((i + 1 : Nat) : Int) := by
  intro qi C Q hB he hc
  subst he
  rw [spec_alClasses.l2.v_eq, if_neg (by omega), if_pos (by omega), succ_wrap hi (by omega)]
  exact ⟨C, hB.len, hB.done hL hi hc, rfl⟩
 intro d
 induction d with
 | zero =>
  intro qi C Q hd hB hq hc
  have hqf := hB.few hL
  exact stop qi C Q hB (by omega) hc
 | succ d ih =>
  intro qi C Q hd hB hq hc
  by_cases e : qi = Q.length
  ·exact stop qi C Q hB e hc
  ·have hlt : qi < Q.length := by omega
   obtain ⟨m, em, hm, hmn⟩ := hB.qs _ (rd_mem Q qi hlt)
   obtain ⟨C2, Q2, hB2, hq2, hc2, e2⟩ := spec_alClasses.ok_3 L hL C0 i hi r hr H h0 qi (rdR L (m : Int)) (PL.mem m hm) 60 0 C Q (by have := hL.len _ (PL.mem m hm); omega) (by omega) (by rw [em]) hB hlt hc (fun a ha => by omega)
   obtain ⟨C', h1, h2, h3⟩ := ih (qi + 1) C2 Q2 (by omega) hB2 (by omega) hc2
   refine ⟨C', h1, h2, ?_⟩
   rw [spec_alClasses.l2.v_eq, if_pos (cast_lt hlt), if_pos (Int.natCast_nonneg _), em, if_pos (Int.natCast_nonneg _), if_pos (cast_lt hm)]
   exact e2.trans h3
theorem spec_alClasses.ok_1 (L : List (List Int)) (hL : PL L) : ∀ (d i : Nat) (C H : List Int), i + d = L.length → OI L i C H → ∃ C' H', OI L L.length C' H' ∧ spec_alClasses.l1.v L C H (L.length : Int) (i : Int) = some (C', H') := by
 have hf := hL.few
 intro d
 induction d with
 | zero =>
  intro i C H hd h
  obtain rfl : i = L.length := by omega
  rw [spec_alClasses.l1.v_eq, if_neg (by omega)]
  exact ⟨C, H, h, rfl⟩
 | succ d ih =>
  intro i C H hd h
  have hi : i < L.length := by omega
  rw [spec_alClasses.l1.v_eq, if_pos (cast_lt hi), if_pos (Int.natCast_nonneg _), if_pos (by rw [h.len]; exact cast_lt hi)]
  by_cases hc : rd C (i : Int) ≥ 0
  ·rw [if_pos hc, succ_wrap hi (by omega)]
   exact ih (i + 1) C H (by omega) (h.skip hL hi hc)
  ·obtain ⟨hh, h0⟩ := h.fresh hL hi (by omega)
   have hHl : H.length ≤ 1000 := by
    rw [h.len_H]
    have := List.length_filter_le (isH L) (List.range i)
    rw [List.length_range] at this
    unfold rankH; omega
   obtain ⟨C', h1, h2, h3⟩ := spec_alClasses.ok_2 L hL C i hi (H.length : Int) (by omega) H hHl h0 L.length 0 (C.set i (H.length : Int)) [(i : Int)] (by omega) (BI.start hi hh h.len) (by simp) (fun k hk => by omega)
   rw [if_neg hc, Int.toNat_natCast]
   obtain ⟨C2, H2, h4, h5⟩ := ih (i + 1) C' (H ++ [(i : Int)]) (by omega) (h.next hL hi hh h1 h2)
   refine ⟨C2, H2, h4, ?_⟩
   exact h3.trans h5
theorem spec_alClasses.ok (L : List (List Int)) (hL : PL L) : ∃ C H, OI L L.length C H ∧ spec_alClasses.f.v L = some (C, H) := by
 have hf := hL.few
 obtain ⟨C, H, h1, h2⟩ := spec_alClasses.ok_1 L hL L.length 0 _ _ (by omega) (OI.start L)
 refine ⟨C, H, h1, ?_⟩
 have := spec_alClasses.ok_0 L hf L.length 0 (List.replicate L.length 0) (by omega) (by rw [List.length_replicate]) (fun j hj => by omega)
 rw [spec_alClasses.f.v_eq, if_pos (by omega), Int.toNat_natCast, if_pos (by omega)]
 exact this.trans h2
theorem spec_SizesOfClasses.ok_l (C : List Int) (hC : C.length ≤ 1000) (m : Nat) (hr : ∀ x ∈ C, 0 ≤ x ∧ x < (m : Int)) : ∀ (d i : Nat) (Z : List Int), i + d = C.length → Z.length = m → spec_SizesOfClasses.l0.v Z C (C.length : Int) (i : Int) = some ((C.drop i).foldl bumpC Z, true) := by
 intro d
 induction d with
 | zero =>
  intro i Z hd hz
  rw [spec_SizesOfClasses.l0.v_eq, if_neg (cast_nlt (by omega)), List.drop_eq_nil_of_le (by omega)]
  rfl
 | succ d ih =>
  intro i Z hd hz
  have hi : i < C.length := by omega
  have hb := hr _ (rd_mem C i hi)
  rw [spec_SizesOfClasses.l0.v_eq, if_pos (cast_lt hi), if_pos (Int.natCast_nonneg _), if_pos (cast_lt hi), if_pos hb.1, if_pos (by rw [hz]; exact hb.2), succ_wrap hi (by omega), drop_rd C i hi, List.foldl_cons]
  exact ih (i + 1) (bumpC Z (rd C (i : Int))) (by omega) (by rw [bumpC_length]; exact hz)
theorem spec_SizesOfClasses.ok (p : List Int) : (¬ (cntd p = true ∧ cntF 16 p ≤ 800) → spec_SizesOfClasses.f.v p = some ([], false)) ∧ (cntd p = true ∧ cntF 16 p ≤ 800 → ∃ C H, OI (listF 16 p) (listF 16 p).length C H ∧ spec_SizesOfClasses.f.v p = some (C.foldl bumpC (List.replicate (headsL (listF 16 p)).length 0), true)) := by
 rw [spec_SizesOfClasses.f.v_eq, spec_alAsked.ok, Option.bind_some]
 refine ⟨fun h => by rw [if_neg h]; rfl, fun h => ?_⟩
 rw [if_pos h]
 have hL := PL_listF h.1 h.2
 obtain ⟨C, H, h1, h2⟩ := spec_alClasses.ok _ hL
 have hl := hL.few
 have hHl : H.length ≤ 1000 := by
  rw [h1.lenH]
  have := List.length_filter_le (fun x => decide (nfL x = x)) (listF 16 p)
  unfold headsL; omega
 refine ⟨C, H, h1, ?_⟩
 simp only [if_true]
 rw [h2, Option.bind_some]
 simp only []
 rw [if_pos (by omega), Int.toNat_natCast, if_pos (by omega)]
 have := spec_SizesOfClasses.ok_l C (by rw [h1.len]; omega) H.length (fun x hx => by
  obtain ⟨j, hj, rfl⟩ := List.getElem_of_mem hx
  obtain ⟨q, hq, hh, _, e⟩ := h1.cls hL j (by rw [← h1.len]; exact hj)
  rw [rd_lt C j hj] at e
  have := rankH_lt _ q hq hh
  rw [h1.lenH]; omega) C.length 0 (List.replicate H.length 0) (by omega) (by rw [List.length_replicate])
 refine this.trans ?_
 rw [List.drop_zero, h1.lenH]
theorem FnExactSizesOfClasses : laws_FnExactSizesOfClasses.Pure := by
 intro l _ _ _
 refine laws_FnExactSizesOfClasses.f.ends l ?_
 rw [laws_FnExactSizesOfClasses.f.v_eq]
 by_cases h : (l.length : Int) > 1048576
 ·rw [if_pos h]
 ·have hl : l.length ≤ 1048576 := by omega
  rw [if_neg h]
  obtain ⟨r, b, hs, hi, hr⟩ : ∃ r b, spec_SizesOfClasses.f.v l = some (r, b) ∧ impl_SizesOfClasses.f l = some (r, b) ∧ r.length ≤ 1048576 := by
   obtain ⟨s0, s1⟩ := spec_SizesOfClasses.ok l
   obtain ⟨i0, i1⟩ := impl_SizesOfClasses.ok l
   by_cases hp : cntd l = true ∧ cntF 16 l ≤ 800
   ·obtain ⟨C, H, hO, e⟩ := s1 hp
    refine ⟨_, _, e, i1 hp C H hO, ?_⟩
    have hfl : ∀ (C Z : List Int), (C.foldl bumpC Z).length = Z.length := fun C => by
     induction C with
     | nil => intro Z; rfl
     | cons x C ih => intro Z; rw [List.foldl_cons, ih, bumpC_length]
    rw [hfl, List.length_replicate]
    have h1 : (headsL (listF 16 l)).length ≤ (listF 16 l).length := List.length_filter_le _ _
    have h2 := (PL_listF hp.1 hp.2).few
    omega
   ·exact ⟨_, _, s0 hp, i0 hp, by simp⟩
  have e0 := laws_toIntS.ok l hl
  have e1 := laws_eqIntS.ok l (by omega)
  have e2 := laws_eqIntS.ok r (by omega)
  have e3 := laws_markIntS.ok l 1 (by omega) (by omega) (by omega)
  have e4 := laws_markIntS.ok r 1 (by omega) (by omega) (by omega)
  have e5 := laws_heldIntS.ok r.length 1 (by omega) (by omega) (by omega)
  have n1 : ¬ ((1 : Int) + (l.length : Int) < 0) := by omega
  have n2 : ¬ ((1 : Int) + (r.length : Int) < 0) := by omega
  simp only [e0, hs, hi, e1, e2, e3, e4, e5, if_neg n1, if_neg n2, laws_FnExactSizesOfClasses.j0.v_eq, laws_FnExactSizesOfClasses.j1.v_eq, laws_FnExactSizesOfClasses.j2.v_eq, Option.bind_some, bne_self_eq_false, Bool.false_eq_true, if_false, if_true]
end Go.Proofs.Ytlmiiijjjcddkaa.Pure
