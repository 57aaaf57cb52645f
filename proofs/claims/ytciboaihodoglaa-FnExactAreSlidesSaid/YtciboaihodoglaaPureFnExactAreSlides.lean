/- Proved: for every input the law FnExactAreSlides returns true (its plain statement, over numbers and lists). No condition. -/
import Derived.Test.YtciboaihodoglaaPFsx11
import Derived.Test.YtciboaihodoglaaPFsx5
import Derived.Test.YtciboaihodoglaaVFsx1
import Derived.Test.YtciboaihodoglaaVFsx10
import Derived.Test.YtciboaihodoglaaVFsx11
import Derived.Test.YtciboaihodoglaaVFsx2
import Derived.Test.YtciboaihodoglaaVFsx3
import Derived.Test.YtciboaihodoglaaVFsx4
import Derived.Test.YtciboaihodoglaaVFsx6
import Derived.Test.YtciboaihodoglaaVFsx8
import Derived.Test.YtciboaihodoglaaVFsx9
import Derived.Test.YtciboaihodoglaaLadders
import Derived.Test.YtciboaihodoglaaOrders
import Derived.Test.YtciboaihodoglaaPlain
import Derived.Test.YtciboaihodoglaaSlides
namespace Go.Proofs.Ytciboaihodoglaa.Pure
open Go.RowKit Go.Proofs.Ytciboaihodoglaa.PFs Go.Proofs.YtciboaihodoglaaW.PrintWords Go.Proofs.YtciboaihodoglaaW.PrintLast Go.Proofs.YtciboaihodoglaaW.PrintMore Go.Proofs.YtciboaihodoglaaL
set_option linter.unusedVariables false
set_option linter.unusedSimpArgs false

theorem impl_firsts.free_eq (l : List Int) (i : Nat) : impl_firsts.free l i = freeL l i := by
  unfold impl_firsts.free freeL
  rw [List.not_any_eq_all_not]
  congr 1; funext x
  unfold impl_firsts.near farI
  exact Bool.not_not _
theorem impl_firsts.ok (l : List Int) (h0 : 0 < l.length) (h1 : l.length ≤ 60) (hs : ∀ x ∈ l, 0 ≤ x ∧ x ≤ 6) : ∃ t, impl_firsts.f l = some t ∧ 0 < t.length ∧ rd t 0 = bestL l l.length := by
  have hsm : impl_firsts.small l = true := by
    unfold impl_firsts.small
    refine List.all_eq_true.2 fun x hx => ?_
    have := hs x hx
    simp only [Bool.and_eq_true, decide_eq_true_eq]
    omega
  have hmo : ∀ i, i ∈ impl_firsts.outs l l.length ↔ i < l.length ∧ freeL l i = true := by
    intro i
    unfold impl_firsts.outs
    rw [List.mem_filter, List.mem_range, impl_firsts.free_eq]
  have hfew : (impl_firsts.outs l l.length).length ≤ 7 := by
    refine free_few l 7 (fun x hx => by have := hs x hx; omega) _ ?_ fun i hi => (hmo i).1 hi
    unfold impl_firsts.outs
    exact List.Pairwise.filter _ List.nodup_range
  refine ⟨_, by unfold impl_firsts.f; rw [if_pos ⟨h0, by omega, hsm, by omega⟩], ?_⟩
  obtain ⟨⟨hsz, _, hperm⟩, hsort⟩ := Sort.insertionSort_holds (impl_firsts.swo l) (impl_firsts.arr l) 0 (impl_firsts.arr l).size (Nat.zero_le _) (Nat.le_refl _)
  change (impl_firsts.sorted l).size = _ at hsz
  change Sort.SortedIn _ _ _ (impl_firsts.sorted l) at hsort
  change ((impl_firsts.sorted l).extract _ _).toList.Perm _ at hperm
  have hperm2 : (impl_firsts.sorted l).toList.Perm (impl_firsts.arr l).toList := by
    simp only [Array.toList_extract, hsz] at hperm
    simp only [List.extract, Nat.sub_zero, List.drop_zero] at hperm
    rw [List.take_of_length_le (by simp [hsz]), List.take_of_length_le (by simp)] at hperm
    exact hperm
  have hma : ∀ x, x ∈ (impl_firsts.arr l).toList ↔ x.val < l.length ∧ freeL l x.val = true := by
    intro x
    unfold impl_firsts.arr
    rw [List.mem_map]
    constructor
    · rintro ⟨i, hi, rfl⟩
      have h2 := (hmo i).1 hi
      have h3 : (Fin.ofNat (l.length - 1 + 1) i).val = i := Nat.mod_eq_of_lt (by omega)
      rw [h3]; exact h2
    · intro h
      refine ⟨x.val, (hmo _).2 h, ?_⟩
      apply Fin.ext
      exact Nat.mod_eq_of_lt (by omega)
  have hms : ∀ x, x ∈ (impl_firsts.sorted l).toList ↔ x.val < l.length ∧ freeL l x.val = true := fun x => hperm2.mem_iff.trans (hma x)
  have hz : (⟨0, by omega⟩ : impl_firsts.Pl l) ∈ (impl_firsts.sorted l).toList := (hms _).2 ⟨h0, bestL_zero l⟩
  have hpos : 0 < (impl_firsts.sorted l).size := by
    have := List.length_pos_of_mem hz
    simpa using this
  have hpl : 0 < (impl_firsts.sorted l).toList.length := by simpa using hpos
  refine ⟨by simpa using hpos, ?_⟩
  have e0 : rd ((impl_firsts.sorted l).toList.map fun x => (x.val : Int)) 0 = (((impl_firsts.sorted l)[0]!).val : Int) := by
    show rd _ ((0 : Nat) : Int) = _
    rw [rd_lt _ 0 (by simpa using hpos), List.getElem_map, getElem!_pos _ 0 hpos]
    rfl
  rw [e0]
  have hm0 : (impl_firsts.sorted l)[0]! ∈ (impl_firsts.sorted l).toList := by
    rw [getElem!_pos _ 0 hpos, ← Array.getElem_toList]
    exact List.getElem_mem hpl
  have h3 := (hms _).1 hm0
  refine (bestL_only l _ h3.1 h3.2 fun j hj fj => ?_).symm
  have hjm := (hms ⟨j, by omega⟩).2 ⟨hj, fj⟩
  obtain ⟨k, hk, ek⟩ := List.getElem_of_mem hjm
  have hk2 : k < (impl_firsts.sorted l).size := by simpa using hk
  have ek2 : (impl_firsts.sorted l)[k]! = ⟨j, by omega⟩ := by rw [getElem!_pos _ k hk2, ← ek, Array.getElem_toList]
  by_cases h : k = 0
  · subst h
    rw [ek2]
    exact Int.le_refl _
  · have h4 := of_decide_eq_false (hsort 0 k (Nat.le_refl _) (by omega) (by omega))
    rw [ek2] at h4
    change ¬ (rd l (j : Int) - rd l (((impl_firsts.sorted l)[0]!).val : Int) < 0) at h4
    omega

theorem slices_Clone_int_int.ok (l : List Int) (h : l.length ≤ 1048576) : slices_Clone_int_int.f l = some l := by
  unfold slices_Clone_int_int.f
  rw [if_pos (by omega)]

theorem slices_Delete_int_int.ok (l : List Int) (a b : Int) (h0 : 0 ≤ a) (h1 : a ≤ b) (h2 : b ≤ l.length) : slices_Delete_int_int.f l a b = some (l.take a.toNat ++ l.drop b.toNat) := by
  unfold slices_Delete_int_int.f
  rw [if_pos h0, if_pos h1, if_pos h2]

theorem impl_without.ok (l : List Int) (i : Int) (h : l.length ≤ 1048576) (h0 : 0 ≤ i) (h1 : i < l.length) : impl_without.f l i = some (woL l i) := by
  unfold impl_without.f
  rw [slices_Clone_int_int.ok l h, Option.bind_some, wrap_id (x := i + 1) (by omega) (by omega), slices_Delete_int_int.ok l i (i + 1) h0 (by omega) (by omega), Option.bind_some, show (i + 1).toNat = i.toNat + 1 by omega]
  rfl

theorem impl_firstSame.ok_l : ∀ (d : Nat) (l acc : List Int), l.length = d → d ≤ 60 → acc.length + d ≤ 1000 → (∀ x ∈ l, 0 ≤ x ∧ x ≤ 6) → impl_firstSame.l0.v l acc = some (acc ++ nfGo d l) := by
  intro d
  induction d with
  | zero =>
    intro l acc h _ _ _
    rw [impl_firstSame.l0.v_eq, if_neg (by omega), nfGo, List.append_nil]
  | succ d ih =>
    intro l acc h h60 ha hs
    obtain ⟨t, ht, htp, ht0⟩ := impl_firsts.ok l (by omega) (by omega) hs
    have hb := bestL_range l l.length
    have hb0 := bestL_pos l l.length (by omega)
    rw [impl_firstSame.l0.v_eq, if_pos (by omega), ht, Option.bind_some, if_pos (by omega), ht0, if_pos hb0, if_pos hb.2, if_pos (by omega), impl_without.ok l _ (by omega) hb0 hb.2, Option.bind_some]
    have hw := woL_len l _ hb0 hb.2
    rw [ih _ _ (by omega) (by omega) (by rw [List.length_append, List.length_singleton]; omega) (fun x hx => hs x (woL_mem l _ x hx)), nfGo, List.append_assoc]
    rfl
theorem impl_firstSame.ok (l : List Int) (h : l.length ≤ 60) (hs : ∀ x ∈ l, 0 ≤ x ∧ x ≤ 6) : impl_firstSame.f.v l = some (nfL l) := by
  rw [impl_firstSame.f.v_eq]
  exact impl_firstSame.ok_l l.length l [] rfl h (by simp; omega) hs

theorem impl_isLadder.ok (n : Int) (l : List Int) : impl_isLadder.f n l = some (good n l) := by
  unfold impl_isLadder.f good
  have h : (!(l.any (impl_isLadder.bad n))) = l.all (inB n) := by
    rw [List.not_any_eq_all_not]
    congr 1; funext x
    unfold impl_isLadder.bad inB
    exact Bool.not_not _
  rw [h]

theorem slices_Equal_int_int.ok_l (a b : List Int) (hab : a.length = b.length) (ha : a.length ≤ 1000) : ∀ (d i : Nat), i + d = a.length → slices_Equal_int_int.l0.v a b a.length i = some (decide (a.drop i = b.drop i)) := by
  intro d
  induction d with
  | zero =>
    intro i hd
    rw [slices_Equal_int_int.l0.v_eq, if_neg (cast_nlt (by omega)), List.drop_eq_nil_of_le (by omega), List.drop_eq_nil_of_le (by omega)]; rfl
  | succ d ih =>
    intro i hd
    have h : i < a.length := by omega
    rw [slices_Equal_int_int.l0.v_eq, if_pos (cast_lt h), if_pos (Int.natCast_nonneg i), if_pos (cast_lt h), if_pos (cast_lt (by omega)), succ_wrap h (by omega), ih (i + 1) (by omega), drop_rd a i h, drop_rd b i (by omega)]
    by_cases e : rd a (i : Int) = rd b (i : Int)
    · rw [if_pos e, e]
      congr 1
      rw [decide_eq_decide, List.cons.injEq]
      exact ⟨fun x => ⟨rfl, x⟩, fun x => x.2⟩
    · rw [if_neg e, decide_eq_false (fun x => e (List.cons.inj x).1)]
theorem slices_Equal_int_int.ok (a b : List Int) (hab : a.length = b.length) (ha : a.length ≤ 1000) : slices_Equal_int_int.f.v a b = some (decide (a = b)) := by
  rw [slices_Equal_int_int.f.v_eq, if_pos (by omega)]
  have := slices_Equal_int_int.ok_l a b hab ha a.length 0 (by omega)
  simpa using this
theorem slices_Equal_int_int.ok2 (a b : List Int) (ha : a.length ≤ 1000) : slices_Equal_int_int.f.v a b = some (decide (a = b)) := by
  by_cases h : a.length = b.length
  · exact slices_Equal_int_int.ok a b h ha
  · rw [slices_Equal_int_int.f.v_eq, if_neg (by omega), decide_eq_false (fun e => h (by rw [e]))]

theorem impl_AreSlides.ok (n : Int) (l : List Int) (m : Int) (r : List Int) : impl_AreSlides.f.v n l m r = some (if good n l = true ∧ good m r = true ∧ n = m then (decide (nfL l = nfL r), true) else (false, false)) := by
  rw [impl_AreSlides.f.v_eq, impl_isLadder.ok, Option.bind_some]
  by_cases h : good n l = true
  · have g := good_iff.1 h
    rw [if_pos h, impl_isLadder.ok, Option.bind_some]
    by_cases h2 : good m r = true
    · have g2 := good_iff.1 h2
      rw [if_pos h2, impl_AreSlides.j0.v_eq]
      by_cases e : n = m
      · rw [if_neg (by simp [e]), if_pos ⟨h, h2, e⟩, impl_firstSame.ok l g.2.2.1 (fun x hx => by have := g.2.2.2 x hx; omega), Option.bind_some, impl_firstSame.ok r g2.2.2.1 (fun x hx => by have := g2.2.2.2 x hx; omega), Option.bind_some, slices_Equal_int_int.ok2 _ _ (by rw [nfL_length]; omega), Option.bind_some]
      · rw [if_pos (by simp [e]), if_neg (fun x => e x.2.2)]
    · rw [if_neg h2, if_neg (fun x => h2 x.2.1), impl_AreSlides.j0.v_eq, if_pos rfl]
  · rw [if_neg h, if_neg (fun x => h x.1), impl_AreSlides.j0.v_eq, if_pos rfl]

theorem laws_eqIntS.ok_l (xs : List Int) (hn : xs.length ≤ 140737488355328) : ∀ (d i : Nat), xs.length - i = d → laws_eqIntS.l0.v xs xs i = some true := by
  intro d
  induction d with
  | zero =>
    intro i hd
    rw [laws_eqIntS.l0.v_eq, if_neg (cast_nlt (by omega))]
  | succ d ih =>
    intro i hd
    have h : i < xs.length := by omega
    rw [laws_eqIntS.l0.v_eq, if_pos (cast_lt h), if_pos (Int.natCast_nonneg i), if_pos (cast_lt h), if_pos rfl, succ_wrap h hn]
    exact ih (i + 1) (by omega)
theorem laws_eqIntS.ok (xs : List Int) (hn : xs.length ≤ 140737488355328) : laws_eqIntS.f.v xs xs = some true := by
  rw [laws_eqIntS.f.v_eq, if_pos rfl]
  exact laws_eqIntS.ok_l xs hn xs.length 0 (by omega)

theorem laws_eqLadder.ok (n : Int) (l : List Int) (h : l.length ≤ 140737488355328) : laws_eqLadder.f.v n l n l = some true := by
  rw [laws_eqLadder.f.v_eq, if_pos rfl, laws_eqIntS.ok l h]; rfl

theorem laws_szLadder.ok (n : Int) (l : List Int) (h : l.length ≤ 1048576) : laws_szLadder.f n l 1048576 = some (1048576 - (l.length : Int)) := by
  unfold laws_szLadder.f laws_szIntS.f
  rw [wrap_id (by omega) (by omega), if_neg (by omega), Option.bind_some, if_neg (by omega)]
theorem laws_szLadder.no (n : Int) (l : List Int) (h : ¬ l.length ≤ 1048576) (h2 : l.length * 8 ≤ 140737488351232) : laws_szLadder.f n l 1048576 = some (-1) := by
  unfold laws_szLadder.f laws_szIntS.f
  rw [wrap_id (by omega) (by omega), if_pos (by omega), Option.bind_some, if_pos (by omega)]

theorem laws_toIntS.ok_l (xs : List Int) (hn : xs.length ≤ 140737488355328) : ∀ (d i : Nat) (ys : List Int), xs.length - i = d → ys.length = xs.length → ys.take i = xs.take i → laws_toIntS.l0.v xs ys i = some xs := by
  intro d
  induction d with
  | zero =>
    intro i ys hd hl ht
    rw [laws_toIntS.l0.v_eq, if_neg (cast_nlt (by omega))]
    rw [List.take_of_length_le (by omega), List.take_of_length_le (by omega)] at ht
    rw [ht]
  | succ d ih =>
    intro i ys hd hl ht
    have h : i < xs.length := by omega
    rw [laws_toIntS.l0.v_eq, if_pos (cast_lt h), if_pos (Int.natCast_nonneg i), if_pos (cast_lt (by omega)), succ_wrap h hn, toNat_cast]
    refine ih (i + 1) _ (by omega) (by rw [List.length_set]; exact hl) ?_
    rw [take_rd xs i h, ← ht, rd_lt xs i h, List.take_succ_eq_append_getElem (by rw [List.length_set]; omega), List.getElem_set_self, List.take_set_of_le (Nat.le_refl i)]
theorem laws_toIntS.ok (xs : List Int) (hn : xs.length ≤ 1048576) : laws_toIntS.f.v xs = some xs := by
  rw [laws_toIntS.f.v_eq, if_pos (Int.natCast_nonneg _), toNat_cast, if_pos (by omega)]
  exact laws_toIntS.ok_l xs (by omega) xs.length 0 _ (by omega) (by simp) (by simp)

theorem laws_toLadder.ok (n : Int) (l : List Int) (h : l.length ≤ 1048576) : laws_toLadder.f.v n l = some (n, l) := by
  rw [laws_toLadder.f.v_eq, laws_toIntS.ok l h]; rfl

theorem spec_l1All.ok_l (a b : Int) (xs : List Int) (hn : xs.length ≤ 140737488355328) : ∀ (d i : Nat), i + d = xs.length → spec_l1All.l0.v a b xs xs.length i = some ((xs.drop i).all fun x => decide (a ≤ x) && decide (x ≤ b)) := by
  intro d
  induction d with
  | zero =>
    intro i hd
    rw [spec_l1All.l0.v_eq, if_neg (cast_nlt (by omega)), List.drop_eq_nil_of_le (by omega)]
    rfl
  | succ d ih =>
    intro i hd
    have h : i < xs.length := by omega
    rw [spec_l1All.l0.v_eq, if_pos (cast_lt h), if_pos (Int.natCast_nonneg i), if_pos (cast_lt h), succ_wrap h hn, ih (i + 1) (by omega), drop_rd xs i h, List.all_cons]
    unfold spec_l1In.f
    by_cases e : a ≤ rd xs (i : Int)
    · rw [if_pos (show rd xs (i : Int) ≥ a from e), Option.bind_some, decide_eq_true e, Bool.true_and]
      by_cases e2 : rd xs (i : Int) ≤ b
      · rw [decide_eq_true e2, if_pos rfl, Bool.true_and]
      · rw [decide_eq_false e2, if_neg (by simp), Bool.false_and]
    · rw [if_neg (show ¬ rd xs (i : Int) ≥ a from e), Option.bind_some, decide_eq_false e, if_neg (by simp), Bool.false_and, Bool.false_and]
theorem spec_l1All.ok (xs : List Int) (a b : Int) (hn : xs.length ≤ 140737488355328) : spec_l1All.f.v xs a b = some (xs.all fun x => decide (a ≤ x) && decide (x ≤ b)) := by
  rw [spec_l1All.f.v_eq]
  have := spec_l1All.ok_l a b xs hn xs.length 0 (by omega)
  simpa using this

theorem spec_laGood.ok (n : Int) (l : List Int) : spec_laGood.f.v n l = some (good n l) := by
  rw [spec_laGood.f.v_eq]
  unfold spec_l1In.f good
  by_cases h1 : 2 ≤ n
  · rw [if_pos (show n ≥ 2 from h1), Option.bind_some, decide_eq_true h1, Bool.true_and]
    by_cases h2 : n ≤ 8
    · rw [decide_eq_true h2, if_pos rfl, Bool.true_and]
      by_cases h3 : l.length ≤ 60
      · rw [if_pos (by omega), decide_eq_true h3, Bool.true_and, spec_l1All.ok l 0 _ (by omega), wrap_id (x := n - 2) (by omega) (by omega)]; rfl
      · rw [if_neg (by omega), decide_eq_false h3, Bool.false_and]
    · rw [decide_eq_false h2, if_neg (by simp), Bool.false_and, Bool.false_and]
  · rw [if_neg (show ¬ n ≥ 2 from h1), Option.bind_some, decide_eq_false h1, if_neg (by simp), Bool.false_and, Bool.false_and, Bool.false_and]

theorem spec_l1Abs.ok (x : Int) (h0 : -1000000 ≤ x) (h1 : x ≤ 1000000) : spec_l1Abs.f x = some (if 0 ≤ x then x else -x) := by
  unfold spec_l1Abs.f spec_l1Most.f
  rw [wrap_id (x := -x) (by omega) (by omega)]
  by_cases h : x > -x
  · rw [if_pos h, Option.bind_some, if_pos (by omega)]
  · rw [if_neg h, Option.bind_some]
    by_cases h2 : 0 ≤ x
    · rw [if_pos h2]; congr 1; omega
    · rw [if_neg h2]

theorem spec_l1Own.ok (l : List Int) (h : l.length ≤ 1048576) : spec_l1Own.f l = some l := by
  unfold spec_l1Own.f
  rw [Option.bind_some, if_pos (by simp; omega)]; rfl

theorem spec_lsNormal.ok_2 (l acc : List Int) (b : Int) (i : Nat) (r : Int) (c : List Int) (hc : c.length ≤ 1000) (hs : ∀ x ∈ c, 0 ≤ x ∧ x ≤ 6) (hr : 0 ≤ r ∧ r ≤ 6) : ∀ (d j : Nat) (f : Bool), j + d = c.length →
    spec_lsNormal.l2.v l acc b (i : Int) r f l (l.length : Int) (i : Int) c (c.length : Int) (j : Int) = spec_lsNormal.l2.v l acc b (i : Int) r (f && (c.drop j).all (farI r)) l (l.length : Int) (i : Int) c (c.length : Int) (c.length : Int) := by
  intro d
  induction d with
  | zero =>
    intro j f h
    obtain rfl : j = c.length := by omega
    rw [List.drop_length, List.all_nil, Bool.and_true]
  | succ d ih =>
    intro j f h
    have hj : j < c.length := by omega
    have hx := hs _ (rd_mem c j hj)
    rw [spec_lsNormal.l2.v_eq, if_pos (cast_lt hj), if_pos (Int.natCast_nonneg j), if_pos (cast_lt hj), succ_wrap hj (by omega), drop_rd c j hj, List.all_cons]
    have e : spec_l1Abs.f (wrap64 (rd c (j : Int) - r)) = some (if 0 ≤ rd c (j : Int) - r then rd c (j : Int) - r else -(rd c (j : Int) - r)) := by
      rw [wrap_id (by omega) (by omega)]
      exact spec_l1Abs.ok _ (by omega) (by omega)
    cases f with
    | true =>
      rw [if_pos rfl, e, Option.bind_some, ih (j + 1) _ (by omega), Bool.true_and]
      congr 2
      unfold farI
      split
      · by_cases h1 : 2 ≤ rd c (j : Int) - r
        · exact (decide_eq_true h1).trans (by rw [decide_eq_true h1, Bool.true_or])
        · exact (decide_eq_false h1).trans (by rw [decide_eq_false h1, Bool.false_or, decide_eq_false (show ¬ 2 ≤ r - rd c (j : Int) by omega)])
      · rw [decide_eq_false (show ¬ 2 ≤ rd c (j : Int) - r by omega), Bool.false_or]
        by_cases h1 : 2 ≤ r - rd c (j : Int)
        · exact (decide_eq_true (by omega)).trans (decide_eq_true h1).symm
        · exact (decide_eq_false (by omega)).trans (decide_eq_false h1).symm
    | false =>
      rw [if_neg Bool.false_ne_true, ih (j + 1) _ (by omega), Bool.false_and, Bool.false_and]
theorem spec_lsNormal.ok_1 (l acc : List Int) (h1 : l.length ≤ 1000) (hs : ∀ x ∈ l, 0 ≤ x ∧ x ≤ 6) : ∀ (d i : Nat), i + d = l.length →
    spec_lsNormal.l1.v l acc (bestL l i) l (l.length : Int) (i : Int) = spec_lsNormal.l1.v l acc (bestL l l.length) l (l.length : Int) (l.length : Int) := by
  intro d
  induction d with
  | zero =>
    intro i h
    obtain rfl : i = l.length := by omega
    rfl
  | succ d ih =>
    intro i h
    have hi : i < l.length := by omega
    have hr := hs _ (rd_mem l i hi)
    have hb := bestL_range l i
    rw [spec_lsNormal.l1.v_eq, if_pos (cast_lt hi), if_pos (Int.natCast_nonneg i), if_pos (cast_lt hi), if_pos (by omega), Option.bind_some, toNat_cast]
    have e := spec_lsNormal.ok_2 l acc (bestL l i) i (rd l (i : Int)) (l.take i) (by rw [List.length_take]; omega) (fun x hx => hs x (List.mem_of_mem_take hx)) hr (l.take i).length 0 true (by omega)
    rw [List.drop_zero, Bool.true_and] at e
    refine Eq.trans e ?_
    rw [← ih (i + 1) (by omega), spec_lsNormal.l2.v_eq, if_neg (Int.lt_irrefl _), succ_wrap hi (by omega)]
    change (if freeL l i = true then _ else _) = _
    rw [bestL]
    by_cases hf : freeL l i = true
    · rw [if_pos hf, if_pos hf]
      by_cases h2 : bestL l i < 0
      · rw [if_pos h2, if_pos h2]
      · rw [if_neg h2, if_neg h2, if_pos (by omega), if_pos (by omega)]
        by_cases h3 : rd l (i : Int) < rd l (bestL l i)
        · rw [if_pos h3, if_pos h3]
        · rw [if_neg h3, if_neg h3]
    · rw [if_neg hf, if_neg hf]
theorem spec_lsNormal.ok_l : ∀ (d : Nat) (l acc : List Int), l.length = d → d ≤ 60 → acc.length + d ≤ 1000 → (∀ x ∈ l, 0 ≤ x ∧ x ≤ 6) → spec_lsNormal.l0.v l acc = some (acc ++ nfGo d l) := by
  intro d
  induction d with
  | zero =>
    intro l acc h _ _ _
    rw [spec_lsNormal.l0.v_eq, if_neg (by omega), nfGo, List.append_nil]
  | succ d ih =>
    intro l acc h h60 ha hs
    have hb := bestL_range l l.length
    have hb0 := bestL_pos l l.length (by omega)
    have e := spec_lsNormal.ok_1 l acc (by omega) hs l.length 0 (by omega)
    rw [spec_lsNormal.l0.v_eq, if_pos (by omega)]
    refine Eq.trans e ?_
    rw [spec_lsNormal.l1.v_eq, if_neg (Int.lt_irrefl _), if_pos hb0, if_pos hb.2, if_pos (by omega), if_pos (by omega), spec_l1Own.ok _ (by rw [List.length_take]; omega), Option.bind_some, wrap_id (x := bestL l l.length + 1) (by omega) (by omega), if_pos (by omega), if_pos (by omega), Option.bind_some]
    have hw := woL_len l _ hb0 hb.2
    have ew : l.take (bestL l l.length).toNat ++ l.drop (bestL l l.length + 1).toNat = woL l (bestL l l.length) := by
      rw [show (bestL l l.length + 1).toNat = (bestL l l.length).toNat + 1 by omega]; rfl
    rw [← List.length_append, ew, if_pos (by omega), ih _ _ (by omega) (by omega) (by rw [List.length_append, List.length_singleton]; omega) (fun x hx => hs x (woL_mem l _ x hx)), nfGo, List.append_assoc]
    rfl
theorem spec_lsNormal.ok (l : List Int) (h : l.length ≤ 60) (hs : ∀ x ∈ l, 0 ≤ x ∧ x ≤ 6) : spec_lsNormal.f.v l = some (nfL l) := by
  rw [spec_lsNormal.f.v_eq, spec_l1Own.ok l (by omega), Option.bind_some]
  exact spec_lsNormal.ok_l l.length l [] rfl h (by simp; omega) hs

theorem spec_lsLess.ok_l (a b : List Int) (ha : a.length ≤ 1000) : ∀ (d i : Nat), i + d = a.length → i ≤ b.length → spec_lsLess.l0.v a b (i : Int) = some (lexL (a.drop i) (b.drop i)) := by
  intro d
  induction d with
  | zero =>
    intro i hd hb
    rw [spec_lsLess.l0.v_eq, if_neg (cast_nlt (by omega)), spec_lsLess.j1.v_eq, if_neg Bool.false_ne_true, List.drop_eq_nil_of_le (show a.length ≤ i by omega), lexL, List.length_drop]
    congr 1
    rw [decide_eq_decide]
    omega
  | succ d ih =>
    intro i hd hb
    have h : i < a.length := by omega
    rw [spec_lsLess.l0.v_eq, if_pos (cast_lt h), spec_lsLess.j1.v_eq, drop_rd a i h]
    by_cases h2 : i < b.length
    · rw [decide_eq_true (cast_lt h2), if_pos rfl, if_pos (Int.natCast_nonneg i), if_pos (cast_lt h), if_pos (cast_lt h2), drop_rd b i h2, lexL]
      by_cases e : rd a (i : Int) = rd b (i : Int)
      · rw [if_pos e, if_pos e, succ_wrap h (by omega)]
        exact ih (i + 1) (by omega) (by omega)
      · rw [if_neg e, if_neg e]
    · rw [decide_eq_false (cast_nlt h2), if_neg Bool.false_ne_true, List.drop_eq_nil_of_le (show b.length ≤ i by omega), lexL]
      congr 1
      exact decide_eq_false (by omega)
theorem spec_lsLess.ok (a b : List Int) (ha : a.length ≤ 1000) : spec_lsLess.f.v a b = some (lexL a b) := by
  rw [spec_lsLess.f.v_eq]
  have := spec_lsLess.ok_l a b ha a.length 0 (by omega) (by omega)
  simpa using this

theorem spec_lsSame.ok (a b : List Int) (ha : a.length ≤ 1000) (hb : b.length ≤ 1000) : spec_lsSame.f.v a b = some (decide (a = b)) := by
  rw [spec_lsSame.f.v_eq, spec_lsLess.ok a b ha, Option.bind_some, spec_lsLess.ok b a hb, Option.bind_some, ← lexL_same]
  split <;> rfl

theorem spec_AreSlides.ok (n : Int) (l : List Int) (m : Int) (r : List Int) : spec_AreSlides.f.v n l m r = some (if good n l = true ∧ good m r = true ∧ n = m then (decide (nfL l = nfL r), true) else (false, false)) := by
  rw [spec_AreSlides.f.v_eq, spec_laGood.ok, Option.bind_some]
  by_cases h : good n l = true
  · have g := good_iff.1 h
    rw [if_pos h, spec_laGood.ok, Option.bind_some]
    by_cases h2 : good m r = true
    · have g2 := good_iff.1 h2
      rw [if_pos h2, spec_AreSlides.j0.v_eq]
      by_cases e : n = m
      · rw [if_neg (by simp [e]), if_pos ⟨h, h2, e⟩, spec_lsNormal.ok l g.2.2.1 (fun x hx => by have := g.2.2.2 x hx; omega), Option.bind_some, spec_lsNormal.ok r g2.2.2.1 (fun x hx => by have := g2.2.2.2 x hx; omega), Option.bind_some, spec_lsSame.ok _ _ (by rw [nfL_length]; omega) (by rw [nfL_length]; omega), Option.bind_some]
      · rw [if_pos (by simp [e]), if_neg (fun x => e x.2.2)]
    · rw [if_neg h2, if_neg (fun x => h2 x.2.1), spec_AreSlides.j0.v_eq, if_pos rfl]
  · rw [if_neg h, if_neg (fun x => h x.1), spec_AreSlides.j0.v_eq, if_pos rfl]

theorem laws_szLadder.ok' (n : Int) (l : List Int) (t : Int) (ht : 0 ≤ t ∧ t ≤ 1048576) (h : (l.length : Int) ≤ t) : laws_szLadder.f n l t = some (t - (l.length : Int)) := by
  unfold laws_szLadder.f laws_szIntS.f
  rw [wrap_id (by omega) (by omega), if_neg (by omega), Option.bind_some, if_neg (by omega)]
theorem laws_szLadder.no' (n : Int) (l : List Int) (t : Int) (ht : 0 ≤ t ∧ t ≤ 1048576) (h : ¬ (l.length : Int) ≤ t) (h2 : l.length * 8 ≤ 140737488351232) : laws_szLadder.f n l t = some (-1) := by
  unfold laws_szLadder.f laws_szIntS.f
  rw [wrap_id (by omega) (by omega), if_pos (by omega), Option.bind_some, if_pos (by omega)]
theorem FnExactAreSlides : laws_FnExactAreSlides.Pure := by
  intro n l m r _ _ hb _ _ _ hb2 _
  refine laws_FnExactAreSlides.f.ends n l m r ?_
  rw [laws_FnExactAreSlides.f.v_eq]
  by_cases h : l.length ≤ 1048576
  · rw [laws_szLadder.ok n l h, Option.bind_some, if_neg (by omega)]
    by_cases h2 : (r.length : Int) ≤ 1048576 - (l.length : Int)
    · obtain ⟨x, y, hs, hi⟩ : ∃ x y : Bool, spec_AreSlides.f.v n l m r = some (x, y) ∧ impl_AreSlides.f.v n l m r = some (x, y) := by
        rw [spec_AreSlides.ok, impl_AreSlides.ok]
        split
        · exact ⟨_, _, rfl, rfl⟩
        · exact ⟨_, _, rfl, rfl⟩
      have hr : r.length ≤ 1048576 := by omega
      have e0 := laws_toLadder.ok n l h
      have e1 := laws_toLadder.ok m r hr
      have e2 := laws_eqLadder.ok n l (by omega)
      have e3 := laws_eqLadder.ok m r (by omega)
      rw [laws_szLadder.ok' m r _ (by omega) h2, Option.bind_some, if_neg (by omega)]
      simp only [e0, e1, e2, e3, hs, hi, laws_FnExactAreSlides.j0.v_eq, Option.bind_some, bne_self_eq_false, Bool.false_eq_true, if_false, if_true]
    · rw [laws_szLadder.no' m r _ (by omega) h2 hb2, Option.bind_some, if_pos (by omega)]
  · rw [laws_szLadder.no n l h hb, Option.bind_some, if_pos (by omega)]

end Go.Proofs.Ytciboaihodoglaa.Pure
