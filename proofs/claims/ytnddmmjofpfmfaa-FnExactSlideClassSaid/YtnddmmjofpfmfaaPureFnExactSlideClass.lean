/- Proved: for every input the law FnExactSlideClass returns true (its plain statement, over numbers and lists). No condition. -/
import Derived.Test.YtnddmmjofpfmfaaPScx7
import Derived.Test.YtnddmmjofpfmfaaPScx8
import Derived.Test.YtnddmmjofpfmfaaPScx9
import Derived.Test.YtnddmmjofpfmfaaVScx1
import Derived.Test.YtnddmmjofpfmfaaVScx2
import Derived.Test.YtnddmmjofpfmfaaVScx3
import Derived.Test.YtnddmmjofpfmfaaVScx4
import Derived.Test.YtnddmmjofpfmfaaVScx5
import Derived.Test.YtnddmmjofpfmfaaVScx6
import Derived.Test.YtnddmmjofpfmfaaVScx9
import Derived.Test.YtnddmmjofpfmfaaLadders
import Derived.Test.YtnddmmjofpfmfaaMarks
import Derived.Test.YtnddmmjofpfmfaaMoves
import Derived.Test.YtnddmmjofpfmfaaOrders
import Derived.Test.YtnddmmjofpfmfaaPlain
import Derived.Test.YtnddmmjofpfmfaaSearches
import Derived.Test.YtnddmmjofpfmfaaSlides
namespace Go.Proofs.Ytnddmmjofpfmfaa.Pure
open Go.RowKit Go.Proofs.Ytnddmmjofpfmfaa.PSc Go.Proofs.YtnddmmjofpfmfaaW.PrintWords Go.Proofs.YtnddmmjofpfmfaaW.PrintLast Go.Proofs.YtnddmmjofpfmfaaW.PrintMore Go.Proofs.YtnddmmjofpfmfaaL
set_option linter.unusedVariables false
set_option linter.unusedSimpArgs false

theorem impl_isLadder.ok (n : Int) (l : List Int) : impl_isLadder.f n l = some (good n l) := by
  unfold impl_isLadder.f good
  have h : (!(l.any (impl_isLadder.bad n))) = l.all (inB n) := by
    rw [List.not_any_eq_all_not]
    congr 1; funext x
    unfold impl_isLadder.bad inB
    exact Bool.not_not _
  rw [h]

theorem impl_firsts.free_eq (l : List Int) (i : Nat) : impl_firsts.free l i = freeL l i := by
  unfold impl_firsts.free freeL
  rw [List.not_any_eq_all_not]
  congr 1; funext x
  unfold impl_firsts.near farI
  exact Bool.not_not _
theorem impl_firsts.ok (l : List Int) (h0 : 0 < l.length) (h1 : l.length ≤ 60) (hs : ∀ x ∈ l, 0 ≤ x ∧ x ≤ 6) : ∃ t, impl_firsts.f l = some t ∧ 0 < t.length ∧ rd t 0 = bestL l l.length := by
  have hsm : impl_firsts.small l = true := by
    unfold impl_firsts.small
    refine List.all_eq_true.2 fun x hx => ?_
    have := hs x hx
    simp only [Bool.and_eq_true, decide_eq_true_eq]
    omega
  have hmo : ∀ i, i ∈ impl_firsts.outs l l.length ↔ i < l.length ∧ freeL l i = true := by
    intro i
    unfold impl_firsts.outs
    rw [List.mem_filter, List.mem_range, impl_firsts.free_eq]
  have hfew : (impl_firsts.outs l l.length).length ≤ 7 := by
    refine free_few l 7 (fun x hx => by have := hs x hx; omega) _ ?_ fun i hi => (hmo i).1 hi
    unfold impl_firsts.outs
    exact List.Pairwise.filter _ List.nodup_range
  refine ⟨_, by unfold impl_firsts.f; rw [if_pos ⟨h0, by omega, hsm, by omega⟩], ?_⟩
  obtain ⟨⟨hsz, _, hperm⟩, hsort⟩ := Sort.insertionSort_holds (impl_firsts.swo l) (impl_firsts.arr l) 0 (impl_firsts.arr l).size (Nat.zero_le _) (Nat.le_refl _)
  change (impl_firsts.sorted l).size = _ at hsz
  change Sort.SortedIn _ _ _ (impl_firsts.sorted l) at hsort
  change ((impl_firsts.sorted l).extract _ _).toList.Perm _ at hperm
  have hperm2 : (impl_firsts.sorted l).toList.Perm (impl_firsts.arr l).toList := by
    simp only [Array.toList_extract, hsz] at hperm
    simp only [List.extract, Nat.sub_zero, List.drop_zero] at hperm
    rw [List.take_of_length_le (by simp [hsz]), List.take_of_length_le (by simp)] at hperm
    exact hperm
  have hma : ∀ x, x ∈ (impl_firsts.arr l).toList ↔ x.val < l.length ∧ freeL l x.val = true := by
    intro x
    unfold impl_firsts.arr
    rw [List.mem_map]
    constructor
    · rintro ⟨i, hi, rfl⟩
      have h2 := (hmo i).1 hi
      have h3 : (Fin.ofNat (l.length - 1 + 1) i).val = i := Nat.mod_eq_of_lt (by omega)
      rw [h3]; exact h2
    · intro h
      refine ⟨x.val, (hmo _).2 h, ?_⟩
      apply Fin.ext
      exact Nat.mod_eq_of_lt (by omega)
  have hms : ∀ x, x ∈ (impl_firsts.sorted l).toList ↔ x.val < l.length ∧ freeL l x.val = true := fun x => hperm2.mem_iff.trans (hma x)
  have hz : (⟨0, by omega⟩ : impl_firsts.Pl l) ∈ (impl_firsts.sorted l).toList := (hms _).2 ⟨h0, bestL_zero l⟩
  have hpos : 0 < (impl_firsts.sorted l).size := by
    have := List.length_pos_of_mem hz
    simpa using this
  have hpl : 0 < (impl_firsts.sorted l).toList.length := by simpa using hpos
  refine ⟨by simpa using hpos, ?_⟩
  have e0 : rd ((impl_firsts.sorted l).toList.map fun x => (x.val : Int)) 0 = (((impl_firsts.sorted l)[0]!).val : Int) := by
    show rd _ ((0 : Nat) : Int) = _
    rw [rd_lt _ 0 (by simpa using hpos), List.getElem_map, getElem!_pos _ 0 hpos]
    rfl
  rw [e0]
  have hm0 : (impl_firsts.sorted l)[0]! ∈ (impl_firsts.sorted l).toList := by
    rw [getElem!_pos _ 0 hpos, ← Array.getElem_toList]
    exact List.getElem_mem hpl
  have h3 := (hms _).1 hm0
  refine (bestL_only l _ h3.1 h3.2 fun j hj fj => ?_).symm
  have hjm := (hms ⟨j, by omega⟩).2 ⟨hj, fj⟩
  obtain ⟨k, hk, ek⟩ := List.getElem_of_mem hjm
  have hk2 : k < (impl_firsts.sorted l).size := by simpa using hk
  have ek2 : (impl_firsts.sorted l)[k]! = ⟨j, by omega⟩ := by rw [getElem!_pos _ k hk2, ← ek, Array.getElem_toList]
  by_cases h : k = 0
  · subst h
    rw [ek2]
    exact Int.le_refl _
  · have h4 := of_decide_eq_false (hsort 0 k (Nat.le_refl _) (by omega) (by omega))
    rw [ek2] at h4
    change ¬ (rd l (j : Int) - rd l (((impl_firsts.sorted l)[0]!).val : Int) < 0) at h4
    omega

theorem slices_Clone_int_int.ok (l : List Int) (h : l.length ≤ 1048576) : slices_Clone_int_int.f l = some l := by
  unfold slices_Clone_int_int.f
  rw [if_pos (by omega)]

theorem slices_Delete_int_int.ok (l : List Int) (a b : Int) (h0 : 0 ≤ a) (h1 : a ≤ b) (h2 : b ≤ l.length) : slices_Delete_int_int.f l a b = some (l.take a.toNat ++ l.drop b.toNat) := by
  unfold slices_Delete_int_int.f
  rw [if_pos h0, if_pos h1, if_pos h2]

theorem impl_without.ok (l : List Int) (i : Int) (h : l.length ≤ 1048576) (h0 : 0 ≤ i) (h1 : i < l.length) : impl_without.f l i = some (woL l i) := by
  unfold impl_without.f
  rw [slices_Clone_int_int.ok l h, Option.bind_some, wrap_id (x := i + 1) (by omega) (by omega), slices_Delete_int_int.ok l i (i + 1) h0 (by omega) (by omega), Option.bind_some, show (i + 1).toNat = i.toNat + 1 by omega]
  rfl

theorem impl_firsts.is (l : List Int) (h0 : 0 < l.length) (h1 : l.length ≤ 60) (hs : ∀ x ∈ l, 0 ≤ x ∧ x ≤ 6) : ∃ t, impl_firsts.f l = some t ∧ IsFirsts l t := by
  have hsm : impl_firsts.small l = true := by
    unfold impl_firsts.small
    refine List.all_eq_true.2 fun x hx => ?_
    have := hs x hx
    simp only [Bool.and_eq_true, decide_eq_true_eq]
    omega
  have hmo : ∀ i, i ∈ impl_firsts.outs l l.length ↔ i < l.length ∧ freeL l i = true := by
    intro i
    unfold impl_firsts.outs
    rw [List.mem_filter, List.mem_range, impl_firsts.free_eq]
  have hno : (impl_firsts.outs l l.length).Nodup := by
    unfold impl_firsts.outs
    exact List.Pairwise.filter _ List.nodup_range
  have hfew : (impl_firsts.outs l l.length).length ≤ 7 := free_few l 7 (fun x hx => by have := hs x hx; omega) _ hno fun i hi => (hmo i).1 hi
  refine ⟨_, by unfold impl_firsts.f; rw [if_pos ⟨h0, by omega, hsm, by omega⟩], ?_⟩
  obtain ⟨⟨hsz, _, hperm⟩, hsort⟩ := Sort.insertionSort_holds (impl_firsts.swo l) (impl_firsts.arr l) 0 (impl_firsts.arr l).size (Nat.zero_le _) (Nat.le_refl _)
  change (impl_firsts.sorted l).size = _ at hsz
  change Sort.SortedIn _ _ _ (impl_firsts.sorted l) at hsort
  change ((impl_firsts.sorted l).extract _ _).toList.Perm _ at hperm
  have hperm2 : (impl_firsts.sorted l).toList.Perm (impl_firsts.arr l).toList := by
    simp only [Array.toList_extract, hsz] at hperm
    simp only [List.extract, Nat.sub_zero, List.drop_zero] at hperm
    rw [List.take_of_length_le (by simp [hsz]), List.take_of_length_le (by simp)] at hperm
    exact hperm
  have hfin : ∀ i, i < l.length → (Fin.ofNat (l.length - 1 + 1) i).val = i := fun i hi => Nat.mod_eq_of_lt (by omega)
  have hma : ∀ x, x ∈ (impl_firsts.arr l).toList ↔ x.val < l.length ∧ freeL l x.val = true := by
    intro x
    unfold impl_firsts.arr
    rw [List.mem_map]
    constructor
    · rintro ⟨i, hi, rfl⟩
      have h2 := (hmo i).1 hi
      have h3 : (Fin.ofNat (l.length - 1 + 1) i).val = i := hfin i h2.1
      rw [h3]; exact h2
    · intro h
      refine ⟨x.val, (hmo _).2 h, ?_⟩
      apply Fin.ext
      exact Nat.mod_eq_of_lt (by omega)
  have hms : ∀ x, x ∈ (impl_firsts.sorted l).toList ↔ x.val < l.length ∧ freeL l x.val = true := fun x => hperm2.mem_iff.trans (hma x)
  have hna : (impl_firsts.arr l).toList.Nodup := by
    unfold impl_firsts.arr
    refine List.nodup_iff_pairwise_ne.2 (List.pairwise_map.2 ?_)
    refine List.Pairwise.imp_of_mem (fun {a b} ha hb hab e => ?_) (List.nodup_iff_pairwise_ne.1 hno)
    have e2 := congrArg Fin.val e
    have e3 := (hfin a ((hmo a).1 ha).1).symm.trans (e2.trans (hfin b ((hmo b).1 hb).1))
    exact hab e3
  have hns : (impl_firsts.sorted l).toList.Nodup := hperm2.nodup_iff.2 hna
  refine ⟨fun i => ?_, ?_⟩
  · rw [List.mem_map]
    constructor
    · rintro ⟨x, hx, rfl⟩
      have := (hms x).1 hx
      exact ⟨by omega, by omega, by rw [Int.toNat_natCast]; exact this.2⟩
    · rintro ⟨g0, g1, g2⟩
      exact ⟨⟨i.toNat, by omega⟩, (hms _).2 ⟨by show i.toNat < l.length; omega, g2⟩, Int.toNat_of_nonneg g0⟩
  · rw [List.pairwise_map, List.pairwise_iff_getElem]
    intro i j hi hj hij
    have hi2 : i < (impl_firsts.sorted l).size := by simpa using hi
    have hj2 : j < (impl_firsts.sorted l).size := by simpa using hj
    have h4 := of_decide_eq_false (hsort i j (Nat.zero_le _) (by omega) (by omega))
    rw [getElem!_pos _ i hi2, getElem!_pos _ j hj2, ← Array.getElem_toList, ← Array.getElem_toList] at h4
    have mi := (hms _).1 (List.getElem_mem hi)
    have mj := (hms _).1 (List.getElem_mem hj)
    by_cases e : rd l (((impl_firsts.sorted l).toList[i]).val : Int) = rd l (((impl_firsts.sorted l).toList[j]).val : Int)
    · exfalso
      have e2 := free_same l _ _ mi.1 mj.1 mi.2 mj.2 e
      have := List.pairwise_iff_getElem.1 (List.nodup_iff_pairwise_ne.1 hns) i j hi hj hij
      exact this (Fin.ext e2)
    · change ¬ (rd l (((impl_firsts.sorted l).toList[j]).val : Int) - rd l (((impl_firsts.sorted l).toList[i]).val : Int) < 0) at h4
      omega
theorem impl_slides.ok_lp (G : List Int → List Int → List (List Int) → Option (List (List Int))) (m : Nat) (dn l ts : List Int) (hd : dn.length ≤ 100) (hl : l.length = m + 1) (hl2 : l.length ≤ 60) (hts : IsFirsts l ts)
    (hG : ∀ (i : Nat) (out : List (List Int)), i < ts.length → out.length ≤ 400 → G (dn ++ [rd l (rd ts (i : Int))]) (l.erase (rd l (rd ts (i : Int)))) out = some (slW 400 out (dn ++ [rd l (rd ts (i : Int))]) m (l.erase (rd l (rd ts (i : Int)))))) :
    ∀ (k i : Nat) (out : List (List Int)), i + k = ts.length → out.length ≤ 401 → impl_slides.lp G 400 dn l ts k i out = some ((out ++ ((ts.drop i).map (rd l)).flatMap fun r => (exts m (l.erase r)).map fun y => dn ++ r :: y).take 401) := by
  intro k
  induction k with
  | zero =>
    intro i out hi ho
    rw [impl_slides.lp, List.drop_eq_nil_of_le (by omega), List.map_nil, List.flatMap_nil, List.append_nil, List.take_of_length_le ho]
  | succ k ih =>
    intro i out hi ho
    rw [impl_slides.lp]
    by_cases c : (400 : Int) < (out.length : Int)
    · rw [if_pos c, List.take_append_of_le_length (by omega), List.take_of_length_le ho]
    · rw [if_neg c]
      have hit : i < ts.length := by omega
      obtain ⟨g0, g1, g2⟩ := (hts.mem (rd ts (i : Int))).1 (rd_mem ts i hit)
      obtain ⟨q, hq⟩ := Int.eq_ofNat_of_zero_le g0
      have hf := freeL_fr l q (by omega) (by rw [hq, Int.toNat_natCast] at g2; exact g2)
      rw [if_pos ⟨g0, g1⟩, slices_Clone_int_int.ok dn (by omega), Option.bind_some, if_pos (by omega), impl_without.ok l _ (by omega) g0 g1, Option.bind_some]
      have hw : woL l (rd ts (i : Int)) = l.erase (rd l (rd ts (i : Int))) := by rw [hq]; exact hf.2
      rw [hw, hG i out hit (by omega), Option.bind_some, ih (i + 1) _ (by omega) (by unfold slW; rw [List.length_take]; omega)]
      unfold slW
      rw [take_take_app, drop_rd ts i hit, List.map_cons, List.flatMap_cons, List.append_assoc]
      congr 4
      refine List.map_congr_left fun y _ => ?_
      rw [List.append_assoc]; rfl
theorem impl_slides.ok_g : ∀ (m d : Nat) (dn l : List Int) (out : List (List Int)), m < d → l.length = m → dn.length + m ≤ 60 → (∀ x ∈ l, 0 ≤ x ∧ x ≤ 6) → out.length ≤ 400 → impl_slides.g d 400 dn l out = some (slW 400 out dn m l)
  | 0, d + 1, dn, l, out, _, hl, hn, hs, ho => by
    rw [impl_slides.g, if_pos hl, if_pos (by omega)]
    unfold slW exts
    rw [List.map_singleton, List.append_nil, List.take_of_length_le (by simp; omega)]
  | m + 1, d + 1, dn, l, out, hm, hl, hn, hs, ho => by
    obtain ⟨ts, e, hts⟩ := impl_firsts.is l (by omega) (by omega) hs
    rw [impl_slides.g, if_neg (by omega), e, Option.bind_some]
    rw [impl_slides.ok_lp _ m dn l ts (by omega) hl (by omega) hts (fun i o hi ho2 => ?_) ts.length 0 out (by omega) (by omega)]
    · rw [List.drop_zero, hts.rungs hs]
      unfold slW
      rw [exts, List.map_flatMap]
      congr 4
      funext r
      rw [List.map_map]; rfl
    · obtain ⟨g0, g1, g2⟩ := (hts.mem (rd ts (i : Int))).1 (rd_mem ts i hi)
      obtain ⟨q, hq⟩ := Int.eq_ofNat_of_zero_le g0
      have hf := freeL_fr l q (by omega) (by rw [hq, Int.toNat_natCast] at g2; exact g2)
      rw [← hq] at hf
      exact impl_slides.ok_g m d _ _ o (by omega) (erase_len hl hf.1) (by simp; omega) (fun x hx => hs x (List.mem_of_mem_erase hx)) ho2
theorem impl_slides.ok (l : List Int) (hl : l.length ≤ 60) (hs : ∀ x ∈ l, 0 ≤ x ∧ x ≤ 6) : impl_slides.f ([] : List Int) l 400 ([] : List (List Int)) = some ((exts l.length l).take 401) := by
  unfold impl_slides.f
  rw [impl_slides.ok_g l.length (l.length + 1) [] l [] (by omega) rfl (by simp; omega) hs (by simp)]
  unfold slW
  simp

theorem impl_SlideClass.ok (n : Int) (l : List Int) : impl_SlideClass.f n l = some (if good n l = true ∧ (exts l.length l).length ≤ 400 then ((exts l.length l).map fun x => (⟨n, x⟩ : S31), true) else ([], false)) := by
  unfold impl_SlideClass.f
  rw [impl_isLadder.ok, Option.bind_some]
  by_cases h : good n l = true
  · have g := good_iff.1 h
    rw [if_pos h, impl_slides.ok l g.2.2.1 (fun x hx => by have := g.2.2.2 x hx; omega), Option.bind_some, if_pos (by rw [List.length_take]; omega)]
    by_cases c : (exts l.length l).length ≤ 400
    · rw [List.take_of_length_le (by omega), if_neg (by omega), if_pos ⟨h, c⟩]
    · rw [if_pos (by rw [List.length_take]; omega), if_neg (fun x => c x.2)]
  · rw [if_neg h, if_neg (fun x => h x.1)]

theorem laws_eqIntS.ok_l (xs : List Int) (hn : xs.length ≤ 140737488355328) : ∀ (d i : Nat), xs.length - i = d → laws_eqIntS.l0.v xs xs i = some true := by
  intro d
  induction d with
  | zero =>
    intro i hd
    rw [laws_eqIntS.l0.v_eq, if_neg (cast_nlt (by omega))]
  | succ d ih =>
    intro i hd
    have h : i < xs.length := by omega
    rw [laws_eqIntS.l0.v_eq, if_pos (cast_lt h), if_pos (Int.natCast_nonneg i), if_pos (cast_lt h), if_pos rfl, succ_wrap h hn]
    exact ih (i + 1) (by omega)
theorem laws_eqIntS.ok (xs : List Int) (hn : xs.length ≤ 140737488355328) : laws_eqIntS.f.v xs xs = some true := by
  rw [laws_eqIntS.f.v_eq, if_pos rfl]
  exact laws_eqIntS.ok_l xs hn xs.length 0 (by omega)

theorem laws_eqLadder.ok (n : Int) (l : List Int) (h : l.length ≤ 140737488355328) : laws_eqLadder.f.v n l n l = some true := by
  rw [laws_eqLadder.f.v_eq, if_pos rfl, laws_eqIntS.ok l h]; rfl

theorem laws_eqLadderS.ok_l (xs : List S31) (hn : xs.length ≤ 1048576) (hs : ∀ x ∈ xs, x.f1.length ≤ 1048576) : ∀ (d i : Nat), i + d = xs.length → laws_eqLadderS.l0.v xs xs (i : Int) = some true := by
  intro d
  induction d with
  | zero => intro i hi; rw [laws_eqLadderS.l0.v_eq, if_neg (by omega)]
  | succ d ih =>
    intro i hi
    have h : i < xs.length := by omega
    have e : rd_T31 xs (i : Int) = xs[i] := by
      show xs.getD ((i : Int)).toNat z31 = _
      rw [toNat_cast, List.getD_eq_getElem?_getD, List.getElem?_eq_getElem h]; rfl
    have hm := hs _ (List.getElem_mem h)
    rw [laws_eqLadderS.l0.v_eq, if_pos (cast_lt h), if_pos (Int.natCast_nonneg _), if_pos (cast_lt h), e, laws_eqLadder.ok _ _ (by omega), Option.bind_some, if_pos rfl, succ_wrap h (by omega)]
    exact ih (i + 1) (by omega)
theorem laws_eqLadderS.ok (xs : List S31) (hn : xs.length ≤ 1048576) (hs : ∀ x ∈ xs, x.f1.length ≤ 1048576) : laws_eqLadderS.f.v xs xs = some true := by
  rw [laws_eqLadderS.f.v_eq, if_pos rfl]
  exact laws_eqLadderS.ok_l xs hn hs xs.length 0 (by omega)

theorem rd_fromOn (k : Int) : ∀ (n i : Nat), i < n → rd (fromOn k n) (i : Int) = k + i := by
  intro n i h
  induction n generalizing k i with
  | zero => omega
  | succ n ih =>
    cases i with
    | zero => show k = k + ((0 : Nat) : Int); simp
    | succ i =>
      have := ih (k + 1) i (by omega)
      rw [rd_cast] at this ⊢
      rw [fromOn, List.getD_cons_succ, this]; omega
theorem laws_heldIntS.ok_l (n : Nat) (k : Int) (hn : n ≤ 1099511627776) (h0 : 0 ≤ k) (h1 : k ≤ 4398046511104) : ∀ (d i : Nat), i + d = n → laws_heldIntS.l0.v (fromOn k n) (k + i) i = some (k + n) := by
  intro d
  induction d with
  | zero =>
    intro i hd
    rw [laws_heldIntS.l0.v_eq, fromOn_length, if_neg (cast_nlt (by omega)), show i = n by omega]
  | succ d ih =>
    intro i hd
    have h : i < n := by omega
    rw [laws_heldIntS.l0.v_eq, fromOn_length, if_pos (cast_lt h), if_pos (Int.natCast_nonneg i), if_pos (rd_fromOn k n i h), succ_wrap h (by omega), wrap_id (x := k + (i : Int) + 1) (by omega) (by omega), show k + (i : Int) + 1 = k + ((i + 1 : Nat) : Int) by omega]
    exact ih (i + 1) (by omega)
theorem laws_heldIntS.ok (n : Nat) (k : Int) (hn : n ≤ 1099511627776) (h0 : 0 ≤ k) (h1 : k ≤ 4398046511104) : laws_heldIntS.f.v (fromOn k n) k = some (k + n) := by
  rw [laws_heldIntS.f.v_eq]
  have := laws_heldIntS.ok_l n k hn h0 h1 n 0 (by omega)
  simpa using this

theorem laws_markIntS.ok_l : ∀ (d i : Nat) (xs : List Int) (k : Int), i + d = xs.length → xs.length ≤ 1099511627776 → 0 ≤ k → k ≤ 4398046511104 → laws_markIntS.l0.v xs (k + i) i = some (k + (xs.length : Int), xs.take i ++ fromOn (k + i) d) := by
  intro d
  induction d with
  | zero =>
    intro i xs k hd hn h0 h1
    rw [laws_markIntS.l0.v_eq, if_neg (cast_nlt (by omega)), List.take_of_length_le (by omega), show i = xs.length by omega]
    simp [fromOn]
  | succ d ih =>
    intro i xs k hd hn h0 h1
    have h : i < xs.length := by omega
    rw [laws_markIntS.l0.v_eq, if_pos (cast_lt h), if_pos (Int.natCast_nonneg i), succ_wrap h (by omega), toNat_cast, wrap_id (x := k + (i : Int) + 1) (by omega) (by omega), show k + (i : Int) + 1 = k + ((i + 1 : Nat) : Int) by omega, ih (i + 1) _ k (by rw [List.length_set]; omega) (by rw [List.length_set]; omega) h0 h1, List.length_set, fromOn, List.take_succ_eq_append_getElem (by rw [List.length_set]; omega), List.getElem_set_self, List.take_set_of_le (Nat.le_refl i), List.append_assoc, show k + (i : Int) + 1 = k + ((i + 1 : Nat) : Int) by omega]
    rfl
theorem laws_markIntS.ok (xs : List Int) (k : Int) (hn : xs.length ≤ 1099511627776) (h0 : 0 ≤ k) (h1 : k ≤ 4398046511104) : laws_markIntS.f.v xs k = some (k + (xs.length : Int), fromOn k xs.length) := by
  rw [laws_markIntS.f.v_eq]
  have := laws_markIntS.ok_l xs.length 0 xs k (by omega) hn h0 h1
  simpa using this

def laws_markLadderS.marks : Int → List S31 → List S31
  | _, [] => []
  | k, x :: r => ⟨k, fromOn (k + 1) x.f1.length⟩ :: laws_markLadderS.marks (k + 1 + x.f1.length) r
def laws_markLadderS.size : List S31 → Nat
  | [] => 0
  | x :: r => x.f1.length + 1 + laws_markLadderS.size r
theorem laws_markLadderS.marks_length : ∀ (r : List S31) (k : Int), (laws_markLadderS.marks k r).length = r.length
  | [], _ => rfl
  | x :: r, k => by rw [laws_markLadderS.marks, List.length_cons, List.length_cons, laws_markLadderS.marks_length r]
theorem laws_markLadderS.ok_l : ∀ (r pre : List S31) (k : Int), pre.length + r.length ≤ 1048576 → 0 ≤ k → k + laws_markLadderS.size r ≤ 1099511627776 → laws_markLadderS.size r ≤ 1048576 → laws_markLadderS.l0.v (pre ++ r) k (pre.length : Int) = some (k + (laws_markLadderS.size r : Nat), pre ++ laws_markLadderS.marks k r)
  | [], pre, k, hl, h0, h1, h2 => by
    rw [laws_markLadderS.l0.v_eq, if_neg (cast_nlt (by simp))]
    simp [laws_markLadderS.size, laws_markLadderS.marks]
  | x :: r, pre, k, hl, h0, h1, h2 => by
    simp only [laws_markLadderS.size] at h1 h2
    simp only [List.length_cons] at hl
    have hi : pre.length < (pre ++ x :: r).length := by simp
    have hg : (pre ++ x :: r).getD ((pre.length : Int)).toNat z31 = x := by
      rw [toNat_cast, List.getD_eq_getElem?_getD, List.getElem?_append_right (Nat.le_refl _), Nat.sub_self]; rfl
    rw [laws_markLadderS.l0.v_eq, if_pos (cast_lt hi), if_pos (Int.natCast_nonneg _), hg, wrap_id (x := k + 1) (by omega) (by omega), laws_markIntS.ok x.f1 (k + 1) (by omega) (by omega) (by omega)]
    simp only [Option.bind_some]
    rw [succ_wrap hi (by simp; omega), toNat_cast, List.set_append_right _ _ (Nat.le_refl _), Nat.sub_self, List.set_cons_zero]
    have := laws_markLadderS.ok_l r (pre ++ [⟨k, fromOn (k + 1) x.f1.length⟩]) (k + 1 + x.f1.length) (by simp; omega) (by omega) (by omega) (by omega)
    simp only [List.length_append, List.length_cons, List.length_nil, Nat.zero_add, List.append_assoc, List.cons_append, List.nil_append] at this
    rw [this]
    simp only [laws_markLadderS.size, laws_markLadderS.marks]
    congr 2
    omega
theorem laws_markLadderS.ok (r : List S31) (hl : r.length ≤ 1048576) (h1 : laws_markLadderS.size r ≤ 1048576) : laws_markLadderS.f.v r 1 = some ((1 : Int) + ((laws_markLadderS.size r : Nat) : Int), laws_markLadderS.marks 1 r) := by
  rw [laws_markLadderS.f.v_eq]
  have := laws_markLadderS.ok_l r [] 1 (by simpa using hl) (by omega) (by omega) h1
  simpa using this

theorem laws_heldLadderS.ok_l : ∀ (r pre : List S31) (k : Int), pre.length + r.length ≤ 1048576 → 0 ≤ k → k + laws_markLadderS.size r ≤ 1099511627776 → laws_markLadderS.size r ≤ 1048576 → laws_heldLadderS.l0.v (pre ++ laws_markLadderS.marks k r) k (pre.length : Int) = some (k + (laws_markLadderS.size r : Nat))
  | [], pre, k, hl, h0, h1, h2 => by
    rw [laws_heldLadderS.l0.v_eq, if_neg (cast_nlt (by simp [laws_markLadderS.marks]))]
    simp [laws_markLadderS.size]
  | x :: r, pre, k, hl, h0, h1, h2 => by
    simp only [laws_markLadderS.size] at h1 h2
    simp only [List.length_cons] at hl
    have hi : pre.length < (pre ++ laws_markLadderS.marks k (x :: r)).length := by simp [laws_markLadderS.marks]
    have hg : rd_T31 (pre ++ laws_markLadderS.marks k (x :: r)) (pre.length : Int) = ⟨k, fromOn (k + 1) x.f1.length⟩ := by
      show (pre ++ laws_markLadderS.marks k (x :: r)).getD ((pre.length : Int)).toNat z31 = _
      rw [toNat_cast, List.getD_eq_getElem?_getD, List.getElem?_append_right (Nat.le_refl _), Nat.sub_self]; rfl
    rw [laws_heldLadderS.l0.v_eq, if_pos (cast_lt hi), if_pos (Int.natCast_nonneg _), hg, if_pos rfl, wrap_id (x := k + 1) (by omega) (by omega), laws_heldIntS.ok x.f1.length (k + 1) (by omega) (by omega) (by omega)]
    simp only [Option.bind_some]
    rw [if_neg (by omega), succ_wrap hi (by simp [laws_markLadderS.marks_length]; omega)]
    have := laws_heldLadderS.ok_l r (pre ++ [⟨k, fromOn (k + 1) x.f1.length⟩]) (k + 1 + x.f1.length) (by simp; omega) (by omega) (by omega) (by omega)
    simp only [List.length_append, List.length_cons, List.length_nil, Nat.zero_add, List.append_assoc, List.cons_append, List.nil_append] at this
    rw [show pre ++ laws_markLadderS.marks k (x :: r) = pre ++ (⟨k, fromOn (k + 1) x.f1.length⟩ : S31) :: laws_markLadderS.marks (k + 1 + x.f1.length) r from rfl, this]
    simp only [laws_markLadderS.size]
    congr 1
    omega
theorem laws_heldLadderS.ok (r : List S31) (hl : r.length ≤ 1048576) (h1 : laws_markLadderS.size r ≤ 1048576) : laws_heldLadderS.f.v (laws_markLadderS.marks 1 r) 1 = some ((1 : Int) + ((laws_markLadderS.size r : Nat) : Int)) := by
  rw [laws_heldLadderS.f.v_eq]
  have := laws_heldLadderS.ok_l r [] 1 (by simpa using hl) (by omega) (by omega) h1
  simpa using this

theorem laws_szLadder.ok (n : Int) (l : List Int) (h : l.length ≤ 1048576) : laws_szLadder.f n l 1048576 = some (1048576 - (l.length : Int)) := by
  unfold laws_szLadder.f laws_szIntS.f
  rw [wrap_id (by omega) (by omega), if_neg (by omega), Option.bind_some, if_neg (by omega)]
theorem laws_szLadder.no (n : Int) (l : List Int) (h : ¬ l.length ≤ 1048576) (h2 : l.length * 8 ≤ 140737488351232) : laws_szLadder.f n l 1048576 = some (-1) := by
  unfold laws_szLadder.f laws_szIntS.f
  rw [wrap_id (by omega) (by omega), if_pos (by omega), Option.bind_some, if_pos (by omega)]
theorem laws_szLadder.ok' (n : Int) (l : List Int) (t : Int) (ht : 0 ≤ t ∧ t ≤ 1048576) (h : (l.length : Int) ≤ t) : laws_szLadder.f n l t = some (t - (l.length : Int)) := by
  unfold laws_szLadder.f laws_szIntS.f
  rw [wrap_id (by omega) (by omega), if_neg (by omega), Option.bind_some, if_neg (by omega)]
theorem laws_szLadder.no' (n : Int) (l : List Int) (t : Int) (ht : 0 ≤ t ∧ t ≤ 1048576) (h : ¬ (l.length : Int) ≤ t) (h2 : l.length * 8 ≤ 140737488351232) : laws_szLadder.f n l t = some (-1) := by
  unfold laws_szLadder.f laws_szIntS.f
  rw [wrap_id (by omega) (by omega), if_pos (by omega), Option.bind_some, if_pos (by omega)]

theorem laws_toIntS.ok_l (xs : List Int) (hn : xs.length ≤ 140737488355328) : ∀ (d i : Nat) (ys : List Int), xs.length - i = d → ys.length = xs.length → ys.take i = xs.take i → laws_toIntS.l0.v xs ys i = some xs := by
  intro d
  induction d with
  | zero =>
    intro i ys hd hl ht
    rw [laws_toIntS.l0.v_eq, if_neg (cast_nlt (by omega))]
    rw [List.take_of_length_le (by omega), List.take_of_length_le (by omega)] at ht
    rw [ht]
  | succ d ih =>
    intro i ys hd hl ht
    have h : i < xs.length := by omega
    rw [laws_toIntS.l0.v_eq, if_pos (cast_lt h), if_pos (Int.natCast_nonneg i), if_pos (cast_lt (by omega)), succ_wrap h hn, toNat_cast]
    refine ih (i + 1) _ (by omega) (by rw [List.length_set]; exact hl) ?_
    rw [take_rd xs i h, ← ht, rd_lt xs i h, List.take_succ_eq_append_getElem (by rw [List.length_set]; omega), List.getElem_set_self, List.take_set_of_le (Nat.le_refl i)]
theorem laws_toIntS.ok (xs : List Int) (hn : xs.length ≤ 1048576) : laws_toIntS.f.v xs = some xs := by
  rw [laws_toIntS.f.v_eq, if_pos (Int.natCast_nonneg _), toNat_cast, if_pos (by omega)]
  exact laws_toIntS.ok_l xs (by omega) xs.length 0 _ (by omega) (by simp) (by simp)

theorem laws_toLadder.ok (n : Int) (l : List Int) (h : l.length ≤ 1048576) : laws_toLadder.f.v n l = some (n, l) := by
  rw [laws_toLadder.f.v_eq, laws_toIntS.ok l h]; rfl

theorem spec_l1Own.ok (l : List Int) (h : l.length ≤ 1048576) : spec_l1Own.f l = some l := by
  unfold spec_l1Own.f
  rw [Option.bind_some, if_pos (by simp; omega)]; rfl

theorem spec_l1All.ok_l (a b : Int) (xs : List Int) (hn : xs.length ≤ 140737488355328) : ∀ (d i : Nat), i + d = xs.length → spec_l1All.l0.v a b xs xs.length i = some ((xs.drop i).all fun x => decide (a ≤ x) && decide (x ≤ b)) := by
  intro d
  induction d with
  | zero =>
    intro i hd
    rw [spec_l1All.l0.v_eq, if_neg (cast_nlt (by omega)), List.drop_eq_nil_of_le (by omega)]
    rfl
  | succ d ih =>
    intro i hd
    have h : i < xs.length := by omega
    rw [spec_l1All.l0.v_eq, if_pos (cast_lt h), if_pos (Int.natCast_nonneg i), if_pos (cast_lt h), succ_wrap h hn, ih (i + 1) (by omega), drop_rd xs i h, List.all_cons]
    unfold spec_l1In.f
    by_cases e : a ≤ rd xs (i : Int)
    · rw [if_pos (show rd xs (i : Int) ≥ a from e), Option.bind_some, decide_eq_true e, Bool.true_and]
      by_cases e2 : rd xs (i : Int) ≤ b
      · rw [decide_eq_true e2, if_pos rfl, Bool.true_and]
      · rw [decide_eq_false e2, if_neg (by simp), Bool.false_and]
    · rw [if_neg (show ¬ rd xs (i : Int) ≥ a from e), Option.bind_some, decide_eq_false e, if_neg (by simp), Bool.false_and, Bool.false_and]
theorem spec_l1All.ok (xs : List Int) (a b : Int) (hn : xs.length ≤ 140737488355328) : spec_l1All.f.v xs a b = some (xs.all fun x => decide (a ≤ x) && decide (x ≤ b)) := by
  rw [spec_l1All.f.v_eq]
  have := spec_l1All.ok_l a b xs hn xs.length 0 (by omega)
  simpa using this

theorem spec_laGood.ok (n : Int) (l : List Int) : spec_laGood.f.v n l = some (good n l) := by
  rw [spec_laGood.f.v_eq]
  unfold spec_l1In.f good
  by_cases h1 : 2 ≤ n
  · rw [if_pos (show n ≥ 2 from h1), Option.bind_some, decide_eq_true h1, Bool.true_and]
    by_cases h2 : n ≤ 8
    · rw [decide_eq_true h2, if_pos rfl, Bool.true_and]
      by_cases h3 : l.length ≤ 60
      · rw [if_pos (by omega), decide_eq_true h3, Bool.true_and, spec_l1All.ok l 0 _ (by omega), wrap_id (x := n - 2) (by omega) (by omega)]; rfl
      · rw [if_neg (by omega), decide_eq_false h3, Bool.false_and]
    · rw [decide_eq_false h2, if_neg (by simp), Bool.false_and, Bool.false_and]
  · rw [if_neg (show ¬ n ≥ 2 from h1), Option.bind_some, decide_eq_false h1, if_neg (by simp), Bool.false_and, Bool.false_and, Bool.false_and]

theorem spec_lsLess.ok_l (a b : List Int) (ha : a.length ≤ 1000) : ∀ (d i : Nat), i + d = a.length → i ≤ b.length → spec_lsLess.l0.v a b (i : Int) = some (lexL (a.drop i) (b.drop i)) := by
  intro d
  induction d with
  | zero =>
    intro i hd hb
    rw [spec_lsLess.l0.v_eq, if_neg (cast_nlt (by omega)), spec_lsLess.j1.v_eq, if_neg Bool.false_ne_true, List.drop_eq_nil_of_le (show a.length ≤ i by omega), lexL, List.length_drop]
    congr 1
    rw [decide_eq_decide]
    omega
  | succ d ih =>
    intro i hd hb
    have h : i < a.length := by omega
    rw [spec_lsLess.l0.v_eq, if_pos (cast_lt h), spec_lsLess.j1.v_eq, drop_rd a i h]
    by_cases h2 : i < b.length
    · rw [decide_eq_true (cast_lt h2), if_pos rfl, if_pos (Int.natCast_nonneg i), if_pos (cast_lt h), if_pos (cast_lt h2), drop_rd b i h2, lexL]
      by_cases e : rd a (i : Int) = rd b (i : Int)
      · rw [if_pos e, if_pos e, succ_wrap h (by omega)]
        exact ih (i + 1) (by omega) (by omega)
      · rw [if_neg e, if_neg e]
    · rw [decide_eq_false (cast_nlt h2), if_neg Bool.false_ne_true, List.drop_eq_nil_of_le (show b.length ≤ i by omega), lexL]
      congr 1
      exact decide_eq_false (by omega)
theorem spec_lsLess.ok (a b : List Int) (ha : a.length ≤ 1000) : spec_lsLess.f.v a b = some (lexL a b) := by
  rw [spec_lsLess.f.v_eq]
  have := spec_lsLess.ok_l a b ha a.length 0 (by omega) (by omega)
  simpa using this

theorem spec_lsSame.ok (a b : List Int) (ha : a.length ≤ 1000) (hb : b.length ≤ 1000) : spec_lsSame.f.v a b = some (decide (a = b)) := by
  rw [spec_lsSame.f.v_eq, spec_lsLess.ok a b ha, Option.bind_some, spec_lsLess.ok b a hb, Option.bind_some, ← lexL_same]
  split <;> rfl

theorem spec_l1Abs.ok (x : Int) (h0 : -1000000 ≤ x) (h1 : x ≤ 1000000) : spec_l1Abs.f x = some (if 0 ≤ x then x else -x) := by
  unfold spec_l1Abs.f spec_l1Most.f
  rw [wrap_id (x := -x) (by omega) (by omega)]
  by_cases h : x > -x
  · rw [if_pos h, Option.bind_some, if_pos (by omega)]
  · rw [if_neg h, Option.bind_some]
    by_cases h2 : 0 ≤ x
    · rw [if_pos h2]; congr 1; omega
    · rw [if_neg h2]

theorem spec_lsSlide.ok (l : List Int) (a : Int) (hs : ∀ x ∈ l, 0 ≤ x ∧ x ≤ 1000) (hl : l.length ≤ 1000) : spec_lsSlide.f l a = some (slideM l a) := by
  unfold spec_lsSlide.f spec_l1In.f slideM
  rw [wrap_id (x := (l.length : Int) - 2) (by omega) (by omega)]
  by_cases h0 : 0 ≤ a
  · rw [if_pos h0, Option.bind_some]
    by_cases h1 : a + 1 < l.length
    · have b1 := small_rd hs a h0 (by omega)
      have b2 := small_rd hs (a + 1) (by omega) h1
      rw [decide_eq_true (show a ≤ (l.length : Int) - 2 by omega), if_pos rfl, if_pos h0, if_pos (by omega), wrap_id (x := a + 1) (by omega) (by omega), if_pos (by omega), if_pos h1, wrap_id (x := rd l a - rd l (a + 1)) (by omega) (by omega), spec_l1Abs.ok _ (by omega) (by omega), Option.bind_some]
      by_cases c : rd l a - rd l (a + 1) ≥ 2 ∨ rd l (a + 1) - rd l a ≥ 2
      · rw [if_neg (by split <;> omega), spec_l1Own.ok l (by omega), Option.bind_some, if_pos (by omega), if_pos h1, if_pos (show slideC l a = true from decide_eq_true ⟨h0, h1, c⟩)]
        unfold slideL swp
        rw [show (a + 1).toNat = a.toNat + 1 by omega, Int.toNat_of_nonneg h0, show ((a.toNat + 1 : Nat) : Int) = a + 1 by omega]
      · rw [if_pos (by split <;> omega), if_neg (show ¬ slideC l a = true from fun x => c (of_decide_eq_true x).2.2)]
    · rw [decide_eq_false (by omega), if_neg (by simp), if_neg (show ¬ slideC l a = true from fun x => h1 (of_decide_eq_true x).2.1)]
  · rw [if_neg h0, Option.bind_some, if_neg (by simp), if_neg (show ¬ slideC l a = true from fun x => h0 (of_decide_eq_true x).1)]

def spec_SlideClass.R (n : Int) (l : List Int) : List S31 × Bool := if (exts l.length l).length ≤ 400 then ((exts l.length l).map fun x => (⟨n, x⟩ : S31), true) else ([], false)
theorem spec_SlideClass.ok_l3 (all : List (List Int)) (order : List Int) (ha : all.length ≤ 400) (hr : ∀ o ∈ order, 0 ≤ o ∧ o < (all.length : Int)) (ho : order.length ≤ 400) (n : Int) (l : List Int) : ∀ (d i : Nat) (out : List S31), i + d = order.length → out.length = i → spec_SlideClass.l3.v all out order (order.length : Int) (i : Int) n l = some (out ++ (order.drop i).map fun o => (⟨n, rdR all o⟩ : S31), true) := by
  intro d
  induction d with
  | zero =>
    intro i out hi hl
    rw [spec_SlideClass.l3.v_eq, if_neg (cast_nlt (by omega)), List.drop_eq_nil_of_le (by omega), List.map_nil, List.append_nil]
  | succ d ih =>
    intro i out hi hl
    have h : i < order.length := by omega
    have hb := hr _ (rd_mem order i h)
    rw [spec_SlideClass.l3.v_eq, if_pos (cast_lt h), if_pos (Int.natCast_nonneg i), if_pos (cast_lt h), if_pos hb.1, if_pos hb.2, if_pos (by omega), succ_wrap h (by omega), ih (i + 1) _ (by omega) (by simp; omega), drop_rd order i h, List.map_cons, List.append_assoc]
    rfl
theorem spec_SlideClass.ok_l2 (l : List Int) (all : List (List Int)) (order : List Int) (hI : SInv l all order) (ha : all.length ≤ 400) (hl : l.length ≤ 60) (k : Int) (y : List Int) (hy : y.length ≤ 1000) (n : Int) (m at_ : Int) : ∀ (d lo hi : Nat), hi - lo ≤ d → lo ≤ hi → hi ≤ order.length →
    (∀ i : Nat, i < lo → lexL (rdR all (rd order (i : Int))) y = true) → (∀ i : Nat, hi ≤ i → i < order.length → lexL (rdR all (rd order (i : Int))) y = false) →
    ∃ p : Nat, p ≤ order.length ∧ (∀ i : Nat, i < p → lexL (rdR all (rd order (i : Int))) y = true) ∧ (∀ i : Nat, p ≤ i → i < order.length → lexL (rdR all (rd order (i : Int))) y = false) ∧
      spec_SlideClass.l2.v all order k y (lo : Int) (hi : Int) m at_ n l = spec_SlideClass.j3.v all order k y (p : Int) m at_ (if p < order.length then decide (rdR all (rd order (p : Int)) = y) else false) n l := by
  have hol := hI.len
  have hrow : ∀ i : Nat, i < order.length → (0 ≤ rd order (i : Int) ∧ rd order (i : Int) < (all.length : Int)) ∧ (rdR all (rd order (i : Int))).length ≤ 1000 := fun i hi => by
    have h1 := hI.ran _ (rd_mem order i hi)
    have h2 := (hI.rch _ (rdR_mem' h1)).length
    exact ⟨h1, by omega⟩
  intro d
  induction d with
  | zero =>
    intro lo hi h1 h2 h3 hA hB
    obtain rfl : lo = hi := by omega
    refine ⟨lo, h3, hA, hB, ?_⟩
    rw [spec_SlideClass.l2.v_eq, if_neg (by omega)]
    by_cases c : lo < order.length
    · have hr := hrow lo c
      rw [if_pos (cast_lt c), if_pos (Int.natCast_nonneg lo), if_pos hr.1.1, if_pos hr.1.2, if_pos c]
      have e := spec_lsSame.ok (rdR all (rd order (lo : Int))) y hr.2 hy
      rw [show rd_L1 all (rd order (lo : Int)) = rdR all (rd order (lo : Int)) from rfl, e, Option.bind_some]
    · rw [if_neg (cast_nlt c), if_neg c]
  | succ d ih =>
    intro lo hi h1 h2 h3 hA hB
    by_cases e : lo = hi
    · subst e
      exact ih lo lo (by omega) (by omega) h3 hA hB
    · have hmid : wrap64 (Int.tdiv (wrap64 ((lo : Int) + (hi : Int))) 2) = (((lo + hi) / 2 : Nat) : Int) := by
        rw [wrap_id (x := (lo : Int) + (hi : Int)) (by omega) (by omega), show ((lo : Int) + (hi : Int)) = ((lo + hi : Nat) : Int) by omega, show Int.tdiv ((lo + hi : Nat) : Int) 2 = (((lo + hi) / 2 : Nat) : Int) from rfl, wrap_id (by omega) (by omega)]
      have hm1 : lo ≤ (lo + hi) / 2 := by omega
      have hm2 : (lo + hi) / 2 < hi := by omega
      have hmlt : (lo + hi) / 2 < order.length := by omega
      have hr := hrow ((lo + hi) / 2) hmlt
      rw [spec_SlideClass.l2.v_eq, if_pos (by omega), hmid]
      generalize (lo + hi) / 2 = mid at hm1 hm2 hmlt hr
      have e := spec_lsLess.ok (rdR all (rd order (mid : Int))) y hr.2
      rw [if_pos (Int.natCast_nonneg mid), if_pos (cast_lt hmlt), if_pos hr.1.1, if_pos hr.1.2, show rd_L1 all (rd order (mid : Int)) = rdR all (rd order (mid : Int)) from rfl, e, Option.bind_some]
      by_cases c : lexL (rdR all (rd order (mid : Int))) y = true
      · rw [if_pos c, succ_wrap hmlt (by omega)]
        refine ih (mid + 1) hi (by omega) (by omega) h3 (fun i hi2 => ?_) hB
        by_cases e2 : i = mid
        · subst e2; exact c
        · exact lexL_trans _ _ _ (hI.lt i mid (by omega) hmlt) c
      · rw [if_neg c]
        refine ih lo mid (by omega) (by omega) (by omega) hA (fun i hi2 hi3 => ?_)
        by_cases e2 : i = mid
        · subst e2; simpa using c
        · by_cases c2 : lexL (rdR all (rd order (i : Int))) y = true
          · exact absurd (lexL_trans _ _ _ (hI.lt mid i (by omega) hi3) c2) c
          · simpa using c2
theorem spec_SlideClass.fit (x : List Int) (p : Nat) (hp : p ≤ x.length) : (0 : Int) ≤ ((p + 1 : Nat) : Int) ∧ ((p + 1 : Nat) : Int) ≤ ((x ++ [0]).length : Int) ∧ (0 : Int) ≤ (p : Int) ∧ (p : Int) ≤ ((x ++ [0]).length : Int) ∧ (p : Int) < ((x ++ [0]).length : Int) := by
  rw [List.length_append, List.length_singleton]
  omega
set_option maxHeartbeats 1000000 in
theorem spec_SlideClass.ok_main (n : Int) (l : List Int) (hl : l.length ≤ 60) (hs : ∀ x ∈ l, 0 ≤ x ∧ x ≤ 6) : ∀ (d k : Nat) (all : List (List Int)) (order : List Int), k + d = 401 → k ≤ all.length → all.length ≤ 400 → SInv l all order → Clo all k → spec_SlideClass.l0.v all order (k : Int) n l = some (spec_SlideClass.R n l) := by
  intro d
  induction d with
  | zero => intro k all order h1 h2 h3; omega
  | succ d ih =>
    intro k all order h1 h2 h3 hI hC
    have inner : ∀ (e a : Nat) (all : List (List Int)) (order : List Int), a + e = l.length → k < all.length → all.length ≤ 400 → SInv l all order → Clo all k → Cla all k a → spec_SlideClass.l1.v all order (k : Int) (l.length : Int) (a : Int) n l = some (spec_SlideClass.R n l) := by
      intro e
      induction e with
      | zero =>
        intro a all order g1 g2 g3 hI hC hA
        have hlen := (hI.rch _ (rdR_mem all k g2)).length
        rw [spec_SlideClass.l1.v_eq, if_neg (cast_nlt (by omega)), succ_wrap g2 (by omega)]
        exact ih (k + 1) all order (by omega) (by omega) g3 hI (hC.next hA (by omega))
      | succ e ihe =>
        intro a all order g1 g2 g3 hI hC hA
        have hrk := hI.rch _ (rdR_mem all k g2)
        have hlen := hrk.length
        have hal : a < l.length := by omega
        have hol := hI.len
        have hslide := spec_lsSlide.ok (rdR all (k : Int)) (a : Int) (fun x hx => by have := hs x (hrk.mem x hx); omega) (by omega)
        rw [spec_SlideClass.l1.v_eq, if_pos (cast_lt hal), if_pos (Int.natCast_nonneg k), if_pos (cast_lt g2), show rd_L1 all (k : Int) = rdR all (k : Int) from rfl, hslide, Option.bind_some]
        unfold slideM
        by_cases c : slideC (rdR all (k : Int)) (a : Int) = true
        · rw [if_pos c]
          have hy : Rch l (slideL (rdR all (k : Int)) (a : Int)) := .step hrk (slide_Sl c)
          have hyl := hy.length
          dsimp only
          rw [if_pos rfl]
          generalize hyy : slideL (rdR all (k : Int)) (a : Int) = y at hy hyl
          obtain ⟨p, hp, hpA, hpB, hpe⟩ := spec_SlideClass.ok_l2 l all order hI g3 hl (k : Int) y (by omega) n (l.length : Int) (a : Int) order.length 0 order.length (by omega) (by omega) (by omega) (fun i hi => by omega) (fun i hi hi2 => by omega)
          rw [show ((0 : Nat) : Int) = 0 from rfl] at hpe
          rw [hpe, spec_SlideClass.j3.v_eq]
          by_cases cs : p < order.length ∧ rdR all (rd order (p : Int)) = y
          · rw [if_pos cs.1, decide_eq_true cs.2, if_pos rfl, succ_wrap hal (by omega)]
            refine ihe (a + 1) all order (by omega) g2 g3 hI hC (hA.next fun _ => ?_)
            rw [hyy, ← cs.2]
            exact rdR_mem' (hI.ran _ (rd_mem order p cs.1))
          · have hb : (if p < order.length then decide (rdR all (rd order (p : Int)) = y) else false) = false := by
              by_cases c2 : p < order.length
              · rw [if_pos c2]; exact decide_eq_false fun x => cs ⟨c2, x⟩
              · rw [if_neg c2]
            have hpB2 : ∀ i : Nat, p ≤ i → i < order.length → lexL y (rdR all (rd order (i : Int))) = true := by
              have h0 : p < order.length → lexL y (rdR all (rd order (p : Int))) = true := fun c2 => by
                rcases lexL_or (rdR all (rd order (p : Int))) y with e1 | e1 | e1
                · exact absurd ⟨c2, e1⟩ cs
                · rw [hpB p (Nat.le_refl _) c2] at e1; cases e1
                · exact e1
              intro i hi hi2
              by_cases e2 : i = p
              · subst e2; exact h0 hi2
              · exact lexL_trans _ _ _ (h0 (by omega)) (hI.lt p i (by omega) hi2)
            have hI2 := hI.put y hy p hp hpA hpB2
            rw [hb, if_neg Bool.false_ne_true, if_pos (by omega), Option.bind_some, if_pos (by omega), Option.bind_some]
            have hp1 : wrap64 ((p : Int) + 1) = ((p + 1 : Nat) : Int) := by rw [wrap_id (by omega) (by omega)]; omega
            have ea : (all ++ [y]).length = all.length + 1 := List.length_append
            obtain ⟨f1, f2, f3, f4, f5⟩ := spec_SlideClass.fit order p hp
            rw [hp1, if_pos f1, if_pos f2, if_pos f3, if_pos f4, if_pos f5, ea]
            clear f1 f2 f3 f4 f5
            by_cases c4 : ((all.length + 1 : Nat) : Int) > 400
            · rw [if_pos c4]
              have := hI2.few hs
              rw [ea] at this
              clear ea
              unfold spec_SlideClass.R
              rw [if_neg (by omega)]
            · rw [if_neg c4, succ_wrap hal (by omega), Int.toNat_natCast, wrap_id (x := ((all.length + 1 : Nat) : Int) - 1) (by omega) (by omega), show ((all.length + 1 : Nat) : Int) - 1 = (all.length : Int) by omega]
              have es : (spec_SlideClass.shf (order ++ [0]) p).set p (all.length : Int) = order.take p ++ (all.length : Int) :: order.drop p := by
                unfold spec_SlideClass.shf
                exact shf_set order p _ hp
              rw [es]
              refine ihe (a + 1) _ _ (by omega) (by rw [ea]; omega) (by rw [ea]; omega) hI2 (hC.more (by omega) y) ((hA.more g2 y).next fun _ => ?_)
              rw [rdR_app all y ⟨by omega, by omega⟩, hyy]
              simp
        · rw [if_neg c]
          dsimp only
          rw [if_neg Bool.false_ne_true, succ_wrap hal (by omega)]
          exact ihe (a + 1) all order (by omega) g2 g3 hI hC (hA.next fun x => absurd x c)
    rw [spec_SlideClass.l0.v_eq]
    by_cases c : k < all.length
    · rw [if_pos (cast_lt c)]
      exact inner l.length 0 all order (by omega) c h3 hI hC (fun a ha => by omega)
    · rw [if_neg (cast_nlt c)]
      obtain rfl : k = all.length := by omega
      have hd := hI.done hC hs
      have hol := hI.len
      have hf := congrArg List.length hd
      rw [List.length_map] at hf
      have := spec_SlideClass.ok_l3 all order h3 hI.ran (by omega) n l order.length 0 [] (by omega) rfl
      rw [show ((0 : Nat) : Int) = 0 from rfl] at this
      rw [this]
      unfold spec_SlideClass.R
      rw [if_pos (by omega), ← hd, List.map_map]
      rfl
theorem spec_SlideClass.ok (n : Int) (l : List Int) : spec_SlideClass.f.v n l = some (if good n l = true ∧ (exts l.length l).length ≤ 400 then ((exts l.length l).map fun x => (⟨n, x⟩ : S31), true) else ([], false)) := by
  rw [spec_SlideClass.f.v_eq, spec_laGood.ok, Option.bind_some]
  by_cases h : good n l = true
  · have g := good_iff.1 h
    rw [if_pos h, spec_l1Own.ok l (by omega), Option.bind_some]
    have := spec_SlideClass.ok_main n l g.2.2.1 (fun x hx => by have := g.2.2.2 x hx; omega) 401 0 [l] [0] rfl (by simp) (by simp) (SInv.start l) (fun k hk => by omega)
    rw [show ((0 : Nat) : Int) = 0 from rfl] at this
    rw [this]
    unfold spec_SlideClass.R
    by_cases c : (exts l.length l).length ≤ 400
    · rw [if_pos c, if_pos ⟨h, c⟩]
    · rw [if_neg c, if_neg (fun x => c x.2)]
  · rw [if_neg h, if_neg (fun x => h x.1)]

theorem FnExactSlideClass.size_le (n : Int) (m : Nat) : ∀ L : List (List Int), (∀ x ∈ L, x.length ≤ m) → laws_markLadderS.size (L.map fun r => (⟨n, r⟩ : S31)) ≤ L.length * (m + 1)
  | [], _ => Nat.zero_le _
  | x :: r, h => by
    have h1 := h x (by simp)
    have h2 := FnExactSlideClass.size_le n m r (fun y hy => h y (by simp [hy]))
    simp only [List.map_cons, laws_markLadderS.size, List.length_cons, Nat.succ_mul]
    omega
theorem FnExactSlideClass : laws_FnExactSlideClass.Pure := by
  intro n l _ _ hb _
  refine laws_FnExactSlideClass.f.ends n l ?_
  rw [laws_FnExactSlideClass.f.v_eq]
  by_cases h : l.length ≤ 1048576
  · rw [laws_szLadder.ok n l h, Option.bind_some, if_neg (by omega)]
    obtain ⟨r, b, hs, hi, hr, hx, hz⟩ : ∃ r b, spec_SlideClass.f.v n l = some (r, b) ∧ impl_SlideClass.f n l = some (r, b) ∧ r.length ≤ 1000 ∧ (∀ x ∈ r, x.f1.length ≤ 1000) ∧ laws_markLadderS.size r ≤ 1048576 := by
      rw [spec_SlideClass.ok, impl_SlideClass.ok]
      split
      · rename_i hp
        have g := good_iff.1 hp.1
        have hle : ∀ x ∈ exts l.length l, x.length ≤ 60 := fun x hx => by rw [exts_len _ _ _ hx]; exact g.2.2.1
        refine ⟨_, _, rfl, rfl, by rw [List.length_map]; omega, fun x hx => ?_, ?_⟩
        · obtain ⟨y, hy, rfl⟩ := List.mem_map.1 hx
          have := hle y hy
          show y.length ≤ 1000
          omega
        · have := FnExactSlideClass.size_le n 60 (exts l.length l) hle
          have h2 := hp.2
          omega
      · exact ⟨_, _, rfl, rfl, by simp, by simp, by simp [laws_markLadderS.size]⟩
    have e0 := laws_toLadder.ok n l h
    have e1 := laws_eqLadder.ok n l (by omega)
    have e2 := laws_eqLadderS.ok r (by omega) (fun x hx' => Nat.le_trans (hx x hx') (by decide))
    have e3 := laws_markIntS.ok l 1 (by omega) (by omega) (by omega)
    have e4 := laws_markLadderS.ok r (by omega) hz
    have e5 := laws_heldLadderS.ok r (by omega) hz
    have n1 : ¬ ((1 : Int) + (l.length : Int) < 0) := by omega
    have n2 : ¬ ((1 : Int) + ((laws_markLadderS.size r : Nat) : Int) < 0) := by omega
    simp only [e0, hs, hi, e1, e2, laws_markLadder.f.v_eq, e3, e4, e5, if_neg n1, if_neg n2, laws_FnExactSlideClass.j0.v_eq, laws_FnExactSlideClass.j1.v_eq, laws_FnExactSlideClass.j2.v_eq, Option.bind_some, bne_self_eq_false, Bool.false_eq_true, if_false, if_true]
  · rw [laws_szLadder.no n l h hb, Option.bind_some, if_pos (by omega)]

end Go.Proofs.Ytnddmmjofpfmfaa.Pure
