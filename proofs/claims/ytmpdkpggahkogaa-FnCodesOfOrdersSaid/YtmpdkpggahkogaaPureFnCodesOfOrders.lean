/- Proved: for every input the law FnCodesOfOrders returns true (its plain statement, over numbers and lists). No condition. -/
import Derived.Test.YtmpdkpggahkogaaPAllx9
import Derived.Test.YtmpdkpggahkogaaVAllx1
import Derived.Test.YtmpdkpggahkogaaVAllx2
import Derived.Test.YtmpdkpggahkogaaVAllx3
import Derived.Test.YtmpdkpggahkogaaVAllx4
import Derived.Test.YtmpdkpggahkogaaVAllx5
import Derived.Test.YtmpdkpggahkogaaVAllx6
import Derived.Test.YtmpdkpggahkogaaVAllx7
import Derived.Test.YtmpdkpggahkogaaVAllx8
import Derived.Test.YtmpdkpggahkogaaVAllx9
import Derived.Test.YtmpdkpggahkogaaCodes
import Derived.Test.YtmpdkpggahkogaaDraw
import Derived.Test.YtmpdkpggahkogaaInvs
import Derived.Test.YtmpdkpggahkogaaOrders
import Derived.Test.YtmpdkpggahkogaaPlain
namespace Go.Proofs.Ytmpdkpggahkogaa.Pure
open Go.RowKit Go.Proofs.Ytmpdkpggahkogaa.PAll Go.Proofs.YtmpdkpggahkogaaW.PrintWords Go.Proofs.YtmpdkpggahkogaaW.PrintLast Go.Proofs.YtmpdkpggahkogaaW.PrintMore Go.Proofs.YtmpdkpggahkogaaL
set_option linter.unusedVariables false
set_option linter.unusedSimpArgs false

theorem impl_inverted.ok_i (p : List Int) (hp : p.length ≤ 8) (i : Nat) (hi : i < p.length) : ∀ (d j : Nat) (acc : List (List Int)), j + d = p.length → acc.length + d ≤ 1000 → impl_inverted.l1.v p acc i j p.length i = impl_inverted.l0.v p (acc ++ invRow p i j d) p.length ((i + 1 : Nat) : Int) := by
  intro d
  induction d with
  | zero =>
    intro j acc hd ha
    rw [impl_inverted.l1.v_eq, if_neg (cast_nlt (by omega)), succ_wrap hi (by omega), invRow, List.append_nil]
  | succ d ih =>
    intro j acc hd ha
    have hj : j < p.length := by omega
    rw [impl_inverted.l1.v_eq, if_pos (cast_lt hj), if_pos (Int.natCast_nonneg i), if_pos (cast_lt hi), if_pos (Int.natCast_nonneg j), succ_wrap hj (by omega), invRow]
    by_cases e : rd p (i : Int) > rd p (j : Int)
    · rw [if_pos e, if_pos e, if_pos (by omega), ih (j + 1) _ (by omega) (by simp; omega), List.append_assoc]; rfl
    · rw [if_neg e, if_neg e, ih (j + 1) _ (by omega) (by omega)]
theorem impl_inverted.ok_o (p : List Int) (hp : p.length ≤ 8) : ∀ (d i : Nat) (acc : List (List Int)), i + d = p.length → acc.length + d * p.length ≤ 900 → impl_inverted.l0.v p acc p.length i = some (acc ++ invFrom p i d) := by
  intro d
  induction d with
  | zero =>
    intro i acc hd ha
    rw [impl_inverted.l0.v_eq, if_neg (cast_nlt (by omega)), invFrom, List.append_nil]
  | succ d ih =>
    intro i acc hd ha
    have hi : i < p.length := by omega
    rw [Nat.succ_mul] at ha
    have h1 := invRow_length p i (p.length - (i + 1)) (i + 1)
    rw [impl_inverted.l0.v_eq, if_pos (cast_lt hi), succ_wrap hi (by omega), impl_inverted.ok_i p hp i hi (p.length - (i + 1)) (i + 1) acc (by omega) (by omega), ih (i + 1) _ (by omega) (by rw [List.length_append]; omega), invFrom, List.append_assoc]
theorem impl_inverted.ok (p : List Int) (hp : p.length ≤ 8) : impl_inverted.f.v p = some (invs p) := by
  rw [impl_inverted.f.v_eq]
  have h2 : p.length * p.length ≤ 8 * 8 := Nat.mul_le_mul hp hp
  have := impl_inverted.ok_o p hp p.length 0 [] (by omega) (by simp; omega)
  simpa [invs] using this

theorem slices_Index_int_int.ok_l (v : Int) (xs : List Int) (hn : xs.length ≤ 140737488355328) : ∀ (d i : Nat), xs.length - i = d → ∃ r, slices_Index_int_int.l0.v xs v xs.length i = some r ∧ decide (r ≥ 0) = decide (v ∈ xs.drop i) := by
  intro d
  induction d with
  | zero =>
    intro i hd
    refine ⟨-1, ?_, ?_⟩
    · rw [slices_Index_int_int.l0.v_eq, if_neg (cast_nlt (by omega))]
    · rw [List.drop_eq_nil_of_le (by omega)]; simp
  | succ d ih =>
    intro i hd
    have h : i < xs.length := by omega
    obtain ⟨r, hr, hr'⟩ := ih (i + 1) (by omega)
    rw [slices_Index_int_int.l0.v_eq, if_pos (cast_lt h), if_pos (Int.natCast_nonneg i), if_pos (cast_lt h), succ_wrap h hn, hr, drop_rd xs i h]
    by_cases e : v = rd xs (i : Int)
    · rw [if_pos e]; exact ⟨i, rfl, by simp [e, Int.natCast_nonneg]⟩
    · rw [if_neg e]; exact ⟨r, rfl, by rw [hr']; simp [e]⟩

theorem slices_Contains_int_int.ok (v : Int) (xs : List Int) (hn : xs.length ≤ 140737488355328) : slices_Contains_int_int.f.v xs v = some (decide (v ∈ xs)) := by
  obtain ⟨r, hr, hr'⟩ := slices_Index_int_int.ok_l v xs hn xs.length 0 (by omega)
  have e : slices_Index_int_int.f.v xs v = some r := by rw [slices_Index_int_int.f.v_eq]; exact hr
  rw [slices_Contains_int_int.f.v_eq, e, Option.bind_some, hr', List.drop_zero]

theorem impl_isOrder.ok_l (p : List Int) (hn : p.length ≤ 8) : ∀ (d i : Nat), p.length - i = d → impl_isOrder.l0.v p p p.length i = some (ordGo p.length (p.take i) (p.drop i)) := by
  intro d
  induction d with
  | zero =>
    intro i hd
    rw [impl_isOrder.l0.v_eq, if_neg (cast_nlt (by omega)), List.drop_eq_nil_of_le (by omega)]
    rfl
  | succ d ih =>
    intro i hd
    have h : i < p.length := by omega
    rw [impl_isOrder.l0.v_eq, if_pos (cast_lt h), if_pos (Int.natCast_nonneg i), if_pos (cast_lt h), succ_wrap h (by omega), ih (i + 1) (by omega), drop_rd p i h, take_rd p i h]
    rw [wrap_id (x := (p.length : Int) - 1) (by omega) (by omega), toNat_cast, slices_Contains_int_int.ok _ _ (by rw [List.length_take]; omega)]
    unfold impl_between.f
    rw [ordGo_cons]
    by_cases a : 0 ≤ rd p (i : Int)
    · by_cases b : rd p (i : Int) ≤ (p.length : Int) - 1
      · have hi : (i : Int) ≤ (p.length : Int) := by omega
        by_cases c : rd p (i : Int) ∈ p.take i
        · simp only [ge_iff_le, a, b, c, hi, decide_true, decide_false, if_true, if_false, Option.bind_some, true_and, and_true, and_self, Bool.false_eq_true]
        · simp only [ge_iff_le, a, b, c, hi, decide_true, decide_false, if_true, if_false, Option.bind_some, true_and, and_true, and_self, Bool.false_eq_true]
      · simp [a, b]
    · simp [a]
theorem impl_isOrder.ok (p : List Int) : impl_isOrder.f.v p = some (isOrd p) := by
  rw [impl_isOrder.f.v_eq]
  unfold impl_between.f isOrd
  by_cases h : 1 ≤ p.length ∧ p.length ≤ 8
  · have := impl_isOrder.ok_l p h.2 p.length 0 (by omega)
    have h1 : (p.length : Int) ≥ 1 := by omega
    have h2 : (p.length : Int) ≤ 8 := by omega
    rw [if_pos h1, if_pos h, decide_eq_true h2]
    simpa using this
  · rw [if_neg h]
    by_cases h1 : (p.length : Int) ≥ 1
    · have h2 : ¬ (p.length : Int) ≤ 8 := by omega
      rw [if_pos h1, decide_eq_false h2]; rfl
    · rw [if_neg h1]; rfl

theorem impl_CodeOf.ok_l (n : Nat) (hn : n ≤ 8) (xs : List (List Int)) (hx : xs.length ≤ 64) (hb : ∀ x ∈ xs, ∃ a b : Nat, x = [(a : Int), (b : Int)] ∧ a < b ∧ b < n) : ∀ (d i : Nat) (out : List Int), i + d = xs.length → out.length = n → (∀ y ∈ out, 0 ≤ y ∧ y ≤ i) → impl_CodeOf.l0.v out xs xs.length i = some ((xs.drop i).foldl bump out, true) := by
  intro d
  induction d with
  | zero =>
    intro i out hd ho hy
    rw [impl_CodeOf.l0.v_eq, if_neg (cast_nlt (by omega)), List.drop_eq_nil_of_le (by omega)]
    rfl
  | succ d ih =>
    intro i out hd ho hy
    have h : i < xs.length := by omega
    have hg : rd_L2 xs (i : Int) = xs[i] := by
      unfold rd_L2
      rw [toNat_cast, List.getD_eq_getElem?_getD, List.getElem?_eq_getElem h]; rfl
    obtain ⟨a, b, hab, h1, h2⟩ := hb xs[i] (List.getElem_mem h)
    have h0 : rd [(a : Int), (b : Int)] 0 = (a : Int) := rfl
    have hv := hy (rd out (a : Int)) (rd_mem out a (by omega))
    rw [impl_CodeOf.l0.v_eq, if_pos (cast_lt h), if_pos (Int.natCast_nonneg i), if_pos (cast_lt h), hg, hab, if_pos (by simp), h0, if_pos (Int.natCast_nonneg a), if_pos (by omega), succ_wrap h (by omega), wrap_id (x := rd out (a : Int) + 1) (by omega) (by omega)]
    rw [List.drop_eq_getElem_cons h, List.foldl_cons, hab]
    have hbump : bump out [(a : Int), (b : Int)] = out.set ((a : Int)).toNat (rd out (a : Int) + 1) := by unfold bump; rw [h0]
    rw [hbump]
    refine ih (i + 1) _ (by omega) (by rw [List.length_set]; exact ho) (fun y hy' => ?_)
    rcases List.mem_or_eq_of_mem_set hy' with h3 | h3
    · have := hy y h3; omega
    · omega
theorem impl_CodeOf.ok (p : List Int) : impl_CodeOf.f.v p = some (if isOrd p = true then (codeL p, true) else ([], false)) := by
  rw [impl_CodeOf.f.v_eq, impl_isOrder.ok, Option.bind_some]
  by_cases h : isOrd p = true
  · have hl := isOrd_len h
    rw [if_pos h, if_pos h, if_pos (Int.natCast_nonneg _), toNat_cast, if_pos (by omega), impl_inverted.ok p hl.2, Option.bind_some]
    have := impl_CodeOf.ok_l p.length hl.2 (invs p) (invs_length p hl.2) (invs_two p) (invs p).length 0 (List.replicate p.length 0) (by omega) (by simp) (fun y hy => by rw [List.eq_of_mem_replicate hy]; simp)
    rw [List.drop_zero, bumps_code] at this
    exact this
  · rw [if_neg h, if_neg h]

theorem impl_descents.ok_l (p : List Int) (h1 : 1 ≤ p.length) (hp : p.length ≤ 1000) : ∀ (d i : Nat) (acc : List Int), i + 1 + d = p.length → acc.length ≤ i → impl_descents.l0.v p acc i = some (acc ++ descGo p d i) := by
  intro d
  induction d with
  | zero =>
    intro i acc hd ha
    rw [impl_descents.l0.v_eq, succ_wrap (show i < p.length by omega) (by omega), if_neg (cast_nlt (by omega)), descGo, List.append_nil]
  | succ d ih =>
    intro i acc hd ha
    rw [impl_descents.l0.v_eq, succ_wrap (show i < p.length by omega) (by omega), if_pos (cast_lt (by omega)), if_pos (Int.natCast_nonneg i), if_pos (cast_lt (by omega)), if_pos (Int.natCast_nonneg _), descGo]
    by_cases e : rd p (i : Int) > rd p ((i : Int) + 1)
    · have e' : rd p (i : Int) > rd p ((i + 1 : Nat) : Int) := e
      rw [if_pos e', if_pos e, if_pos (by omega), ih (i + 1) _ (by omega) (by simp; omega), List.append_assoc]; rfl
    · have e' : ¬ rd p (i : Int) > rd p ((i + 1 : Nat) : Int) := e
      rw [if_neg e', if_neg e, ih (i + 1) _ (by omega) (by omega)]
theorem impl_descents.ok (p : List Int) (h1 : 1 ≤ p.length) (hp : p.length ≤ 1000) : impl_descents.f.v p = some (desc p) := by
  rw [impl_descents.f.v_eq]
  have := impl_descents.ok_l p h1 hp (p.length - 1) 0 [] (by omega) (by simp)
  simpa [desc] using this

theorem impl_DescentsOf.ok (p : List Int) : impl_DescentsOf.f.v p = some (if isOrd p = true then (desc p, true) else ([], false)) := by
  rw [impl_DescentsOf.f.v_eq, impl_isOrder.ok, Option.bind_some]
  by_cases h : isOrd p = true
  · have hl := isOrd_len h
    rw [if_pos h, if_pos h, impl_descents.ok p hl.1 (by omega)]; rfl
  · rw [if_neg h, if_neg h]

theorem impl_inversions.ok (p : List Int) (hp : p.length ≤ 8) : impl_inversions.f.v p = some ((invs p).length : Int) := by
  rw [impl_inversions.f.v_eq, impl_inverted.ok p hp]; rfl

theorem impl_InversionsOf.ok (p : List Int) : impl_InversionsOf.f.v p = some (if isOrd p = true then (((invs p).length : Int), true) else (0, false)) := by
  rw [impl_InversionsOf.f.v_eq, impl_isOrder.ok, Option.bind_some]
  by_cases h : isOrd p = true
  · rw [if_pos h, if_pos h, impl_inversions.ok p (isOrd_len h).2]; rfl
  · rw [if_neg h, if_neg h]

theorem impl_IsOrder.ok (p : List Int) : impl_IsOrder.f.v p = some (isOrd p) := by
  rw [impl_IsOrder.f.v_eq, impl_isOrder.ok]; rfl

theorem impl_identity.ok_l (n : Nat) (hn : n ≤ 1000) : ∀ (d i : Nat) (acc : List Int), i + d = n → acc.length ≤ i → impl_identity.l0.v acc n i = some (acc ++ upFrom d i) := by
  intro d
  induction d with
  | zero =>
    intro i acc hd ha
    rw [impl_identity.l0.v_eq, if_neg (cast_nlt (by omega)), upFrom, List.append_nil]
  | succ d ih =>
    intro i acc hd ha
    have h : i < n := by omega
    rw [impl_identity.l0.v_eq, if_pos (cast_lt h), if_pos (by omega), succ_wrap h (by omega), ih (i + 1) _ (by omega) (by simp; omega), upFrom, List.append_assoc]; rfl
theorem impl_identity.ok (n : Nat) (hn : n ≤ 1000) : impl_identity.f.v n = some (ident n) := by
  rw [impl_identity.f.v_eq]
  have := impl_identity.ok_l n hn n 0 [] (by omega) (by simp)
  simpa [ident] using this

theorem slices_Clone_int_int.ok (l : List Int) (h : l.length ≤ 1048576) : slices_Clone_int_int.f l = some l := by
  unfold slices_Clone_int_int.f
  rw [if_pos (by omega)]

theorem slices_Delete_int_int.ok (l : List Int) (a b : Int) (h0 : 0 ≤ a) (h1 : a ≤ b) (h2 : b ≤ l.length) : slices_Delete_int_int.f l a b = some (l.take a.toNat ++ l.drop b.toNat) := by
  unfold slices_Delete_int_int.f
  rw [if_pos h0, if_pos h1, if_pos h2]

theorem impl_without.ok (l : List Int) (i : Int) (h : l.length ≤ 1048576) (h0 : 0 ≤ i) (h1 : i < l.length) : impl_without.f l i = some (woL l i) := by
  unfold impl_without.f
  rw [slices_Clone_int_int.ok l h, Option.bind_some, wrap_id (x := i + 1) (by omega) (by omega), slices_Delete_int_int.ok l i (i + 1) h0 (by omega) (by omega), Option.bind_some, show (i + 1).toNat = i.toNat + 1 by omega]
  rfl

theorem impl_OrderOfCode.ok_l (c : List Int) (hc : c.length ≤ 8) : ∀ (d i : Nat) (left acc : List Int), i + d = c.length → left.length + i = c.length → acc.length ≤ i → impl_OrderOfCode.l0.v left acc c c.length i = some (match ocGo left acc (c.drop i) with | some p => (p, true) | none => ([], false)) := by
  intro d
  induction d with
  | zero =>
    intro i left acc hd hl ha
    rw [impl_OrderOfCode.l0.v_eq, if_neg (cast_nlt (by omega)), List.drop_eq_nil_of_le (by omega)]; rfl
  | succ d ih =>
    intro i left acc hd hl ha
    have h : i < c.length := by omega
    rw [impl_OrderOfCode.l0.v_eq, if_pos (cast_lt h), if_pos (Int.natCast_nonneg i), if_pos (cast_lt h), succ_wrap h (by omega), wrap_id (x := (left.length : Int) - 1) (by omega) (by omega), drop_rd c i h, ocGo]
    unfold impl_between.f
    by_cases e : 0 ≤ rd c (i : Int)
    · by_cases e2 : rd c (i : Int) ≤ (left.length : Int) - 1
      · rw [if_pos (show rd c (i : Int) ≥ 0 from e), decide_eq_true e2, Option.bind_some, if_pos rfl, if_pos e, if_pos (by omega), if_pos (by omega), impl_without.ok left _ (by omega) e (by omega), Option.bind_some, if_pos ⟨e, e2⟩, ih (i + 1) _ _ (by omega) (by rw [woL_length _ _ e (by omega)]; omega) (by simp; omega)]
      · rw [if_pos (show rd c (i : Int) ≥ 0 from e), decide_eq_false e2, Option.bind_some, if_neg (by simp), if_neg (fun z => e2 z.2)]
    · rw [if_neg (show ¬ rd c (i : Int) ≥ 0 from e), Option.bind_some, if_neg (by simp), if_neg (fun z => e z.1)]
theorem impl_OrderOfCode.ok (c : List Int) : impl_OrderOfCode.f.v c = some (if 1 ≤ c.length ∧ c.length ≤ 8 then (match ocL c with | some p => (p, true) | none => ([], false)) else ([], false)) := by
  rw [impl_OrderOfCode.f.v_eq]
  unfold impl_between.f
  by_cases h1 : 1 ≤ c.length
  · by_cases h2 : c.length ≤ 8
    · rw [if_pos (by omega), decide_eq_true (by omega), Option.bind_some, if_pos rfl, if_pos ⟨h1, h2⟩, impl_identity.ok _ (by omega), Option.bind_some]
      have := impl_OrderOfCode.ok_l c h2 c.length 0 (ident c.length) [] (by omega) (by rw [ident_length]; omega) (by simp)
      simpa [ocL] using this
    · rw [if_pos (by omega), decide_eq_false (by omega), Option.bind_some, if_neg (by simp), if_neg (fun z => h2 z.2)]
  · rw [if_neg (by omega), Option.bind_some, if_neg (by simp), if_neg (fun z => h1 z.1)]

theorem laws_kHas.ok_l (l : List Int) (x : Int) (hl : l.length ≤ 1000) : ∀ (d i : Nat), i + d = l.length → laws_kHas.l0.v x l l.length i = some (decide (x ∈ l.drop i)) := by
  intro d
  induction d with
  | zero =>
    intro i hd
    rw [laws_kHas.l0.v_eq, if_neg (cast_nlt (by omega)), List.drop_eq_nil_of_le (by omega)]; simp
  | succ d ih =>
    intro i hd
    have h : i < l.length := by omega
    rw [laws_kHas.l0.v_eq, if_pos (cast_lt h), if_pos (Int.natCast_nonneg i), if_pos (cast_lt h), drop_rd l i h]
    by_cases e : rd l (i : Int) = x
    · rw [if_pos e, decide_eq_true (by rw [e]; exact List.mem_cons_self)]
    · rw [if_neg e, succ_wrap h (by omega), ih (i + 1) (by omega)]
      congr 1
      rw [decide_eq_decide, List.mem_cons]
      exact ⟨fun y => .inr y, fun y => y.resolve_left (fun z => e z.symm)⟩
theorem laws_kHas.ok (l : List Int) (x : Int) (hl : l.length ≤ 1000) : laws_kHas.f.v l x = some (decide (x ∈ l)) := by
  rw [laws_kHas.f.v_eq]
  have := laws_kHas.ok_l l x hl l.length 0 (by omega)
  simpa using this

theorem laws_kSame.ok_l (a b : List Int) (hab : a.length = b.length) (ha : a.length ≤ 1000) : ∀ (d i : Nat), i + d = a.length → laws_kSame.l0.v a b a.length i = some (decide (a.drop i = b.drop i)) := by
  intro d
  induction d with
  | zero =>
    intro i hd
    rw [laws_kSame.l0.v_eq, if_neg (cast_nlt (by omega)), List.drop_eq_nil_of_le (by omega), List.drop_eq_nil_of_le (by omega)]; rfl
  | succ d ih =>
    intro i hd
    have h : i < a.length := by omega
    rw [laws_kSame.l0.v_eq, if_pos (cast_lt h), if_pos (Int.natCast_nonneg i), if_pos (cast_lt h), if_pos (cast_lt (by omega)), succ_wrap h (by omega), ih (i + 1) (by omega), drop_rd a i h, drop_rd b i (by omega)]
    by_cases e : rd a (i : Int) = rd b (i : Int)
    · rw [if_pos e, e]
      congr 1
      rw [decide_eq_decide, List.cons.injEq]
      exact ⟨fun x => ⟨rfl, x⟩, fun x => x.2⟩
    · rw [if_neg e, decide_eq_false (fun x => e (List.cons.inj x).1)]
theorem laws_kSame.ok (a b : List Int) (hab : a.length = b.length) (ha : a.length ≤ 1000) : laws_kSame.f.v a b = some (decide (a = b)) := by
  rw [laws_kSame.f.v_eq, if_pos (by omega)]
  have := laws_kSame.ok_l a b hab ha a.length 0 (by omega)
  simpa using this
theorem laws_kSame.self (a : List Int) (ha : a.length ≤ 1000) : laws_kSame.f.v a a = some true := by
  rw [laws_kSame.ok a a rfl ha]; simp

theorem laws_kSum.ok_l (l : List Int) (hl : l.length ≤ 1000) (hb : ∀ x ∈ l, 0 ≤ x ∧ x ≤ 1000) : ∀ (d i : Nat) (s : Int), i + d = l.length → 0 ≤ s → s ≤ 1000 * i → laws_kSum.l0.v s l l.length i = some (s + sumL (l.drop i)) := by
  intro d
  induction d with
  | zero =>
    intro i s hd h0 h1
    rw [laws_kSum.l0.v_eq, if_neg (cast_nlt (by omega)), List.drop_eq_nil_of_le (by omega), sumL, Int.add_zero]
  | succ d ih =>
    intro i s hd h0 h1
    have h : i < l.length := by omega
    have hx := hb _ (rd_mem l i h)
    rw [laws_kSum.l0.v_eq, if_pos (cast_lt h), if_pos (Int.natCast_nonneg i), if_pos (cast_lt h), wrap_id (x := s + rd l (i : Int)) (by omega) (by omega), succ_wrap h (by omega), ih (i + 1) _ (by omega) (by omega) (by omega), drop_rd l i h, sumL, Int.add_assoc]
theorem laws_kSum.ok (l : List Int) (hl : l.length ≤ 1000) (hb : ∀ x ∈ l, 0 ≤ x ∧ x ≤ 1000) : laws_kSum.f.v l = some (sumL l) := by
  rw [laws_kSum.f.v_eq]
  have := laws_kSum.ok_l l hl hb l.length 0 0 (by omega) (by omega) (by omega)
  simpa using this

theorem spec_l1Has.ok_l (v : Int) (xs : List Int) (hn : xs.length ≤ 140737488355328) : ∀ (d i : Nat), xs.length - i = d → spec_l1Has.l0.v v xs xs.length i = some (decide (v ∈ xs.drop i)) := by
  intro d
  induction d with
  | zero =>
    intro i hd
    rw [spec_l1Has.l0.v_eq, if_neg (cast_nlt (by omega)), List.drop_eq_nil_of_le (by omega)]
    simp
  | succ d ih =>
    intro i hd
    have h : i < xs.length := by omega
    rw [spec_l1Has.l0.v_eq, if_pos (cast_lt h), if_pos (Int.natCast_nonneg i), if_pos (cast_lt h), succ_wrap h hn, ih (i + 1) (by omega), drop_rd xs i h]
    by_cases e : rd xs (i : Int) = v
    · rw [if_pos e]; simp [e]
    · have e' : ¬ v = rd xs (i : Int) := fun h => e h.symm
      rw [if_neg e]; simp [e']
theorem spec_l1Has.ok (v : Int) (xs : List Int) (hn : xs.length ≤ 140737488355328) : spec_l1Has.f.v xs v = some (decide (v ∈ xs)) := by
  rw [spec_l1Has.f.v_eq]
  have := spec_l1Has.ok_l v xs hn xs.length 0 (by omega)
  simpa using this

theorem spec_laOrder.ok_l (p : List Int) (hn : p.length ≤ 8) : ∀ (d i : Nat), p.length - i = d → spec_laOrder.l0.v p p p.length i = some (ordGo p.length (p.take i) (p.drop i)) := by
  intro d
  induction d with
  | zero =>
    intro i hd
    rw [spec_laOrder.l0.v_eq, if_neg (cast_nlt (by omega)), List.drop_eq_nil_of_le (by omega)]
    rfl
  | succ d ih =>
    intro i hd
    have h : i < p.length := by omega
    rw [spec_laOrder.l0.v_eq, if_pos (cast_lt h), if_pos (Int.natCast_nonneg i), if_pos (cast_lt h), succ_wrap h (by omega), ih (i + 1) (by omega), drop_rd p i h, take_rd p i h]
    rw [wrap_id (x := (p.length : Int) - 1) (by omega) (by omega), toNat_cast, spec_l1Has.ok _ _ (by rw [List.length_take]; omega)]
    unfold spec_l1In.f
    rw [ordGo_cons]
    by_cases a : 0 ≤ rd p (i : Int)
    · by_cases b : rd p (i : Int) ≤ (p.length : Int) - 1
      · have hi : (i : Int) ≤ (p.length : Int) := by omega
        by_cases c : rd p (i : Int) ∈ p.take i
        · simp only [ge_iff_le, a, b, c, hi, decide_true, decide_false, if_true, if_false, Option.bind_some, true_and, and_true, and_self, Bool.false_eq_true]
        · simp only [ge_iff_le, a, b, c, hi, decide_true, decide_false, if_true, if_false, Option.bind_some, true_and, and_true, and_self, Bool.false_eq_true]
      · simp [a, b]
    · simp [a]
theorem spec_laOrder.ok (p : List Int) : spec_laOrder.f.v p = some (isOrd p) := by
  rw [spec_laOrder.f.v_eq]
  unfold spec_l1In.f isOrd
  by_cases h : 1 ≤ p.length ∧ p.length ≤ 8
  · have := spec_laOrder.ok_l p h.2 p.length 0 (by omega)
    have h1 : (p.length : Int) ≥ 1 := by omega
    have h2 : (p.length : Int) ≤ 8 := by omega
    rw [if_pos h1, if_pos h, decide_eq_true h2]
    simpa using this
  · rw [if_neg h]
    by_cases h1 : (p.length : Int) ≥ 1
    · have h2 : ¬ (p.length : Int) ≤ 8 := by omega
      rw [if_pos h1, decide_eq_false h2]; rfl
    · rw [if_neg h1]; rfl

theorem spec_CodeOf.ok_i (p : List Int) (hp : p.length ≤ 8) (acc : List Int) (i : Nat) (ys : List Int) (hy : ys.length ≤ 8) (hi : i < p.length) (ha : acc.length ≤ 8) : ∀ (d j c : Nat), j + d = ys.length → c ≤ j → spec_CodeOf.l1.v p acc (rd p (i : Int)) c p p.length i ys ys.length j = spec_CodeOf.l0.v p (acc ++ [((c + fewer (rd p (i : Int)) (ys.drop j) : Nat) : Int)]) p p.length ((i + 1 : Nat) : Int) := by
  intro d
  induction d with
  | zero =>
    intro j c hd hc
    rw [spec_CodeOf.l1.v_eq, if_neg (cast_nlt (by omega)), if_pos (by omega), succ_wrap hi (by omega), List.drop_eq_nil_of_le (by omega), fewer]; rfl
  | succ d ih =>
    intro j c hd hc
    have h : j < ys.length := by omega
    rw [spec_CodeOf.l1.v_eq, if_pos (cast_lt h), if_pos (Int.natCast_nonneg j), if_pos (cast_lt h), succ_wrap h (by omega), drop_rd ys j h, fewer]
    by_cases e : rd ys (j : Int) < rd p (i : Int)
    · rw [if_pos e, if_pos e, wrap_id (x := (c : Int) + 1) (by omega) (by omega), show (c : Int) + 1 = ((c + 1 : Nat) : Int) by omega, ih (j + 1) (c + 1) (by omega) (by omega), Nat.add_assoc]
    · rw [if_neg e, if_neg e, ih (j + 1) c (by omega) (by omega), Nat.zero_add]
theorem spec_CodeOf.ok_o (p : List Int) (hp : p.length ≤ 8) : ∀ (d i : Nat) (acc : List Int), i + d = p.length → acc.length ≤ i → spec_CodeOf.l0.v p acc p p.length i = some (acc ++ codeGo p d i, true) := by
  intro d
  induction d with
  | zero =>
    intro i acc hd ha
    rw [spec_CodeOf.l0.v_eq, if_neg (cast_nlt (by omega)), codeGo, List.append_nil]
  | succ d ih =>
    intro i acc hd ha
    have h : i < p.length := by omega
    have h2 := spec_CodeOf.ok_i p hp acc i (p.drop (i + 1)) (by rw [List.length_drop]; omega) h (by omega) (p.drop (i + 1)).length 0 0 (by omega) (by omega)
    rw [spec_CodeOf.l0.v_eq, if_pos (cast_lt h), if_pos (Int.natCast_nonneg i), if_pos (cast_lt h), succ_wrap h (by omega), if_pos (Int.natCast_nonneg _), if_pos (by omega), toNat_cast, Option.bind_some]
    rw [show ((0 : Nat) : Int) = 0 from rfl] at h2
    rw [h2, ih (i + 1) _ (by omega) (by simp; omega), List.drop_zero, fewer_row p i (p.length - (i + 1)) (i + 1) (by omega), Nat.zero_add, codeGo, List.append_assoc]
    rfl
theorem spec_CodeOf.ok (p : List Int) : spec_CodeOf.f.v p = some (if isOrd p = true then (codeL p, true) else ([], false)) := by
  rw [spec_CodeOf.f.v_eq, spec_laOrder.ok, Option.bind_some]
  by_cases h : isOrd p = true
  · have hl := isOrd_len h
    rw [if_pos h, if_pos h]
    have := spec_CodeOf.ok_o p hl.2 p.length 0 [] (by omega) (by simp)
    simpa [codeL] using this
  · rw [if_neg h, if_neg h]

theorem spec_l1Cur_next.ok (c : List Int) (hc : isCode c) (at_ s : Int) (h0 : 0 ≤ at_) (h1 : at_ ≤ 1000000000) : ∃ b s', spec_l1Cur_next.f c at_ s = some (b, at_ + 1, s') ∧ 0 ≤ b ∧ b ≤ 255 := by
  unfold spec_l1Cur_next.f
  rw [wrap_id (x := at_ + 1) (by omega) (by omega)]
  by_cases e : at_ < (c.length : Int)
  · have hb : 0 ≤ rd c at_ ∧ rd c at_ ≤ 255 := by
      have := rd_mem c at_.toNat (by omega)
      rw [Int.toNat_of_nonneg h0] at this
      exact hc.1 _ this
    rw [if_pos e, if_pos h0, if_pos (by omega), wrap_id (x := rd c at_) (by omega) (by omega)]
    exact ⟨_, _, rfl, hb.1, hb.2⟩
  · rw [if_neg e, if_neg (by omega)]
    exact ⟨_, _, rfl, (top_byte _).1, (top_byte _).2⟩

theorem spec_l1Cur_pick.ok (c : List Int) (hc : isCode c) (at_ s n : Int) (h0 : 0 ≤ at_) (h1 : at_ ≤ 100000000) (hn : 1 ≤ n) (hn2 : n ≤ 200) : ∃ x a' s', spec_l1Cur_pick.f c at_ s n = some (x, a', s') ∧ 0 ≤ x ∧ x < n ∧ 0 ≤ a' ∧ a' ≤ at_ + 1 := by
  unfold spec_l1Cur_pick.f
  by_cases e : n ≤ 1
  · rw [if_pos e]
    exact ⟨_, _, _, rfl, by omega, by omega, by omega, by omega⟩
  · obtain ⟨b, s', hf, hb0, hb1⟩ := spec_l1Cur_next.ok c hc at_ s h0 (by omega)
    rw [if_neg e, hf, Option.bind_some, if_neg (by omega), if_neg (by omega)]
    have := tmod_lt b n hb0 (by omega)
    exact ⟨_, _, _, rfl, this.1, this.2, by dsimp only; omega, by dsimp only; omega⟩

theorem spec_l1Cur_among.ok (c : List Int) (hc : isCode c) (at_ s : Int) (l : List Int) (h0 : 0 ≤ at_) (h1 : at_ ≤ 100000000) (hn : 1 ≤ l.length) (hn2 : l.length ≤ 200) : ∃ x a' s', spec_l1Cur_among.f c at_ s l = some (x, a', s') ∧ 0 ≤ a' ∧ a' ≤ at_ + 1 := by
  unfold spec_l1Cur_among.f
  obtain ⟨x, a', s', hf, x0, x1, a0, a1⟩ := spec_l1Cur_pick.ok c hc at_ s l.length h0 h1 (by omega) (by omega)
  rw [hf, Option.bind_some, if_pos x0, if_pos x1]
  exact ⟨_, _, _, rfl, a0, a1⟩

theorem spec_l1Own.ok (l : List Int) (h : l.length ≤ 1048576) : spec_l1Own.f l = some l := by
  unfold spec_l1Own.f
  rw [Option.bind_some, if_pos (by simp; omega)]; rfl

theorem spec_l1Cur_sureOrder.ok_l (c : List Int) (hc : isCode c) (n m : Int) (hn : n ≤ 100) (hm : m ≤ 50000000) : ∀ (d : Nat) (p : List Int) (x : Int) (at_ s : Int), x + d = n → 0 ≤ x → (p.length : Int) = x → 0 ≤ at_ → at_ ≤ m + x → ∃ q a' s', spec_l1Cur_sureOrder.l0.v n p x c at_ s = some (q, a', s') ∧ (q.length : Int) = n ∧ 0 ≤ a' ∧ a' ≤ m + n := by
  intro d
  induction d with
  | zero =>
    intro p x at_ s hd h0 hp a0 a1
    rw [spec_l1Cur_sureOrder.l0.v_eq, if_neg (by omega)]
    exact ⟨_, _, _, rfl, by omega, a0, by omega⟩
  | succ d ih =>
    intro p x at_ s hd h0 hp a0 a1
    obtain ⟨y, a', s', hf, y0, y1, b0, b1⟩ := spec_l1Cur_pick.ok c hc at_ s (p.length + 1) a0 (by omega) (by omega) (by omega)
    rw [spec_l1Cur_sureOrder.l0.v_eq, if_pos (by omega), wrap_id (x := (p.length : Int) + 1) (by omega) (by omega), hf, Option.bind_some]
    simp only []
    rw [if_pos y0, if_pos (by omega), spec_l1Own.ok _ (by rw [List.length_take]; omega), Option.bind_some, if_pos (by rw [List.length_take]; omega), Option.bind_some, Option.bind_some, if_pos (by simp; omega), wrap_id (x := x + 1) (by omega) (by omega)]
    exact ih _ (x + 1) a' s' (by omega) (by omega) (by simp; omega) b0 (by omega)
theorem spec_l1Cur_sureOrder.ok (c : List Int) (hc : isCode c) (at_ s n : Int) (h0 : 0 ≤ n) (hn : n ≤ 100) (a0 : 0 ≤ at_) (m : Int) (hm : m ≤ 50000000) (a1 : at_ ≤ m) : ∃ q a' s', spec_l1Cur_sureOrder.f.v c at_ s n = some (q, a', s') ∧ (q.length : Int) = n ∧ 0 ≤ a' ∧ a' ≤ m + n := by
  rw [spec_l1Cur_sureOrder.f.v_eq]
  exact spec_l1Cur_sureOrder.ok_l c hc n m hn hm n.toNat [] 0 at_ s (by omega) (by omega) (by simp) a0 (by omega)

theorem spec_l1Cur_order.ok (c : List Int) (hc : isCode c) (at_ s : Int) (a0 : 0 ≤ at_) (a1 : at_ ≤ 1000) : ∃ q a' s', spec_l1Cur_order.f.v c at_ s = some (q, a', s') ∧ q.length ≤ 200 ∧ 0 ≤ a' ∧ a' ≤ 10000000 := by
  rw [spec_l1Cur_order.f.v_eq]
  obtain ⟨x, b, t, hf, x0, x1, b0, b1⟩ := spec_l1Cur_pick.ok c hc at_ s 6 a0 (by omega) (by omega) (by omega)
  rw [hf, Option.bind_some]
  simp only []
  obtain ⟨q, b2, t2, hf2, ql, c0, c1⟩ := spec_l1Cur_sureOrder.ok c hc b t (1 + x) (by omega) (by omega) b0 1001 (by omega) (by omega)
  rw [wrap_id (x := 1 + x) (by omega) (by omega), hf2, Option.bind_some]
  simp only []
  obtain ⟨y, b3, t3, hf3, y0, y1, d0, d1⟩ := spec_l1Cur_pick.ok c hc b2 t2 14 c0 (by omega) (by omega) (by omega)
  rw [hf3, Option.bind_some]
  simp only []
  by_cases e0 : y = 0
  · rw [if_pos e0]
    obtain ⟨z, b4, t4, hf4, z0, z1, g0, g1⟩ := spec_l1Cur_pick.ok c hc b3 t3 q.length d0 (by omega) (by omega) (by omega)
    rw [hf4, Option.bind_some]
    simp only []
    obtain ⟨u, b5, t5, hf5, k0, k1⟩ := spec_l1Cur_among.ok c hc b4 t4 [-1, 0, (q.length : Int), 4611686018427387904] g0 (by omega) (by simp) (by simp)
    rw [hf5, Option.bind_some]
    simp only []
    rw [if_pos z0, if_pos z1]
    exact ⟨_, _, _, rfl, by rw [List.length_set]; omega, k0, by omega⟩
  · rw [if_neg e0]
    by_cases e1 : y = 1
    · rw [if_pos e1]
      exact ⟨_, _, _, rfl, by simp, d0, by omega⟩
    · rw [if_neg e1]
      by_cases e2 : y = 2
      · rw [if_pos e2]
        obtain ⟨z, b4, t4, hf4, z0, z1, g0, g1⟩ := spec_l1Cur_pick.ok c hc b3 t3 2 d0 (by omega) (by omega) (by omega)
        rw [hf4, Option.bind_some]
        simp only []
        obtain ⟨q2, b5, t5, hf5, ql2, k0, k1⟩ := spec_l1Cur_sureOrder.ok c hc b4 t4 (8 + z) (by omega) (by omega) g0 100000 (by omega) (by omega)
        rw [wrap_id (x := 8 + z) (by omega) (by omega), hf5, Option.bind_some]
        exact ⟨_, _, _, rfl, by dsimp only; omega, k0, by dsimp only; omega⟩
      · rw [if_neg e2]
        exact ⟨_, _, _, rfl, by omega, d0, by omega⟩

theorem spec_DrawIsOrder.ok (c : List Int) (hc : isCode c) : ∃ q, spec_DrawIsOrder.f.v c = some q ∧ q.length ≤ 200 := by
  obtain ⟨q, a', s', hf, hq, _, _⟩ := spec_l1Cur_order.ok c hc 0 0 (by omega) (by omega)
  rw [spec_DrawIsOrder.f.v_eq, hf]
  exact ⟨_, rfl, hq⟩

theorem spec_DrawCodeOf.ok (c : List Int) (hc : isCode c) : ∃ q, spec_DrawCodeOf.f.v c = some q ∧ q.length ≤ 200 := by
  obtain ⟨q, hf, hq⟩ := spec_DrawIsOrder.ok c hc
  rw [spec_DrawCodeOf.f.v_eq, hf]
  exact ⟨_, rfl, hq⟩

theorem spec_DrawOrderOfCode.ok_l (c : List Int) (hc : isCode c) : ∀ (k : Nat) (p : List Int) (at_ s : Int), p.length + k ≤ 100 → 1 ≤ p.length + k → 0 ≤ at_ → at_ ≤ 10000 - k → ∃ q, spec_DrawOrderOfCode.l0.v p k c at_ s = some q ∧ q.length ≤ 200 := by
  intro k
  induction k with
  | zero =>
    intro p at_ s hk h1 a0 a1
    rw [spec_DrawOrderOfCode.l0.v_eq, if_neg (by omega)]
    obtain ⟨y, b3, t3, hf3, y0, y1, d0, d1⟩ := spec_l1Cur_pick.ok c hc at_ s 12 a0 (by omega) (by omega) (by omega)
    rw [hf3, Option.bind_some]
    simp only []
    by_cases e0 : y = 0
    · rw [if_pos e0]
      obtain ⟨z, b4, t4, hf4, z0, z1, g0, g1⟩ := spec_l1Cur_pick.ok c hc b3 t3 p.length d0 (by omega) (by omega) (by omega)
      rw [hf4, Option.bind_some]
      simp only []
      obtain ⟨u, b5, t5, hf5, k0, k1⟩ := spec_l1Cur_among.ok c hc b4 t4 [-1, (p.length : Int), 4611686018427387904] g0 (by omega) (by simp) (by simp)
      rw [hf5, Option.bind_some]
      simp only []
      rw [if_pos z0, if_pos z1]
      exact ⟨_, rfl, by rw [List.length_set]; omega⟩
    · rw [if_neg e0]
      by_cases e1 : y = 1
      · rw [if_pos e1]
        exact ⟨_, rfl, by simp⟩
      · rw [if_neg e1]
        by_cases e2 : y = 2
        · rw [if_pos e2]
          obtain ⟨z, b4, t4, hf4, z0, z1, g0, g1⟩ := spec_l1Cur_pick.ok c hc b3 t3 2 d0 (by omega) (by omega) (by omega)
          rw [hf4, Option.bind_some]
          simp only []
          rw [wrap_id (x := 8 + z) (by omega) (by omega), if_pos (by omega), if_pos (by omega)]
          exact ⟨_, rfl, by rw [List.length_replicate]; omega⟩
        · rw [if_neg e2]
          exact ⟨_, rfl, by omega⟩
  | succ k ih =>
    intro p at_ s hk h1 a0 a1
    obtain ⟨y, b3, t3, hf3, y0, y1, d0, d1⟩ := spec_l1Cur_pick.ok c hc at_ s ((k + 1 : Nat) : Int) a0 (by omega) (by omega) (by omega)
    rw [spec_DrawOrderOfCode.l0.v_eq, if_pos (by omega), hf3, Option.bind_some]
    simp only []
    rw [if_pos (by omega), wrap_id (x := ((k + 1 : Nat) : Int) - 1) (by omega) (by omega), show ((k + 1 : Nat) : Int) - 1 = (k : Int) by omega]
    exact ih _ b3 t3 (by simp; omega) (by simp; omega) d0 (by omega)
theorem spec_DrawOrderOfCode.ok (c : List Int) (hc : isCode c) : ∃ q, spec_DrawOrderOfCode.f.v c = some q ∧ q.length ≤ 200 := by
  obtain ⟨y, b3, t3, hf3, y0, y1, d0, d1⟩ := spec_l1Cur_pick.ok c hc 0 0 6 (by omega) (by omega) (by omega) (by omega)
  rw [spec_DrawOrderOfCode.f.v_eq, hf3, Option.bind_some]
  simp only []
  rw [wrap_id (x := 1 + y) (by omega) (by omega), show 1 + y = (((1 + y).toNat : Nat) : Int) by omega]
  exact spec_DrawOrderOfCode.ok_l c hc (1 + y).toNat [] b3 t3 (by simp; omega) (by simp; omega) d0 (by omega)

theorem spec_OrderOfCode.ok_i (c : List Int) (hc : c.length ≤ 8) : ∀ (d i : Nat) (left acc : List Int), i + d = c.length → left.length + i = c.length → acc.length ≤ i → spec_OrderOfCode.l1.v c left acc c c.length i = some (match ocGo left acc (c.drop i) with | some p => (p, true) | none => ([], false)) := by
  intro d
  induction d with
  | zero =>
    intro i left acc hd hl ha
    rw [spec_OrderOfCode.l1.v_eq, if_neg (cast_nlt (by omega)), List.drop_eq_nil_of_le (by omega)]; rfl
  | succ d ih =>
    intro i left acc hd hl ha
    have h : i < c.length := by omega
    rw [spec_OrderOfCode.l1.v_eq, if_pos (cast_lt h), if_pos (Int.natCast_nonneg i), if_pos (cast_lt h), succ_wrap h (by omega), wrap_id (x := (c.length : Int) - 1) (by omega) (by omega), wrap_id (x := (c.length : Int) - 1 - (i : Int)) (by omega) (by omega), show (c.length : Int) - 1 - (i : Int) = (left.length : Int) - 1 by omega, drop_rd c i h, ocGo]
    unfold spec_l1In.f
    by_cases e : 0 ≤ rd c (i : Int)
    · by_cases e2 : rd c (i : Int) ≤ (left.length : Int) - 1
      · have q1 : rd c (i : Int) < (left.length : Int) := by omega
        have q2 : rd c (i : Int) ≤ (left.length : Int) := by omega
        have q3 : wrap64 (rd c (i : Int) + 1) = rd c (i : Int) + 1 := wrap_id (by omega) (by omega)
        rw [if_pos (show rd c (i : Int) ≥ 0 from e), decide_eq_true e2, Option.bind_some, if_pos rfl, if_pos e, if_pos q1, if_pos (by omega), if_pos q2, spec_l1Own.ok _ (by rw [List.length_take]; omega), Option.bind_some, q3, if_pos (by omega), if_pos (by omega), Option.bind_some, if_pos (by rw [List.length_take, List.length_drop]; omega), if_pos ⟨e, e2⟩, show (rd c (i : Int) + 1).toNat = (rd c (i : Int)).toNat + 1 by omega]
        have hw : left.take (rd c (i : Int)).toNat ++ left.drop ((rd c (i : Int)).toNat + 1) = woL left (rd c (i : Int)) := rfl
        rw [hw, ih (i + 1) _ _ (by omega) (by rw [woL_length _ _ e q1]; omega) (by simp; omega)]
      · rw [if_pos (show rd c (i : Int) ≥ 0 from e), decide_eq_false e2, Option.bind_some, if_neg (by simp), if_neg (fun z => e2 z.2)]
    · rw [if_neg (show ¬ rd c (i : Int) ≥ 0 from e), Option.bind_some, if_neg (by simp), if_neg (fun z => e z.1)]
theorem spec_OrderOfCode.ok_o (c : List Int) (hc : c.length ≤ 8) : ∀ (d i : Nat) (left : List Int), i + d = c.length → left.length = i → spec_OrderOfCode.l0.v c left c.length i = spec_OrderOfCode.l1.v c (left ++ upFrom d i) [] c c.length ((0 : Nat) : Int) := by
  intro d
  induction d with
  | zero =>
    intro i left hd hl
    rw [spec_OrderOfCode.l0.v_eq, if_neg (cast_nlt (by omega)), upFrom, List.append_nil]; rfl
  | succ d ih =>
    intro i left hd hl
    have h : i < c.length := by omega
    rw [spec_OrderOfCode.l0.v_eq, if_pos (cast_lt h), if_pos (by omega), succ_wrap h (by omega), ih (i + 1) _ (by omega) (by simp; omega), upFrom, List.append_assoc]; rfl
theorem spec_OrderOfCode.ok (c : List Int) : spec_OrderOfCode.f.v c = some (if 1 ≤ c.length ∧ c.length ≤ 8 then (match ocL c with | some p => (p, true) | none => ([], false)) else ([], false)) := by
  rw [spec_OrderOfCode.f.v_eq]
  unfold spec_l1In.f
  by_cases h1 : 1 ≤ c.length
  · by_cases h2 : c.length ≤ 8
    · rw [if_pos (by omega), decide_eq_true (by omega), Option.bind_some, if_pos rfl, if_pos ⟨h1, h2⟩]
      have h0 := spec_OrderOfCode.ok_o c h2 c.length 0 [] (by omega) rfl
      rw [show ((0 : Nat) : Int) = 0 from rfl] at h0
      rw [h0]
      have := spec_OrderOfCode.ok_i c h2 c.length 0 (ident c.length) [] (by omega) (by rw [ident_length]; omega) (by simp)
      simpa [ocL, ident] using this
    · rw [if_pos (by omega), decide_eq_false (by omega), Option.bind_some, if_neg (by simp), if_neg (fun z => h2 z.2)]
  · rw [if_neg (by omega), Option.bind_some, if_neg (by simp), if_neg (fun z => h1 z.1)]

theorem codes_j4 (q : List Int) (hq : q.length ≤ 200) : ∃ r b, impl_OrderOfCode.f.v q = some (r, b) ∧ spec_OrderOfCode.f.v q = some (r, b) ∧ r.length ≤ 200 ∧ laws_FnCodesOfOrders.j4.v q r b false = some true := by
  rw [impl_OrderOfCode.ok, spec_OrderOfCode.ok]
  by_cases h : 1 ≤ q.length ∧ q.length ≤ 8
  · rw [if_pos h]
    cases e : ocL q with
    | none => exact ⟨_, _, rfl, rfl, by simp, by rw [laws_FnCodesOfOrders.j4.v_eq, if_neg (by simp), if_neg (by simp)]⟩
    | some p =>
      obtain ⟨h1, h2⟩ := codeL_ocL h.1 h.2 e
      have hl := ocL_length e
      refine ⟨_, _, rfl, rfl, by omega, ?_⟩
      rw [laws_FnCodesOfOrders.j4.v_eq, if_neg (by simp), if_pos rfl, impl_CodeOf.ok, if_pos h2, Option.bind_some]
      simp only [if_true]
      rw [h1, laws_kSame.self q (by omega), Option.bind_some, if_pos rfl, impl_IsOrder.ok, h2]; rfl
  · rw [if_neg h]
    exact ⟨_, _, rfl, rfl, by simp, by rw [laws_FnCodesOfOrders.j4.v_eq, if_neg (by simp), if_neg (by simp)]⟩
theorem codes_j3 (c : List Int) (hc : isCode c) : laws_FnCodesOfOrders.j3.v c = some true := by
  obtain ⟨q, hf, hq⟩ := spec_DrawOrderOfCode.ok c hc
  obtain ⟨r, b, h1, h2, h3, h4⟩ := codes_j4 q hq
  rw [laws_FnCodesOfOrders.j3.v_eq, hf, Option.bind_some, h1, Option.bind_some, h2, Option.bind_some]
  simp only [bne_self_eq_false, Bool.false_eq_true, if_false]
  rw [laws_kSame.self r (by omega), Option.bind_some]
  exact h4
theorem codes_l0 (c : List Int) (hc : isCode c) (p : List Int) (hp : isOrd p = true) : ∀ (d i : Nat), i + 1 + d = p.length → laws_FnCodesOfOrders.l0.v c p (codeL p) (desc p) i = some true := by
  have h8 := isOrd_len hp
  intro d
  induction d with
  | zero =>
    intro i hd
    rw [laws_FnCodesOfOrders.l0.v_eq, succ_wrap (show i < p.length by omega) (by omega), if_neg (cast_nlt (by omega)), codes_j3 c hc]
  | succ d ih =>
    intro i hd
    have e : decide ((i : Int) ∈ desc p) = decide (rd (codeL p) (i : Int) > rd (codeL p) ((i + 1 : Nat) : Int)) := by
      rw [decide_eq_decide, desc_iff p i (by omega), code_falls p (isOrd_all hp).2 i (by omega)]
    have hd' := desc_length p
    rw [laws_FnCodesOfOrders.l0.v_eq, succ_wrap (show i < p.length by omega) (by omega), if_pos (cast_lt (by omega)), laws_kHas.ok _ _ (by omega), Option.bind_some, if_pos (Int.natCast_nonneg i), if_pos (by rw [codeL_length]; exact cast_lt (by omega)), if_pos (Int.natCast_nonneg _), if_pos (by rw [codeL_length]; exact cast_lt (by omega)), e, bne_self_eq_false, if_neg (by simp)]
    exact ih (i + 1) (by omega)
theorem FnCodesOfOrders : laws_FnCodesOfOrders.Pure := by
  intro l0 l1 _ _ h0 _ _ h1
  refine laws_FnCodesOfOrders.f.ends l0 l1 ?_
  rw [laws_FnCodesOfOrders.f.v_eq]
  unfold laws_big.f
  by_cases e0 : (l0.length : Int) > 1048576
  · rw [if_pos e0, Option.bind_some, if_pos rfl]
  · rw [if_neg e0, Option.bind_some, wrap_id (x := 1048576 - (l0.length : Int)) (by omega) (by omega)]
    by_cases e1 : (l1.length : Int) > 1048576 - (l0.length : Int)
    · rw [decide_eq_true e1, if_pos rfl]
    · have c0 : isCode l0 := ⟨fun x hx => u8_bounds (h0 x hx), by omega⟩
      have c1 : isCode l1 := ⟨fun x hx => u8_bounds (h1 x hx), by omega⟩
      obtain ⟨p, hf, hp⟩ := spec_DrawCodeOf.ok l0 c0
      rw [decide_eq_false e1, if_neg (by simp), hf, Option.bind_some, impl_CodeOf.ok, spec_CodeOf.ok, impl_IsOrder.ok]
      by_cases ho : isOrd p = true
      · have h8 := isOrd_len ho
        have hcl := codeL_length p
        rw [if_pos ho, ho]
        simp only [Option.bind_some, bne_self_eq_false, Bool.false_eq_true, if_false]
        rw [laws_kSame.self _ (by omega), Option.bind_some, if_pos rfl, laws_FnCodesOfOrders.j0.v_eq, if_neg (by simp), if_pos rfl, impl_OrderOfCode.ok, if_pos ⟨by omega, by omega⟩, ocL_codeL ho, impl_InversionsOf.ok, impl_DescentsOf.ok, if_pos ho, if_pos ho]
        simp only [Option.bind_some, if_true]
        have hs : sumL (codeL p) = ((invs p).length : Int) := by rw [codeL_R, sum_codeR, invs_invC]
        rw [laws_kSame.self _ (by omega), Option.bind_some, if_pos rfl, laws_kSum.ok _ (by omega) (fun x hx => ?_), Option.bind_some, hs, if_pos rfl]
        · rw [laws_FnCodesOfOrders.j1.v_eq, if_neg (by simp)]
          exact codes_l0 l1 c1 p ho (p.length - 1) 0 (by omega)
        · rw [codeL_R] at hx
          have := codeR_bounds p x hx
          omega
      · have hn : isOrd p = false := by simpa using ho
        rw [if_neg ho, hn]
        simp only [Option.bind_some, bne_self_eq_false, Bool.false_eq_true, if_false]
        rw [laws_kSame.self _ (by simp), Option.bind_some, if_pos rfl, laws_FnCodesOfOrders.j0.v_eq, if_neg (by simp), if_neg (by simp)]
        exact codes_j3 l1 c1

end Go.Proofs.Ytmpdkpggahkogaa.Pure
