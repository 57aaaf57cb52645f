/- laws.FnLaddersChanged answers true for all arguments: the plain law behind its walk. -/
import Derived.Test.YtlmiiijjjcddkaaGreatDoorVLgx1
import Derived.Test.YtlmiiijjjcddkaaGreatDoorVLgx2
import Derived.Test.YtlmiiijjjcddkaaGreatDoorVLgx3
import Derived.Test.YtlmiiijjjcddkaaGreatDoorVLgx4
import Derived.Test.YtlmiiijjjcddkaaGreatDoorVLgx5
import Derived.Test.YtlmiiijjjcddkaaGreatDoorVLgx6
import Derived.Test.YtlmiiijjjcddkaaGreatDoorVLgx7
import Derived.Test.YtlmiiijjjcddkaaGreatDoorVLgx8
import Derived.Test.YtlmiiijjjcddkaaGreatDoorVLgx9
import Derived.Test.YtlmiiijjjcddkaaGreatDoorWalkFnLaddersChangedA
import Derived.Test.YtlmiiijjjcddkaaGreatDoorLibFnLaddersChanged
namespace Go.Proofs.YtlmiiijjjcddkaaGreatDoor.Pure
open Go.RowKit Go.Proofs.YtlmiiijjjcddkaaGreatDoor.PLg Go.Proofs.YtlmiiijjjcddkaaGreatDoorW.PrintWords Go.Proofs.YtlmiiijjjcddkaaGreatDoorW.PrintLast Go.Proofs.YtlmiiijjjcddkaaGreatDoorW.PrintMore Go.Proofs.YtlmiiijjjcddkaaGreatDoorL
set_option linter.unusedVariables false
set_option linter.unusedSimpArgs false
theorem impl_isLadder.ok (n : Int) (l : List Int) : impl_isLadder.f n l = some (good n l) := by
 unfold impl_isLadder.f good
 have h : (!(l.any (impl_isLadder.bad n))) = l.all (inB n) := by
  rw [List.not_any_eq_all_not]
  congr 1; funext x
  unfold impl_isLadder.bad inB
  exact Bool.not_not _
 rw [h]
theorem impl_checked.ok (n : Int) (l : List Int) : impl_checked.f n l = some (if good n l = true then (n, l, true) else (0, [], false)) := by
 unfold impl_checked.f
 rw [impl_isLadder.ok, Option.bind_some]
 by_cases h : good n l = true
 ·rw [if_pos h, if_pos h]
 ·rw [if_neg h, if_neg h]
theorem slices_Clone_int_int.ok (l : List Int) (h : l.length ≤ 1048576) : slices_Clone_int_int.f l = some l := by
 unfold slices_Clone_int_int.f
 rw [if_pos (by omega)]
theorem slices_Insert_int_int.ok (l : List Int) (a x : Int) (h0 : 0 ≤ a) (h1 : a ≤ l.length) (hl : l.length ≤ 1000) : slices_Insert_int_int.f l a [x] = some (addL l a x) := by
 unfold slices_Insert_int_int.f
 rw [if_pos h0, if_pos h1, if_pos (by simp), if_pos (by simp; omega)]
 rfl
theorem impl_AddRung.ok (n : Int) (l : List Int) (a x : Int) : impl_AddRung.f.v n l a x = some (if good n l = true ∧ 0 ≤ a ∧ a ≤ l.length ∧ good n (addL l a x) = true then (n, addL l a x, true) else (0, [], false)) := by
 rw [impl_AddRung.f.v_eq, impl_isLadder.ok, Option.bind_some]
 by_cases h : good n l = true
 ·have g := good_iff.1 h
  rw [if_pos h]
  unfold impl_between.f
  by_cases h0 : 0 ≤ a
  ·rw [if_pos h0, Option.bind_some]
   by_cases h1 : a ≤ l.length
   ·rw [decide_eq_true h1, impl_AddRung.j0.v_eq, if_neg (by simp), slices_Clone_int_int.ok l (by omega), Option.bind_some, slices_Insert_int_int.ok l a x h0 h1 (by omega), Option.bind_some, impl_checked.ok, Option.bind_some]
    by_cases h2 : good n (addL l a x) = true
    ·rw [if_pos h2, if_pos ⟨h, h0, h1, h2⟩]
    ·rw [if_neg h2, if_neg (fun x => h2 x.2.2.2)]
   ·rw [decide_eq_false h1, impl_AddRung.j0.v_eq, if_pos (by simp), if_neg (fun x => h1 x.2.2.1)]
  ·rw [if_neg h0, Option.bind_some, impl_AddRung.j0.v_eq, if_pos (by simp), if_neg (fun x => h0 x.2.1)]
 ·rw [if_neg h, impl_AddRung.j0.v_eq, if_pos rfl, if_neg (fun x => h x.1)]
theorem impl_back.ok_l (p : List Int) (hp : isOrd p = true) : ∀ (d i : Nat) (acc : List Int), i + d = p.length → acc.length = p.length → impl_back.l0.v acc p p.length i = some (backGo p d i acc) := by
 have hl := isOrd_len hp
 intro d
 induction d with
 | zero =>
  intro i acc hd ha
  rw [impl_back.l0.v_eq, if_neg (cast_nlt (by omega)), backGo]
 | succ d ih =>
  intro i acc hd ha
  have h : i < p.length := by omega
  obtain ⟨h1, h2⟩ := isOrd_rd hp i h
  rw [impl_back.l0.v_eq, if_pos (cast_lt h), if_pos (Int.natCast_nonneg i), if_pos (cast_lt h), if_pos h1, if_pos (by omega), succ_wrap h (by omega), ih (i + 1) _ (by omega) (by rw [List.length_set]; exact ha), backGo]
theorem impl_back.ok (p : List Int) (hp : isOrd p = true) : impl_back.f.v p = some (backL p) := by
 have hl := isOrd_len hp
 rw [impl_back.f.v_eq, if_pos (Int.natCast_nonneg _), toNat_cast, if_pos (by omega)]
 exact impl_back.ok_l p hp p.length 0 _ (by omega) (by simp)
theorem slices_Index_int_int.ok_l (v : Int) (xs : List Int) (hn : xs.length ≤ 140737488355328) : ∀ (d i : Nat), xs.length - i = d → ∃ r, slices_Index_int_int.l0.v xs v xs.length i = some r ∧ decide (r ≥ 0) = decide (v ∈ xs.drop i) := by
 intro d
 induction d with
 | zero =>
  intro i hd
  refine ⟨-1, ?_, ?_⟩
  ·rw [slices_Index_int_int.l0.v_eq, if_neg (cast_nlt (by omega))]
  ·rw [List.drop_eq_nil_of_le (by omega)]; simp
 | succ d ih =>
  intro i hd
  have h : i < xs.length := by omega
  obtain ⟨r, hr, hr'⟩ := ih (i + 1) (by omega)
  rw [slices_Index_int_int.l0.v_eq, if_pos (cast_lt h), if_pos (Int.natCast_nonneg i), if_pos (cast_lt h), succ_wrap h hn, hr, drop_rd xs i h]
  by_cases e : v = rd xs (i : Int)
  ·rw [if_pos e]; exact ⟨i, rfl, by simp [e, Int.natCast_nonneg]⟩
  ·rw [if_neg e]; exact ⟨r, rfl, by rw [hr']; simp [e]⟩
theorem slices_Contains_int_int.ok (v : Int) (xs : List Int) (hn : xs.length ≤ 140737488355328) : slices_Contains_int_int.f.v xs v = some (decide (v ∈ xs)) := by
 obtain ⟨r, hr, hr'⟩ := slices_Index_int_int.ok_l v xs hn xs.length 0 (by omega)
 have e : slices_Index_int_int.f.v xs v = some r := by rw [slices_Index_int_int.f.v_eq]; exact hr
 rw [slices_Contains_int_int.f.v_eq, e, Option.bind_some, hr', List.drop_zero]
theorem impl_isOrder.ok_l (p : List Int) (hn : p.length ≤ 8) : ∀ (d i : Nat), p.length - i = d → impl_isOrder.l0.v p p p.length i = some (ordGo p.length (p.take i) (p.drop i)) := by
 intro d
 induction d with
 | zero =>
  intro i hd
  rw [impl_isOrder.l0.v_eq, if_neg (cast_nlt (by omega)), List.drop_eq_nil_of_le (by omega)]
  rfl
 | succ d ih =>
  intro i hd
  have h : i < p.length := by omega
  rw [impl_isOrder.l0.v_eq, if_pos (cast_lt h), if_pos (Int.natCast_nonneg i), if_pos (cast_lt h), succ_wrap h (by omega), ih (i + 1) (by omega), drop_rd p i h, take_rd p i h]
  rw [wrap_id (x := (p.length : Int) - 1) (by omega) (by omega), toNat_cast, slices_Contains_int_int.ok _ _ (by rw [List.length_take]; omega)]
  unfold impl_between.f
  rw [ordGo_cons]
  by_cases a : 0 ≤ rd p (i : Int)
  ·by_cases b : rd p (i : Int) ≤ (p.length : Int) - 1
   ·have hi : (i : Int) ≤ (p.length : Int) := by omega
    by_cases c : rd p (i : Int) ∈ p.take i
    ·simp only [ge_iff_le, a, b, c, hi, decide_true, decide_false, if_true, if_false, Option.bind_some, true_and, and_true, and_self, Bool.false_eq_true]
    ·simp only [ge_iff_le, a, b, c, hi, decide_true, decide_false, if_true, if_false, Option.bind_some, true_and, and_true, and_self, Bool.false_eq_true]
   ·simp [a, b]
  ·simp [a]
theorem impl_isOrder.ok (p : List Int) : impl_isOrder.f.v p = some (isOrd p) := by
 rw [impl_isOrder.f.v_eq]
 unfold impl_between.f isOrd
 by_cases h : 1 ≤ p.length ∧ p.length ≤ 8
 ·have := impl_isOrder.ok_l p h.2 p.length 0 (by omega)
  have h1 : (p.length : Int) ≥ 1 := by omega
  have h2 : (p.length : Int) ≤ 8 := by omega
  rw [if_pos h1, if_pos h, decide_eq_true h2]
  simpa using this
 ·rw [if_neg h]
  by_cases h1 : (p.length : Int) ≥ 1
  ·have h2 : ¬ (p.length : Int) ≤ 8 := by omega
   rw [if_pos h1, decide_eq_false h2]; rfl
  ·rw [if_neg h1]; rfl
theorem impl_BackOrder.ok (p : List Int) : impl_BackOrder.f.v p = some (if isOrd p = true then (backL p, true) else ([], false)) := by
 rw [impl_BackOrder.f.v_eq, impl_isOrder.ok, Option.bind_some]
 by_cases h : isOrd p = true
 ·rw [if_pos h, if_pos h, impl_back.ok p h]; rfl
 ·rw [if_neg h, if_neg h]
theorem slices_Concat_int_int.ok (a b : List Int) (ha : a.length ≤ 1000) (hb : b.length ≤ 1000) : slices_Concat_int_int.f [a, b] = some (a ++ b) := by
 unfold slices_Concat_int_int.f
 have e : ([a, b] : List (List Int)).flatten = a ++ b := by simp
 rw [e, if_pos ⟨by rw [List.length_append]; omega, show 2 ≤ 1000 by omega⟩]
theorem impl_BelowLadder.ok (n : Int) (l : List Int) (m : Int) (r : List Int) : impl_BelowLadder.f.v n l m r = some (if (good n l = true ∧ good m r = true ∧ n = m) ∧ good n (l ++ r) = true then (n, l ++ r, true) else (0, [], false)) := by
 rw [impl_BelowLadder.f.v_eq, impl_isLadder.ok, Option.bind_some]
 by_cases h : good n l = true
 ·have g := good_iff.1 h
  rw [if_pos h, impl_isLadder.ok, Option.bind_some]
  by_cases h2 : good m r = true
  ·have g2 := good_iff.1 h2
   rw [if_pos h2, impl_BelowLadder.j0.v_eq]
   by_cases e : n = m
   ·rw [if_neg (by simp [e]), slices_Concat_int_int.ok l r (by omega) (by omega), Option.bind_some, impl_checked.ok, Option.bind_some]
    by_cases h3 : good n (l ++ r) = true
    ·rw [if_pos h3, if_pos ⟨⟨h, h2, e⟩, h3⟩]
    ·rw [if_neg h3, if_neg (fun x => h3 x.2)]
   ·rw [if_pos (by simp [e]), if_neg (fun x => e x.1.2.2)]
  ·rw [if_neg h2, if_neg (fun x => h2 x.1.2.1), impl_BelowLadder.j0.v_eq, if_pos rfl]
 ·rw [if_neg h, if_neg (fun x => h x.1.1), impl_BelowLadder.j0.v_eq, if_pos rfl]
theorem impl_IsLadder.ok (n : Int) (l : List Int) : impl_IsLadder.f n l = some (good n l) := by
 unfold impl_IsLadder.f
 rw [impl_isLadder.ok]; rfl
theorem impl_listText.itoa (x : Int) (h0 : 0 ≤ x) (h1 : x < 10) : strconv_Itoa_90.f x = some ⟨(digB x).toArray⟩ := by
 unfold strconv_Itoa_90.f
 rw [if_pos ⟨h0, by omega⟩, digB_itoa x h0 h1]
theorem impl_listText.ok_l (l : List Int) (hl : l.length ≤ 1000) (hd : ∀ x ∈ l, 0 ≤ x ∧ x < 10) : ∀ (d i : Nat), i + d = l.length → impl_listText.l0.v ((l.take i).map fun x => ⟨(digB x).toArray⟩) l (l.length : Int) (i : Int) = some (if l.length = 0 then ⟨#[45]⟩ else ⟨(digsB false l).toArray⟩) := by
 intro d
 induction d with
 | zero =>
  intro i hi
  rw [impl_listText.l0.v_eq, if_neg (by omega), List.take_of_length_le (by omega), List.length_map]
  by_cases h : l.length = 0
  ·rw [if_pos (by omega), if_pos h]
  ·rw [if_neg (by omega), if_neg h]
   unfold strings_Join.f
   have e : ((l.map fun x => (⟨(digB x).toArray⟩ : ByteArray)).map fun x => x.data.toList) = l.map digB := by rw [List.map_map]; rfl
   rw [e, show (⟨#[44]⟩ : ByteArray).data.toList = [44] from rfl, digsB_join, List.length_map]
   have := digsB_length false l
   rw [if_pos ⟨hl, by omega⟩]; rfl
 | succ d ih =>
  intro i hi
  have h : i < l.length := by omega
  have hx := hd _ (rd_mem l i h)
  rw [impl_listText.l0.v_eq, if_pos (by omega), if_pos (by omega), if_pos (by omega), impl_listText.itoa _ hx.1 hx.2, Option.bind_some, if_pos (by rw [List.length_map, List.length_take]; omega), succ_wrap h (by omega)]
  have := ih (i + 1) (by omega)
  rw [take_rd l i h, List.map_append] at this
  exact this
theorem impl_listText.ok (l : List Int) (hl : l.length ≤ 1000) (hd : ∀ x ∈ l, 0 ≤ x ∧ x < 10) : impl_listText.f.v l = some (if l.length = 0 then ⟨#[45]⟩ else ⟨(digsB false l).toArray⟩) := by
 rw [impl_listText.f.v_eq]
 have := impl_listText.ok_l l hl hd l.length 0 (by omega)
 simpa using this
theorem impl_ladderText.ok (n : Int) (l : List Int) (hg : good n l = true) : impl_ladderText.f.v n l = some ⟨(ladB n l).toArray⟩ := by
 have h := good_iff.1 hg
 have hd : ∀ x ∈ l, 0 ≤ x ∧ x < 10 := fun x hx => by have := h.2.2.2 x hx; omega
 have e2 := impl_listText.ok l (by omega) hd
 rw [impl_ladderText.f.v_eq, impl_listText.itoa n (by omega) (by omega), e2]
 simp only [Option.bind_some]
 have h1 : (⟨(digB n).toArray⟩ : ByteArray).size = 1 := rfl
 have h2 : (⟨#[58]⟩ : ByteArray).size = 1 := rfl
 have h3 : ((⟨(digB n).toArray⟩ : ByteArray) ++ (⟨#[58]⟩ : ByteArray)).size = 2 := by rw [ByteArray.size_append, h1, h2]
 have h4 : (if l.length = 0 then (⟨#[45]⟩ : ByteArray) else ⟨(digsB false l).toArray⟩).size ≤ 1 + 2 * l.length := by
  split
  ·show 1 ≤ _; omega
  ·have := digsB_length false l
   show (digsB false l).length ≤ _; omega
 rw [if_pos (by omega), if_pos (by omega)]
 congr 1
 refine byte_ext ?_
 rw [byte_app, byte_app]
 unfold ladB
 cases l with
 | nil => rfl
 | cons x l => rw [if_neg (by simp), if_neg (by simp)]; simp
theorem impl_MirrorLadder.ok_l (n : Int) (hn : 0 ≤ n ∧ n ≤ 1000) (m : Int) (xs : List Int) (hx : xs.length ≤ 1000) (hb : ∀ x ∈ xs, -1000 ≤ x ∧ x ≤ 1000) (ys : List Int) : ∀ (d i : Nat) (acc : List Int), i + d = xs.length → acc.length ≤ i → impl_MirrorLadder.l0.v xs xs.length i n ys m acc = some (m, acc ++ (xs.drop i).map (fun x => n - 2 - x), true) := by
 intro d
 induction d with
 | zero =>
  intro i acc hd ha
  rw [impl_MirrorLadder.l0.v_eq, if_neg (cast_nlt (by omega)), List.drop_eq_nil_of_le (by omega), List.map_nil, List.append_nil]
 | succ d ih =>
  intro i acc hd ha
  have h : i < xs.length := by omega
  obtain ⟨h0, h1⟩ := hb _ (rd_mem xs i h)
  rw [impl_MirrorLadder.l0.v_eq, if_pos (cast_lt h), if_pos (Int.natCast_nonneg i), if_pos (cast_lt h), if_pos (by omega), succ_wrap h (by omega), wrap_id (x := n - 2) (by omega) (by omega), wrap_id (x := n - 2 - rd xs (i : Int)) (by omega) (by omega), ih (i + 1) _ (by omega) (by simp; omega), drop_rd xs i h, List.map_cons, List.append_assoc]
  rfl
theorem impl_MirrorLadder.ok (n : Int) (l : List Int) : impl_MirrorLadder.f.v n l = some (if good n l = true then (n, l.map (fun x => n - 2 - x), true) else (0, [], false)) := by
 rw [impl_MirrorLadder.f.v_eq, impl_isLadder.ok, Option.bind_some]
 by_cases h : good n l = true
 ·obtain ⟨g1, g2, g3, g4⟩ := good_iff.1 h
  rw [if_pos h, if_pos h]
  have := impl_MirrorLadder.ok_l n (by omega) n l (by omega) (fun x hx => by have := g4 x hx; omega) l l.length 0 [] (by omega) (by simp)
  simpa using this
 ·rw [if_neg h, if_neg h]
theorem impl_readNumber.ok (s : ByteArray) (h : s.size ≤ 1048576) : impl_readNumber.f s = some (rnP s.data.toList) := by
 unfold impl_readNumber.f rnP
 rw [if_pos h, ByteArray.toList_eq]
 cases Lib.atoiAll s.data.toList <;> rfl
theorem strings_Split.ok (s : ByteArray) (c : UInt8) (h : s.size ≤ 1048576) : ∃ ws, strings_Split.f s ⟨#[c]⟩ = some ws ∧ ws.map (·.data.toList) = spl c s.data.toList := by
 unfold strings_Split.f
 rw [if_pos ⟨h, rfl⟩]
 exact ⟨_, rfl, (Lib.splitB_data ⟨#[c]⟩ 0 _ s).trans (splitK_spl c s.data.toList)⟩
theorem impl_readList.ok_l (ws : List ByteArray) (hw : ws.length ≤ 1048577) (hs : ∀ x ∈ ws, x.size ≤ 1048576) : ∀ (d i : Nat) (acc : List Int), i + d = ws.length → acc.length ≤ i → impl_readList.l0.v acc ws (ws.length : Int) (i : Int) = some (rlGo ((ws.drop i).map (·.data.toList)) acc) := by
 intro d
 induction d with
 | zero =>
  intro i acc hd ha
  rw [impl_readList.l0.v_eq, if_neg (by omega), List.drop_eq_nil_of_le (by omega)]; rfl
 | succ d ih =>
  intro i acc hd ha
  have h : i < ws.length := by omega
  have e : rdOf ByteArray.empty ws (i : Int) = ws[i] := by
   unfold rdOf
   rw [Int.toNat_natCast, List.getD_eq_getElem?_getD, List.getElem?_eq_getElem h]; rfl
  have hz := hs _ (List.getElem_mem h)
  rw [impl_readList.l0.v_eq, if_pos (by omega), if_pos (by omega), if_pos (by omega), e, impl_readNumber.ok _ hz, Option.bind_some, List.drop_eq_getElem_cons h, List.map_cons, rlGo]
  by_cases c : (rnP (ws[i]).data.toList).2 = true
  ·rw [if_pos c, if_pos c, if_pos (by omega), succ_wrap h (by omega)]
   exact ih (i + 1) _ (by omega) (by rw [List.length_append, List.length_singleton]; omega)
  ·rw [if_neg c, if_neg c]
theorem impl_readList.ok (s : ByteArray) (h : s.size ≤ 1048576) : impl_readList.f.v s = some (rlM s.data.toList) := by
 rw [impl_readList.f.v_eq, Option.bind_some, ByteArray.toList_eq]
 unfold rlM
 by_cases e : s.data.toList = [45]
 ·rw [if_pos e, if_pos e]
 ·obtain ⟨ws, h1, h2⟩ := strings_Split.ok s 44 h
  have hl := spl_length 44 s.data.toList
  have hz : s.size = s.data.toList.length := rfl
  have h3 : ws.length ≤ 1048577 := by
   have := congrArg List.length h2
   rw [List.length_map] at this; omega
  have h4 : ∀ x ∈ ws, x.size ≤ 1048576 := fun x hx => by
   have := hl.2 x.data.toList (by rw [← h2]; exact List.mem_map.2 ⟨x, hx, rfl⟩)
   show x.data.toList.length ≤ _
   omega
  rw [if_neg e, if_neg e, h1, Option.bind_some]
  have := impl_readList.ok_l ws h3 h4 ws.length 0 [] (by omega) (by simp)
  rw [List.drop_zero, h2] at this
  exact this
theorem strings_Cut.ok (s c : ByteArray) (h : s.size ≤ 1048576) : strings_Cut.f s c = some (⟨(Lib.cut s.data.toList c.data.toList).1.toArray⟩, ⟨(Lib.cut s.data.toList c.data.toList).2.1.toArray⟩, (Lib.cut s.data.toList c.data.toList).2.2) := by
 unfold strings_Cut.f
 rw [if_pos h]
theorem impl_ParseLadder.ok (s : ByteArray) (h : s.size ≤ 1048576) : impl_ParseLadder.f.v s = some (parI s.data.toList) := by
 have hz : s.size = s.data.toList.length := rfl
 have hl := cut_length s.data.toList 58
 rw [impl_ParseLadder.f.v_eq, strings_Cut.ok s _ h, Option.bind_some]
 show ((impl_readNumber.f (⟨(Lib.cut s.data.toList [58]).1.toArray⟩ : ByteArray)).bind _) = _
 rw [impl_readNumber.ok _ (by show (Lib.cut s.data.toList [58]).1.length ≤ _; omega), Option.bind_some]
 show ((impl_readList.f.v (⟨(Lib.cut s.data.toList [58]).2.1.toArray⟩ : ByteArray)).bind _) = _
 rw [impl_readList.ok _ (by show (Lib.cut s.data.toList [58]).2.1.length ≤ _; omega), Option.bind_some]
 unfold parI
 show (if (Lib.cut s.data.toList [58]).2.2 = true then (if (rnP (Lib.cut s.data.toList [58]).1).2 = true then (if (rlM (Lib.cut s.data.toList [58]).2.1).2 = true then _ else _) else _) else _) = _
 by_cases c1 : (Lib.cut s.data.toList [58]).2.2 = true
 ·rw [if_pos c1]
  by_cases c2 : (rnP (Lib.cut s.data.toList [58]).1).2 = true
  ·rw [if_pos c2]
   by_cases c3 : (rlM (Lib.cut s.data.toList [58]).2.1).2 = true
   ·rw [if_pos c3]
    show ((impl_checked.f (rnP (Lib.cut s.data.toList [58]).1).1 (rlM (Lib.cut s.data.toList [58]).2.1).1).bind _) = _
    rw [impl_checked.ok, Option.bind_some]
    by_cases c4 : good (rnP (Lib.cut s.data.toList [58]).1).1 (rlM (Lib.cut s.data.toList [58]).2.1).1 = true
    ·rw [if_pos c4, if_pos ⟨c1, c2, c3, c4⟩]
    ·rw [if_neg c4, if_neg (fun x => c4 x.2.2.2)]
   ·rw [if_neg c3, if_neg (fun x => c3 x.2.2.1)]
  ·rw [if_neg c2, if_neg (fun x => c2 x.2.1)]
 ·rw [if_neg c1, if_neg (fun x => c1 x.1)]
theorem slices_Repeat_int_int.ok (l : List Int) (k : Int) (h0 : 0 ≤ k) (h1 : k ≤ 1000) (hl : l.length ≤ 1000) (hz : k = 0 ∨ 0 < l.length) : slices_Repeat_int_int.f l k = some (repL l k.toNat) := by
 unfold slices_Repeat_int_int.f
 rw [if_pos ⟨h0, h1, hl, hz⟩]
 rfl
theorem impl_RepeatLadder.ok (n : Int) (l : List Int) (k : Int) : impl_RepeatLadder.f.v n l k = some (if good n l = true ∧ canRep l k = true then (n, (if l.length = 0 then [] else repL l k.toNat), true) else (0, [], false)) := by
 rw [impl_RepeatLadder.f.v_eq, impl_isLadder.ok, Option.bind_some]
 by_cases h : good n l = true
 ·have g := good_iff.1 h
  rw [if_pos h]
  by_cases h0 : k < 0
  ·rw [if_pos h0, impl_RepeatLadder.j0.v_eq, if_pos rfl, if_neg]
   rintro ⟨_, h2⟩
   unfold canRep at h2
   simp only [Bool.and_eq_true, decide_eq_true_eq] at h2
   omega
  ·rw [if_neg h0]
   by_cases hl : l.length = 0
   ·rw [if_neg (by omega), impl_RepeatLadder.j0.v_eq, if_neg Bool.false_ne_true, if_pos (by omega), slices_Repeat_int_int.ok l 0 (by omega) (by omega) (by omega) (Or.inl rfl), Option.bind_some, if_pos ⟨h, by unfold canRep; simp [hl]; omega⟩, if_pos hl]
    rfl
   ·have s := sixty l.length (by omega)
    rw [if_pos (by omega), if_neg (by omega), wrap_id (by omega) (by omega), impl_RepeatLadder.j0.v_eq]
    by_cases h2 : k > (60 : Int) / (l.length : Int)
    ·rw [decide_eq_true h2, if_pos rfl, if_neg]
     rintro ⟨_, h3⟩
     unfold canRep at h3
     simp only [Bool.and_eq_true, Bool.or_eq_true, decide_eq_true_eq] at h3
     omega
    ·rw [decide_eq_false h2, if_neg Bool.false_ne_true, if_neg (by omega), slices_Repeat_int_int.ok l k (by omega) (by omega) (by omega) (Or.inr (by omega)), Option.bind_some, if_pos ⟨h, by unfold canRep; simp only [Bool.and_eq_true, Bool.or_eq_true, decide_eq_true_eq]; omega⟩, if_neg hl]
 ·rw [if_neg h, impl_RepeatLadder.j0.v_eq, if_pos rfl, if_neg (fun x => h x.1)]
theorem impl_SignOf.ok_1 (p : List Int) (n x i : Int) (ys : List Int) (hy : ys.length ≤ 1000) : ∀ (d k : Nat) (s : Int), k + d = ys.length → (s = 1 ∨ s = -1) → impl_SignOf.l1.v p s x p n i ys ys.length k = impl_SignOf.l0.v p (sgn s (gr x (ys.drop k))) p n (wrap64 (i + 1)) := by
 intro d
 induction d with
 | zero =>
  intro k s hd hs
  rw [impl_SignOf.l1.v_eq, if_neg (cast_nlt (by omega)), List.drop_eq_nil_of_le (by omega)]; rfl
 | succ d ih =>
  intro k s hd hs
  have h : k < ys.length := by omega
  rw [impl_SignOf.l1.v_eq, if_pos (cast_lt h), if_pos (Int.natCast_nonneg k), if_pos (cast_lt h), succ_wrap h (by omega), drop_rd ys k h, gr]
  by_cases c : rd ys (k : Int) > x
  ·rw [if_pos c, if_pos c, wrap_id (x := -s) (by omega) (by omega), ih (k + 1) _ (by omega) (by omega), sgn_neg]
  ·rw [if_neg c, if_neg c, ih (k + 1) _ (by omega) hs, Nat.zero_add]
theorem impl_SignOf.ok_0 (p : List Int) (hp : p.length ≤ 8) : ∀ (d i : Nat), i + d = p.length → impl_SignOf.l0.v p (sgn 1 (invC (p.take i))) p p.length i = some (sgn 1 (invC p), true) := by
 intro d
 induction d with
 | zero =>
  intro i hd
  rw [impl_SignOf.l0.v_eq, if_neg (cast_nlt (by omega)), List.take_of_length_le (by omega)]
 | succ d ih =>
  intro i hd
  have h : i < p.length := by omega
  rw [impl_SignOf.l0.v_eq, if_pos (cast_lt h), if_pos (Int.natCast_nonneg i), if_pos (cast_lt h), if_pos (by omega), Option.bind_some, toNat_cast]
  have := impl_SignOf.ok_1 p p.length (rd p (i : Int)) i (p.take i) (by rw [List.length_take]; omega) (p.take i).length 0 (sgn 1 (invC (p.take i))) (by omega) (sgn_one 1 _ (Or.inl rfl))
  refine Eq.trans this ?_
  rw [succ_wrap h (by omega), List.drop_zero, sgn_add, ← invC_snoc, ← take_rd p i h]
  exact ih (i + 1) (by omega)
theorem impl_SignOf.ok (p : List Int) : impl_SignOf.f.v p = some (if isOrd p = true then (sgn 1 (invC p), true) else (0, false)) := by
 rw [impl_SignOf.f.v_eq, impl_isOrder.ok, Option.bind_some]
 by_cases h : isOrd p = true
 ·rw [if_pos h, if_pos h]
  exact impl_SignOf.ok_0 p (isOrd_len h).2 p.length 0 (by omega)
 ·rw [if_neg h, if_neg h]
theorem slices_Delete_int_int.ok (l : List Int) (a b : Int) (h0 : 0 ≤ a) (h1 : a ≤ b) (h2 : b ≤ l.length) : slices_Delete_int_int.f l a b = some (l.take a.toNat ++ l.drop b.toNat) := by
 unfold slices_Delete_int_int.f
 rw [if_pos h0, if_pos h1, if_pos h2]
theorem impl_TakeRung.ok (n : Int) (l : List Int) (a : Int) : impl_TakeRung.f.v n l a = some (if good n l = true ∧ 0 ≤ a ∧ a < l.length then (n, woL l a, true) else (0, [], false)) := by
 rw [impl_TakeRung.f.v_eq, impl_isLadder.ok, Option.bind_some]
 by_cases h : good n l = true
 ·have g := good_iff.1 h
  rw [if_pos h, wrap_id (x := (l.length : Int) - 1) (by omega) (by omega)]
  unfold impl_between.f
  by_cases h0 : 0 ≤ a
  ·rw [if_pos h0, Option.bind_some]
   by_cases h1 : a < l.length
   ·rw [decide_eq_true (show a ≤ (l.length : Int) - 1 by omega), impl_TakeRung.j0.v_eq, if_neg (by simp), slices_Clone_int_int.ok l (by omega), Option.bind_some, wrap_id (x := a + 1) (by omega) (by omega), slices_Delete_int_int.ok l a (a + 1) h0 (by omega) (by omega), Option.bind_some, if_pos ⟨h, h0, h1⟩, woL, show (a + 1).toNat = a.toNat + 1 by omega]
   ·rw [decide_eq_false (by omega), impl_TakeRung.j0.v_eq, if_pos (by simp), if_neg (fun x => h1 x.2.2)]
  ·rw [if_neg h0, Option.bind_some, impl_TakeRung.j0.v_eq, if_pos (by simp), if_neg (fun x => h0 x.2.1)]
 ·rw [if_neg h, impl_TakeRung.j0.v_eq, if_pos rfl, if_neg (fun x => h x.1)]
theorem slices_Reverse_int_int.ok_l (l : List Int) (hn : l.length ≤ 1048576) : ∀ (d i : Nat) (xs : List Int), l.length ≤ 2 * i + d → i ≤ l.length → xs.length = l.length → (∀ q, q < l.length → xs.getD q 0 = if q < i ∨ l.length < q + i + 1 then l.getD (l.length - 1 - q) 0 else l.getD q 0) → slices_Reverse_int_int.l0.v xs i ((l.length : Int) - 1 - (i : Int)) = some l.reverse := by
 intro d
 induction d with
 | zero =>
  intro i xs hd hi hx hq
  rw [slices_Reverse_int_int.l0.v_eq, if_neg (by omega)]
  congr 1
  refine List.ext_getElem (by simp [hx]) (fun q h1 h2 => ?_)
  have h3 := hq q (by omega)
  rw [List.getD_eq_getElem?_getD, List.getElem?_eq_getElem h1] at h3
  rw [List.getElem_reverse, show xs[q] = (some xs[q]).getD 0 from rfl, h3]
  by_cases hc : q < i ∨ l.length < q + i + 1
  ·rw [if_pos hc, List.getD_eq_getElem?_getD, List.getElem?_eq_getElem (by omega)]; rfl
  ·rw [if_neg hc, List.getD_eq_getElem?_getD, List.getElem?_eq_getElem (by omega)]
   have : l.length - 1 - q = q := by omega
   simp only [this]; rfl
 | succ d ih =>
  intro i xs hd hi hx hq
  by_cases h : 2 * i + 1 < l.length
  ·obtain ⟨j, hj⟩ : ∃ j : Nat, j = l.length - 1 - i := ⟨_, rfl⟩
   have hj' : (l.length : Int) - 1 - (i : Int) = (j : Int) := by omega
   have hrj := hq j (by omega)
   have hri := hq i (by omega)
   rw [if_neg (by omega)] at hrj hri
   rw [hj', slices_Reverse_int_int.l0.v_eq, if_pos (by omega), if_pos (Int.natCast_nonneg j), if_pos (by omega), if_pos (Int.natCast_nonneg i), if_pos (by omega), toNat_cast, toNat_cast, wrap_id (x := (i : Int) + 1) (by omega) (by omega), wrap_id (x := (j : Int) - 1) (by omega) (by omega), show (j : Int) - 1 = (l.length : Int) - 1 - ((i + 1 : Nat) : Int) by omega, show (i : Int) + 1 = ((i + 1 : Nat) : Int) by omega]
   refine ih (i + 1) _ (by omega) (by omega) (by rw [List.length_set, List.length_set]; exact hx) (fun q hq' => ?_)
   have hold := hq q hq'
   rw [List.getD_eq_getElem?_getD, List.getElem?_set, List.getElem?_set]
   by_cases e1 : j = q
   ·subst e1
    rw [if_pos rfl, if_pos (by rw [List.length_set]; omega), if_pos (by omega), show l.length - 1 - j = i by omega, ← hri]; rfl
   ·rw [if_neg e1]
    by_cases e2 : i = q
    ·subst e2
     rw [if_pos rfl, if_pos (by omega), if_pos (by omega), ← hj, ← hrj]; rfl
    ·rw [if_neg e2, ← List.getD_eq_getElem?_getD, hold]
     by_cases hc : q < i ∨ l.length < q + i + 1
     ·rw [if_pos hc, if_pos (by omega)]
     ·rw [if_neg hc, if_neg (by omega)]
  ·refine (?_ : slices_Reverse_int_int.l0.v xs i ((l.length : Int) - 1 - (i : Int)) = some l.reverse)
   rw [slices_Reverse_int_int.l0.v_eq, if_neg (by omega)]
   congr 1
   refine List.ext_getElem (by simp [hx]) (fun q h1 h2 => ?_)
   have h3 := hq q (by omega)
   rw [List.getD_eq_getElem?_getD, List.getElem?_eq_getElem h1] at h3
   rw [List.getElem_reverse, show xs[q] = (some xs[q]).getD 0 from rfl, h3]
   by_cases hc : q < i ∨ l.length < q + i + 1
   ·rw [if_pos hc, List.getD_eq_getElem?_getD, List.getElem?_eq_getElem (by omega)]; rfl
   ·rw [if_neg hc, List.getD_eq_getElem?_getD, List.getElem?_eq_getElem (by omega)]
    have : l.length - 1 - q = q := by omega
    simp only [this]; rfl
theorem slices_Reverse_int_int.ok (l : List Int) (hn : l.length ≤ 1048576) : slices_Reverse_int_int.f.v l = some l.reverse := by
 rw [slices_Reverse_int_int.f.v_eq, wrap_id (by omega) (by omega)]
 have := slices_Reverse_int_int.ok_l l hn l.length 0 l (by omega) (by omega) rfl (fun q hq => by rw [if_neg (by omega)])
 simpa using this
theorem impl_TurnLadder.ok (n : Int) (l : List Int) : impl_TurnLadder.f.v n l = some (if good n l = true then (n, l.reverse, true) else (0, [], false)) := by
 rw [impl_TurnLadder.f.v_eq, impl_isLadder.ok, Option.bind_some]
 by_cases h : good n l = true
 ·have g3 := (good_iff.1 h).2.2.1
  rw [if_pos h, if_pos h, slices_Clone_int_int.ok l (by omega), Option.bind_some, slices_Reverse_int_int.ok l (by omega)]; rfl
 ·rw [if_neg h, if_neg h]
theorem laws_kSame.ok_l (a b : List Int) (hab : a.length = b.length) (ha : a.length ≤ 1000) : ∀ (d i : Nat), i + d = a.length → laws_kSame.l0.v a b a.length i = some (decide (a.drop i = b.drop i)) := by
 intro d
 induction d with
 | zero =>
  intro i hd
  rw [laws_kSame.l0.v_eq, if_neg (cast_nlt (by omega)), List.drop_eq_nil_of_le (by omega), List.drop_eq_nil_of_le (by omega)]; rfl
 | succ d ih =>
  intro i hd
  have h : i < a.length := by omega
  rw [laws_kSame.l0.v_eq, if_pos (cast_lt h), if_pos (Int.natCast_nonneg i), if_pos (cast_lt h), if_pos (cast_lt (by omega)), succ_wrap h (by omega), ih (i + 1) (by omega), drop_rd a i h, drop_rd b i (by omega)]
  by_cases e : rd a (i : Int) = rd b (i : Int)
  ·rw [if_pos e, e]
   congr 1
   rw [decide_eq_decide, List.cons.injEq]
   exact ⟨fun x => ⟨rfl, x⟩, fun x => x.2⟩
  ·rw [if_neg e, decide_eq_false (fun x => e (List.cons.inj x).1)]
theorem laws_kSame.ok (a b : List Int) (hab : a.length = b.length) (ha : a.length ≤ 1000) : laws_kSame.f.v a b = some (decide (a = b)) := by
 rw [laws_kSame.f.v_eq, if_pos (by omega)]
 have := laws_kSame.ok_l a b hab ha a.length 0 (by omega)
 simpa using this
theorem laws_kSame.self (a : List Int) (ha : a.length ≤ 1000) : laws_kSame.f.v a a = some true := by
 rw [laws_kSame.ok a a rfl ha]; simp
theorem laws_kLadder.self (n : Int) (l : List Int) (h : l.length ≤ 1000) : laws_kLadder.f.v n l n l = some true := by
 rw [laws_kLadder.f.v_eq, if_pos rfl, laws_kSame.self l h]
 rfl
theorem impl_over.ok (w r : Int) (h0 : -1000 ≤ r) (h1 : r ≤ 1000) : impl_over.f w r = some (over w r) := by
 unfold impl_over.f over
 rw [wrap_id (x := r + 1) (by omega) (by omega)]
 by_cases a : w = r
 ·rw [if_pos a, if_pos a]
 ·rw [if_neg a, if_neg a]
  by_cases b : w = r + 1
  ·rw [if_pos b, if_pos b]
  ·rw [if_neg b, if_neg b]
theorem impl_way.ok_l (xs : List Int) (hn : xs.length ≤ 1000) (hb : ∀ x ∈ xs, -1000 ≤ x ∧ x ≤ 1000) : ∀ (d i : Nat) (w : Int) (acc : List Int), i + d = xs.length → acc.length ≤ i + 1 → impl_way.l0.v w acc xs xs.length i = some (acc ++ wayT w (xs.drop i)) := by
 intro d
 induction d with
 | zero =>
  intro i w acc hd ha
  rw [impl_way.l0.v_eq, if_neg (cast_nlt (by omega)), List.drop_eq_nil_of_le (by omega), wayT, List.append_nil]
 | succ d ih =>
  intro i w acc hd ha
  have h : i < xs.length := by omega
  obtain ⟨h0, h1⟩ := hb _ (rd_mem xs i h)
  rw [impl_way.l0.v_eq, if_pos (cast_lt h), if_pos (Int.natCast_nonneg i), if_pos (cast_lt h), impl_over.ok w _ h0 h1, Option.bind_some, if_pos (by omega), succ_wrap h (by omega), ih (i + 1) _ _ (by omega) (by simp; omega), drop_rd xs i h, wayT, List.append_assoc]
  rfl
theorem impl_way.ok (n : Int) (xs : List Int) (w : Int) (hn : xs.length ≤ 1000) (hb : ∀ x ∈ xs, -1000 ≤ x ∧ x ≤ 1000) : impl_way.f.v n xs w = some (wayL w xs) := by
 rw [impl_way.f.v_eq]
 have := impl_way.ok_l xs hn hb xs.length 0 w [w] (by omega) (by simp)
 simpa [wayL] using this
theorem good_wide' {n : Int} {l : List Int} (h : good n l = true) : l.length ≤ 1000 ∧ ∀ x ∈ l, -1000 ≤ x ∧ x ≤ 1000 := by
 obtain ⟨_, h2, h3, h4⟩ := good_iff.1 h
 exact ⟨by omega, fun x hx => by have := h4 x hx; omega⟩
theorem impl_result.ok_l (n : Int) (l : List Int) (hg : good n l = true) : ∀ (d i : Nat) (acc : List Int), i + d = n.toNat → acc.length ≤ i → impl_result.l0.v n l acc n i = some (acc ++ resGo l d i) := by
 obtain ⟨g1, g2, _, _⟩ := good_iff.1 hg
 obtain ⟨h1, h2⟩ := good_wide' hg
 intro d
 induction d with
 | zero =>
  intro i acc hd ha
  rw [impl_result.l0.v_eq, if_neg (by omega), resGo, List.append_nil]
 | succ d ih =>
  intro i acc hd ha
  rw [impl_result.l0.v_eq, if_pos (by omega), impl_way.ok n l _ h1 h2, Option.bind_some, wayL_length, wrap_id (x := ((l.length + 1 : Nat) : Int) - 1) (by omega) (by omega), show ((l.length + 1 : Nat) : Int) - 1 = (l.length : Int) by omega, if_pos (Int.natCast_nonneg _), if_pos (by omega), if_pos (by omega), wayL_last, succ_wrap (show i < n.toNat by omega) (by omega), ih (i + 1) _ (by omega) (by simp; omega), resGo, List.append_assoc]; rfl
theorem impl_result.ok (n : Int) (l : List Int) (hg : good n l = true) : impl_result.f.v n l = some (resL n l) := by
 rw [impl_result.f.v_eq]
 have := impl_result.ok_l n l hg n.toNat 0 [] (by omega) (by simp)
 simpa [resL] using this
theorem impl_ResultOf.ok (n : Int) (l : List Int) : impl_ResultOf.f.v n l = some (if good n l = true then (resL n l, true) else ([], false)) := by
 rw [impl_ResultOf.f.v_eq, impl_isLadder.ok, Option.bind_some]
 by_cases h : good n l = true
 ·rw [if_pos h, if_pos h, impl_result.ok n l h]; rfl
 ·rw [if_neg h, if_neg h]
theorem laws_kResult.ok (n : Int) (l : List Int) : laws_kResult.f.v n l = some (if good n l = true then resL n l else []) := by
 rw [laws_kResult.f.v_eq, impl_ResultOf.ok, Option.bind_some]
 by_cases h : good n l = true
 ·rw [if_pos h, if_pos h]; rfl
 ·rw [if_neg h, if_neg h]; rfl
theorem spec_l1Own.ok (l : List Int) (h : l.length ≤ 1048576) : spec_l1Own.f l = some l := by
 unfold spec_l1Own.f
 rw [Option.bind_some, if_pos (by simp; omega)]; rfl
theorem spec_l1All.ok_l (a b : Int) (xs : List Int) (hn : xs.length ≤ 140737488355328) : ∀ (d i : Nat), i + d = xs.length → spec_l1All.l0.v a b xs xs.length i = some ((xs.drop i).all fun x => decide (a ≤ x) && decide (x ≤ b)) := by
 intro d
 induction d with
 | zero =>
  intro i hd
  rw [spec_l1All.l0.v_eq, if_neg (cast_nlt (by omega)), List.drop_eq_nil_of_le (by omega)]
  rfl
 | succ d ih =>
  intro i hd
  have h : i < xs.length := by omega
  rw [spec_l1All.l0.v_eq, if_pos (cast_lt h), if_pos (Int.natCast_nonneg i), if_pos (cast_lt h), succ_wrap h hn, ih (i + 1) (by omega), drop_rd xs i h, List.all_cons]
  unfold spec_l1In.f
  by_cases e : a ≤ rd xs (i : Int)
  ·rw [if_pos (show rd xs (i : Int) ≥ a from e), Option.bind_some, decide_eq_true e, Bool.true_and]
   by_cases e2 : rd xs (i : Int) ≤ b
   ·rw [decide_eq_true e2, if_pos rfl, Bool.true_and]
   ·rw [decide_eq_false e2, if_neg (by simp), Bool.false_and]
  ·rw [if_neg (show ¬ rd xs (i : Int) ≥ a from e), Option.bind_some, decide_eq_false e, if_neg (by simp), Bool.false_and, Bool.false_and]
theorem spec_l1All.ok (xs : List Int) (a b : Int) (hn : xs.length ≤ 140737488355328) : spec_l1All.f.v xs a b = some (xs.all fun x => decide (a ≤ x) && decide (x ≤ b)) := by
 rw [spec_l1All.f.v_eq]
 have := spec_l1All.ok_l a b xs hn xs.length 0 (by omega)
 simpa using this
theorem spec_laGood.ok (n : Int) (l : List Int) : spec_laGood.f.v n l = some (good n l) := by
 rw [spec_laGood.f.v_eq]
 unfold spec_l1In.f good
 by_cases h1 : 2 ≤ n
 ·rw [if_pos (show n ≥ 2 from h1), Option.bind_some, decide_eq_true h1, Bool.true_and]
  by_cases h2 : n ≤ 8
  ·rw [decide_eq_true h2, if_pos rfl, Bool.true_and]
   by_cases h3 : l.length ≤ 60
   ·rw [if_pos (by omega), decide_eq_true h3, Bool.true_and, spec_l1All.ok l 0 _ (by omega), wrap_id (x := n - 2) (by omega) (by omega)]; rfl
   ·rw [if_neg (by omega), decide_eq_false h3, Bool.false_and]
  ·rw [decide_eq_false h2, if_neg (by simp), Bool.false_and, Bool.false_and]
 ·rw [if_neg (show ¬ n ≥ 2 from h1), Option.bind_some, decide_eq_false h1, if_neg (by simp), Bool.false_and, Bool.false_and, Bool.false_and]
theorem spec_laIf.ok (n : Int) (l : List Int) : spec_laIf.f.v n l = some (if good n l = true then (n, l, true) else (0, [], false)) := by
 rw [spec_laIf.f.v_eq, spec_laGood.ok, Option.bind_some]
 by_cases h : good n l = true
 ·rw [if_pos h, if_pos h]
 ·rw [if_neg h, if_neg h]
theorem spec_AddRung.ok (n : Int) (l : List Int) (a x : Int) : spec_AddRung.f.v n l a x = some (if good n l = true ∧ 0 ≤ a ∧ a ≤ l.length ∧ good n (addL l a x) = true then (n, addL l a x, true) else (0, [], false)) := by
 rw [spec_AddRung.f.v_eq, spec_laGood.ok, Option.bind_some]
 by_cases h : good n l = true
 ·have g := good_iff.1 h
  rw [if_pos h, wrap_id (x := n - 2) (by omega) (by omega)]
  unfold spec_l1In.f
  by_cases h0 : 0 ≤ a
  ·rw [if_pos h0, Option.bind_some]
   by_cases h1 : a ≤ l.length
   ·rw [decide_eq_true h1, if_pos rfl]
    by_cases h3 : 0 ≤ x
    ·rw [if_pos h3, Option.bind_some]
     by_cases h4 : x ≤ n - 2
     ·rw [decide_eq_true h4, spec_AddRung.j0.v_eq, if_neg (by simp), if_pos h0, if_pos h1, spec_l1Own.ok _ (by rw [List.length_take]; omega), Option.bind_some, Option.bind_some, if_pos (by simp; omega), Option.bind_some, Option.bind_some, if_pos (by simp; omega), spec_laIf.ok, Option.bind_some]
      show some _ = _
      rw [show l.take a.toNat ++ [x] ++ l.drop a.toNat = addL l a x from rfl]
      by_cases h2 : good n (addL l a x) = true
      ·rw [if_pos h2, if_pos ⟨h, h0, h1, h2⟩]
      ·rw [if_neg h2, if_neg (fun x => h2 x.2.2.2)]
     ·rw [decide_eq_false h4, spec_AddRung.j0.v_eq, if_pos (by simp), if_neg (fun y => h4 (addL_good y.2.2.2).2)]
    ·rw [if_neg h3, Option.bind_some, spec_AddRung.j0.v_eq, if_pos (by simp), if_neg (fun y => h3 (addL_good y.2.2.2).1)]
   ·rw [decide_eq_false h1, if_neg (by simp), spec_AddRung.j0.v_eq, if_pos rfl, if_neg (fun x => h1 x.2.2.1)]
  ·rw [if_neg h0, Option.bind_some, if_neg (by simp), spec_AddRung.j0.v_eq, if_pos rfl, if_neg (fun x => h0 x.2.1)]
 ·rw [if_neg h, spec_AddRung.j0.v_eq, if_pos rfl, if_neg (fun x => h x.1)]
theorem spec_l1Cur_next.ok (c : List Int) (hc : isCode c) (at_ s : Int) (h0 : 0 ≤ at_) (h1 : at_ ≤ 1000000000) : ∃ b s', spec_l1Cur_next.f c at_ s = some (b, at_ + 1, s') ∧ 0 ≤ b ∧ b ≤ 255 := by
  unfold spec_l1Cur_next.f
  rw [wrap_id (x := at_ + 1) (by omega) (by omega)]
  by_cases e : at_ < (c.length : Int)
  · have hb : 0 ≤ rd c at_ ∧ rd c at_ ≤ 255 := by
      have := rd_mem c at_.toNat (by omega)
      rw [Int.toNat_of_nonneg h0] at this
      exact hc.1 _ this
    rw [if_pos e, if_pos h0, if_pos (by omega), wrap_id (x := rd c at_) (by omega) (by omega)]
    exact ⟨_, _, rfl, hb.1, hb.2⟩
  · rw [if_neg e, if_neg (by omega)]
    exact ⟨_, _, rfl, (top_byte _).1, (top_byte _).2⟩
theorem spec_l1Cur_pick.ok (c : List Int) (hc : isCode c) (at_ s n : Int) (h0 : 0 ≤ at_) (h1 : at_ ≤ 100000000) (hn : 1 ≤ n) (hn2 : n ≤ 200) : ∃ x a' s', spec_l1Cur_pick.f c at_ s n = some (x, a', s') ∧ 0 ≤ x ∧ x < n ∧ 0 ≤ a' ∧ a' ≤ at_ + 1 := by
 unfold spec_l1Cur_pick.f
 by_cases e : n ≤ 1
 ·rw [if_pos e]
  exact ⟨_, _, _, rfl, by omega, by omega, by omega, by omega⟩
 ·obtain ⟨b, s', hf, hb0, hb1⟩ := spec_l1Cur_next.ok c hc at_ s h0 (by omega)
  rw [if_neg e, hf, Option.bind_some, if_neg (by omega), if_neg (by omega)]
  have := tmod_lt b n hb0 (by omega)
  exact ⟨_, _, _, rfl, this.1, this.2, by dsimp only; omega, by dsimp only; omega⟩
theorem spec_l1Cur_among.ok (c : List Int) (hc : isCode c) (at_ s : Int) (l : List Int) (h0 : 0 ≤ at_) (h1 : at_ ≤ 100000000) (hn : 1 ≤ l.length) (hn2 : l.length ≤ 200) : ∃ x a' s', spec_l1Cur_among.f c at_ s l = some (x, a', s') ∧ 0 ≤ a' ∧ a' ≤ at_ + 1 := by
 unfold spec_l1Cur_among.f
 obtain ⟨x, a', s', hf, x0, x1, a0, a1⟩ := spec_l1Cur_pick.ok c hc at_ s l.length h0 h1 (by omega) (by omega)
 rw [hf, Option.bind_some, if_pos x0, if_pos x1]
 exact ⟨_, _, _, rfl, a0, a1⟩
theorem spec_l1Cur_sureLadder.ok_l (c : List Int) (hc : isCode c) (n : Int) (h2 : 2 ≤ n) (h6 : n ≤ 100) : ∀ (k : Nat) (l : List Int) (at_ s : Int), k ≤ 100 → l.length + k ≤ 1000 → 0 ≤ at_ → at_ + k ≤ 100000000 →
    ∃ r a' s', spec_l1Cur_sureLadder.l0.v (k : Int) c at_ s n l = some (n, r, a', s') ∧ r.length = l.length + k ∧ 0 ≤ a' ∧ a' ≤ at_ + k ∧ (∀ x ∈ r, x ∈ l ∨ (0 ≤ x ∧ x ≤ n - 2)) := by
  intro k
  induction k with
  | zero =>
    intro l at_ s _ _ h0 h1
    rw [spec_l1Cur_sureLadder.l0.v_eq, if_neg (by omega)]
    exact ⟨_, _, _, rfl, by omega, h0, by omega, fun x hx => .inl hx⟩
  | succ k ih =>
    intro l at_ s hk hl h0 h1
    obtain ⟨x, a', s', hf, x0, x1, a0, a1⟩ := spec_l1Cur_pick.ok c hc at_ s (n - 1) h0 (by omega) (by omega) (by omega)
    rw [spec_l1Cur_sureLadder.l0.v_eq, if_pos (by omega), wrap_id (x := n - 1) (by omega) (by omega), hf, Option.bind_some]
    simp only []
    rw [if_pos (by omega), wrap_id (x := ((k + 1 : Nat) : Int) - 1) (by omega) (by omega), show ((k + 1 : Nat) : Int) - 1 = (k : Int) by omega]
    obtain ⟨r, a2, s2, hr, e1, e2, e3, e4⟩ := ih (l ++ [x]) a' s' (by omega) (by rw [List.length_append, List.length_singleton]; omega) a0 (by omega)
    refine ⟨r, a2, s2, hr, by rw [e1, List.length_append, List.length_singleton]; omega, e2, by omega, fun y hy => ?_⟩
    rcases e4 y hy with h | h
    · rcases List.mem_append.1 h with h | h
      · exact .inl h
      · obtain rfl := List.mem_singleton.1 h
        exact .inr ⟨x0, by omega⟩
    · exact .inr h
theorem spec_l1Cur_sureLadder.ok (c : List Int) (hc : isCode c) (at_ s : Int) (ws rs : Int) (w2 : 2 ≤ ws) (w8 : ws ≤ 50) (r0 : 0 ≤ rs) (r1 : rs ≤ 90) (a0 : 0 ≤ at_) (a1 : at_ ≤ 50000000) :
    ∃ n r a' s', spec_l1Cur_sureLadder.f.v c at_ s ws rs = some (n, r, a', s') ∧ 2 ≤ n ∧ n ≤ ws ∧ (r.length : Int) ≤ rs ∧ (∀ x ∈ r, 0 ≤ x ∧ x ≤ n - 2) ∧ 0 ≤ a' ∧ a' ≤ at_ + 100 := by
  obtain ⟨x, b, t, hf, x0, x1, b0, b1⟩ := spec_l1Cur_pick.ok c hc at_ s (ws - 1) a0 (by omega) (by omega) (by omega)
  rw [spec_l1Cur_sureLadder.f.v_eq, wrap_id (x := ws - 1) (by omega) (by omega), hf, Option.bind_some]
  simp only []
  obtain ⟨y, b2, t2, hf2, y0, y1, c0, c1⟩ := spec_l1Cur_pick.ok c hc b t (rs + 1) b0 (by omega) (by omega) (by omega)
  rw [wrap_id (x := rs + 1) (by omega) (by omega), hf2, Option.bind_some]
  simp only []
  rw [wrap_id (x := 2 + x) (by omega) (by omega)]
  obtain ⟨k, rfl⟩ := Int.eq_ofNat_of_zero_le y0
  obtain ⟨r, a2, s2, hr, e1, e2, e3, e4⟩ := spec_l1Cur_sureLadder.ok_l c hc (2 + x) (by omega) (by omega) k [] b2 t2 (by omega) (by simp; omega) c0 (by omega)
  refine ⟨_, r, a2, s2, hr, by omega, by omega, by rw [e1]; simp; omega, fun z hz => ?_, e2, by omega⟩
  rcases e4 z hz with h | h
  · cases h
  · exact h
theorem spec_l1Cur_ladder.ok (c : List Int) (hc : isCode c) (at_ s : Int) (a0 : 0 ≤ at_) (a1 : at_ ≤ 40000000) : ∃ n r a' s', spec_l1Cur_ladder.f.v c at_ s = some (n, r, a', s') ∧ r.length ≤ 61 ∧ 0 ≤ a' ∧ a' ≤ at_ + 200 := by
 obtain ⟨n, r, b, t, hf, n0, n1, r1, r2, b0, b1⟩ := spec_l1Cur_sureLadder.ok c hc at_ s 6 12 (by omega) (by omega) (by omega) (by omega) a0 (by omega)
 rw [spec_l1Cur_ladder.f.v_eq, hf, Option.bind_some]
 simp only []
 obtain ⟨x, b2, t2, hf2, x0, x1, c0, c1⟩ := spec_l1Cur_pick.ok c hc b t 16 b0 (by omega) (by omega) (by omega)
 rw [hf2, Option.bind_some]
 simp only []
 by_cases e0 : x = 0
 ·obtain ⟨y, b3, t3, hf3, d0, d1⟩ := spec_l1Cur_among.ok c hc b2 t2 [-1, wrap64 (n - 1), 4611686018427387904] c0 (by omega) (by simp) (by simp)
  rw [if_pos e0, hf3, Option.bind_some]
  simp only []
  rw [if_pos (by omega)]
  exact ⟨_, _, _, _, rfl, by rw [List.length_append, List.length_singleton]; omega, d0, by omega⟩
 ·rw [if_neg e0]
  by_cases e1 : x = 1
  ·obtain ⟨y, b3, t3, hf3, d0, d1⟩ := spec_l1Cur_among.ok c hc b2 t2 [1, 2, 8, 9, -1] c0 (by omega) (by simp) (by simp)
   rw [if_pos e1, hf3, Option.bind_some]
   exact ⟨_, _, _, _, rfl, by first | omega | (dsimp only; omega), d0, by first | omega | (dsimp only; omega)⟩
  ·rw [if_neg e1]
   by_cases e2 : x = 2
   ·obtain ⟨y, b3, t3, hf3, y0, y1, d0, d1⟩ := spec_l1Cur_pick.ok c hc b2 t2 2 c0 (by omega) (by omega) (by omega)
    rw [if_pos e2, hf3, Option.bind_some]
    simp only []
    rw [wrap_id (x := 60 + y) (by omega) (by omega), if_pos (by omega), if_pos (by omega)]
    exact ⟨_, _, _, _, rfl, by rw [List.length_replicate]; omega, d0, by omega⟩
   ·rw [if_neg e2]
    exact ⟨_, _, _, _, rfl, by omega, c0, by omega⟩
theorem spec_DrawAddRung.ok (c : List Int) (hc : isCode c) : ∃ n l a x, spec_DrawAddRung.f.v c = some (n, l, a, x) ∧ l.length ≤ 61 := by
 obtain ⟨n, l, a1, s1, hf, h1, b0, b1⟩ := spec_l1Cur_ladder.ok c hc 0 0 (by omega) (by omega)
 obtain ⟨x2, a2, s2, f2, _, _, c0, c1⟩ := spec_l1Cur_pick.ok c hc a1 s1 9 b0 (by omega) (by omega) (by omega)
 obtain ⟨x3, a3, s3, f3, _, _, d0, d1⟩ := spec_l1Cur_pick.ok c hc a2 s2 9 c0 (by omega) (by omega) (by omega)
 obtain ⟨x4, a4, s4, f4, _, _, e0, e1⟩ := spec_l1Cur_pick.ok c hc a3 s3 6 d0 (by omega) (by omega) (by omega)
 obtain ⟨x5, a5, s5, f5, _, _, g0, g1⟩ := spec_l1Cur_pick.ok c hc a4 s4 9 e0 (by omega) (by omega) (by omega)
 rw [spec_DrawAddRung.f.v_eq, hf, Option.bind_some]
 simp only [f2, f3, f4, f5, Option.bind_some]
 exact ⟨_, _, _, _, rfl, h1⟩
theorem spec_l1Cur_one.ok (c : List Int) (hc : isCode c) (at_ s n : Int) (h0 : 0 ≤ at_) (h1 : at_ ≤ 100000000) (hn : 1 ≤ n) (hn2 : n ≤ 200) : ∃ b a' s', spec_l1Cur_one.f c at_ s n = some (b, a', s') ∧ 0 ≤ a' ∧ a' ≤ at_ + 1 := by
 obtain ⟨x, a', s', h, _, _, h2, h3⟩ := spec_l1Cur_pick.ok c hc at_ s n h0 h1 hn hn2
 unfold spec_l1Cur_one.f
 rw [h]
 exact ⟨_, _, _, rfl, h2, h3⟩
theorem spec_l1Cur_spoilt.one_size (x : Int) : (strOfNums [x]).size = 1 := rfl
theorem spec_l1Cur_spoilt.fit (m t k : Nat) (h : m < t) (ht : t + (k + 1) ≤ 150) : m + 1 ≤ 9223372036854775807 ∧ m + 1 + (t - m) ≤ 9223372036854775807 ∧ m + 1 + (t - (m + 1)) ≤ 9223372036854775807 ∧ m + (t - (m + 1)) ≤ 9223372036854775807 ∧ m + 1 + (t - m) + k ≤ 150 ∧ m + 1 + (t - (m + 1)) + k ≤ 150 ∧ m + (t - (m + 1)) + k ≤ 150 ∧ (m : Int) ≤ (t : Int) ∧ ((m + 1 : Nat) : Int) ≤ (t : Int) := by
 refine ⟨?_, ?_, ?_, ?_, ?_, ?_, ?_, ?_, ?_⟩ <;> omega
theorem spec_l1Cur_spoilt.ok_l (c : List Int) (hc : isCode c) (w : ByteArray) (w1 : 1 ≤ w.size) (w2 : w.size ≤ 100) : ∀ (k : Nat) (t : ByteArray) (at_ s : Int), k ≤ 3 → t.size + k ≤ 150 → 0 ≤ at_ → at_ + 3 * k ≤ 1000000 → ∃ r a' s', spec_l1Cur_spoilt.l0.v t w (k : Int) c at_ s = some (r, a', s') ∧ r.size ≤ 150 := by
 intro k
 induction k with
 | zero =>
  intro t at_ s hk ht h0 h1
  rw [spec_l1Cur_spoilt.l0.v_eq, if_neg (by omega), spec_l1Cur_spoilt.j1.v_eq, if_neg Bool.false_ne_true]
  exact ⟨_, _, _, rfl, by omega⟩
 | succ k ih =>
  intro t at_ s hk ht h0 h1
  rw [spec_l1Cur_spoilt.l0.v_eq, if_pos (by omega), spec_l1Cur_spoilt.j1.v_eq]
  by_cases hz : 0 < t.size
  rotate_left
  ·rw [if_neg (by rw [decide_eq_true_eq]; omega)]
   exact ⟨_, _, _, rfl, by omega⟩
  rw [if_pos (by rw [decide_eq_true_eq]; omega)]
  obtain ⟨i, a1, s1, f1, i0, i1, b0, b1⟩ := spec_l1Cur_pick.ok c hc at_ s (t.size : Int) h0 (by omega) (by omega) (by omega)
  obtain ⟨j, a2, s2, f2, j0, j1, c0, c1⟩ := spec_l1Cur_pick.ok c hc a1 s1 (w.size : Int) b0 (by omega) (by omega) (by omega)
  obtain ⟨q, a3, s3, f3, q0, q1, d0, d1⟩ := spec_l1Cur_pick.ok c hc a2 s2 3 c0 (by omega) (by omega) (by omega)
  obtain ⟨m, rfl⟩ := Int.eq_ofNat_of_zero_le i0
  have hm : m < t.size := by omega
  have e0 : wrap64 (((k + 1 : Nat) : Int) - 1) = (k : Int) := by rw [wrap_id (by omega) (by omega)]; omega
  have e1 : wrap64 ((m : Int) + 1) = ((m + 1 : Nat) : Int) := succ_wrap hm (by omega)
  obtain ⟨g1, g2, g3, g4, g5, g6, g7, g8, g9⟩ := spec_l1Cur_spoilt.fit m t.size k hm ht
  have k3 : k ≤ 3 := by omega
  have k4 : a3 + 3 * k ≤ 1000000 := by omega
  have g0 : (0 : Int) ≤ (m : Int) := by omega
  have z1 := spec_l1Cur_spoilt.one_size (bt w j)
  have z2 : (t.extract 0 m).size = m := by rw [ByteArray.size_extract, Nat.min_eq_left (Nat.le_of_lt hm), Nat.sub_zero]
  have z3 : (t.extract m t.size).size = t.size - m := by rw [ByteArray.size_extract, Nat.min_self]
  have z4 : (t.extract (m + 1) t.size).size = t.size - (m + 1) := by rw [ByteArray.size_extract, Nat.min_self]
  rw [f1, Option.bind_some]
  simp only [f2, Option.bind_some]
  rw [if_pos j0, if_pos j1]
  simp only [f3, Option.bind_some, e0, e1, Int.toNat_natCast]
  clear e0 e1 f1 f2 f3
  generalize strOfNums [bt w j] = u at z1 ⊢
  by_cases h : q = 0
  ·rw [if_pos h, if_pos g0, if_pos g8, if_pos (by rw [z2, z1]; exact g1), if_pos (by rw [ByteArray.size_append, z2, z1, z3]; exact g2)]
   exact ih _ a3 s3 k3 (by rw [ByteArray.size_append, ByteArray.size_append, z2, z1, z3]; exact g5) d0 k4
  ·rw [if_neg h]
   by_cases h : q = 1
   ·rw [if_pos h, if_pos g0, if_pos g8, if_pos (by rw [z2, z1]; exact g1), if_pos (Int.natCast_nonneg _), if_pos g9, if_pos (by rw [ByteArray.size_append, z2, z1, z4]; exact g3)]
    exact ih _ a3 s3 k3 (by rw [ByteArray.size_append, ByteArray.size_append, z2, z1, z4]; exact g6) d0 k4
   ·rw [if_neg h, if_pos g0, if_pos g8, if_pos (Int.natCast_nonneg _), if_pos g9, if_pos (by rw [z2, z4]; exact g4)]
    exact ih _ a3 s3 k3 (by rw [ByteArray.size_append, z2, z4]; exact g7) d0 k4
theorem spec_l1Cur_spoilt.ok (c : List Int) (hc : isCode c) (at_ s : Int) (t w : ByteArray) (w1 : 1 ≤ w.size) (w2 : w.size ≤ 100) (h0 : 0 ≤ at_) (h1 : at_ ≤ 10000) (ht : t.size ≤ 140) : ∃ r a' s', spec_l1Cur_spoilt.f.v c at_ s t w = some (r, a', s') ∧ r.size ≤ 150 := by
 obtain ⟨x, a1, s1, f1, x0, x1, b0, b1⟩ := spec_l1Cur_pick.ok c hc at_ s 2 h0 (by omega) (by omega) (by omega)
 rw [spec_l1Cur_spoilt.f.v_eq, f1, Option.bind_some]
 simp only []
 obtain ⟨k, rfl⟩ := Int.eq_ofNat_of_zero_le x0
 rw [wrap_id (x := 1 + (k : Int)) (by omega) (by omega), show 1 + (k : Int) = ((1 + k : Nat) : Int) by omega]
 exact spec_l1Cur_spoilt.ok_l c hc w w1 w2 (1 + k) t a1 s1 (by omega) (by omega) b0 (by omega)
theorem spec_l1Num.one (x : Int) (h0 : 0 ≤ x) (h1 : x < 10) : spec_l1Num.f.v x = some ⟨(digB x).toArray⟩ := by
 rw [spec_l1Num.f.v_eq, if_pos h1, digB_num x h0 h1]
theorem spec_laNumbers.ok_l (l : List Int) (hl : l.length ≤ 1000) (hd : ∀ x ∈ l, 0 ≤ x ∧ x < 10) : ∀ (d i : Nat) (acc : ByteArray), i + d = l.length → acc.data.toList.length ≤ 2 * i → spec_laNumbers.l0.v acc l (l.length : Int) (i : Int) = some ⟨(acc.data.toList ++ digsB (decide (0 < i)) (l.drop i)).toArray⟩ := by
 intro d
 induction d with
 | zero =>
  intro i acc hi ha
  rw [spec_laNumbers.l0.v_eq, if_neg (by omega), List.drop_eq_nil_of_le (by omega), digsB, List.append_nil]
 | succ d ih =>
  intro i acc hi ha
  have h : i < l.length := by omega
  have hx := hd _ (rd_mem l i h)
  have hs := byte_size acc
  rw [spec_laNumbers.l0.v_eq, if_pos (by omega), if_pos (by omega), if_pos (by omega), drop_rd l i h, digsB, spec_l1Num.one _ hx.1 hx.2, succ_wrap h (by omega)]
  have h1 : (⟨(digB (rd l (i : Int))).toArray⟩ : ByteArray).size = 1 := rfl
  have h2 : (⟨#[44]⟩ : ByteArray).size = 1 := rfl
  by_cases c : 0 < i
  ·have e1 := byte_app acc ⟨#[44]⟩
   have e2 := byte_app (acc ++ (⟨#[44]⟩ : ByteArray)) ⟨(digB (rd l (i : Int))).toArray⟩
   have h3 : (acc ++ (⟨#[44]⟩ : ByteArray)).size = acc.size + 1 := by rw [ByteArray.size_append, h2]
   rw [if_pos (by omega), if_pos (by omega), Option.bind_some, if_pos (by omega), decide_eq_true c, if_pos rfl]
   rw [ih (i + 1) _ (by omega) (by rw [e2, e1, List.length_append, List.length_append]; show _ + 1 + 1 ≤ _; omega), e2, e1, decide_eq_true (by omega)]
   simp [List.append_assoc]
  ·obtain rfl : i = 0 := by omega
   have e2 := byte_app acc ⟨(digB (rd l ((0 : Nat) : Int))).toArray⟩
   rw [if_neg (by omega), Option.bind_some, if_pos (by omega), decide_eq_false c, if_neg (by simp)]
   rw [ih (0 + 1) _ (by omega) (by rw [e2, List.length_append]; show _ + 1 ≤ _; omega), e2, decide_eq_true (by omega)]
   simp [List.append_assoc]
theorem spec_laNumbers.ok (l : List Int) (hl : l.length ≤ 1000) (hd : ∀ x ∈ l, 0 ≤ x ∧ x < 10) : spec_laNumbers.f.v l = some (if l.length = 0 then ⟨#[45]⟩ else ⟨(digsB false l).toArray⟩) := by
 rw [spec_laNumbers.f.v_eq]
 by_cases h : l.length = 0
 ·rw [if_pos (by omega), if_pos h]
 ·rw [if_neg (by omega), if_neg h]
  have := spec_laNumbers.ok_l l hl hd l.length 0 ⟨#[]⟩ (by omega) (by simp)
  simpa using this
theorem spec_laText.ok (n : Int) (l : List Int) (hg : good n l = true) : spec_laText.f.v n l = some ⟨(ladB n l).toArray⟩ := by
 have h := good_iff.1 hg
 have hd : ∀ x ∈ l, 0 ≤ x ∧ x < 10 := fun x hx => by have := h.2.2.2 x hx; omega
 have e1 := spec_laNumbers.ok l (by omega) hd
 rw [spec_laText.f.v_eq, spec_l1Num.one n (by omega) (by omega), e1]
 simp only [Option.bind_some]
 have h1 : (⟨(digB n).toArray⟩ : ByteArray).size = 1 := rfl
 have h2 : (⟨#[58]⟩ : ByteArray).size = 1 := rfl
 have h3 : ((⟨(digB n).toArray⟩ : ByteArray) ++ (⟨#[58]⟩ : ByteArray)).size = 2 := by rw [ByteArray.size_append, h1, h2]
 have h4 : (if l.length = 0 then (⟨#[45]⟩ : ByteArray) else ⟨(digsB false l).toArray⟩).size ≤ 1 + 2 * l.length := by
  split
  ·show 1 ≤ _; omega
  ·have := digsB_length false l
   show (digsB false l).length ≤ _; omega
 rw [if_pos (by omega), if_pos (by omega)]
 congr 1
 refine byte_ext ?_
 rw [byte_app, byte_app]
 unfold ladB
 cases l with
 | nil => rfl
 | cons x l => rw [if_neg (by simp), if_neg (by simp)]; simp
theorem spec_DrawParseLadder.ok (c : List Int) (hc : isCode c) : ∃ t, spec_DrawParseLadder.f.v c = some t ∧ t.size ≤ 150 := by
 obtain ⟨n, l, a1, s1, f1, n0, n1, h1, h2, b0, b1⟩ := spec_l1Cur_sureLadder.ok c hc 0 0 6 8 (by omega) (by omega) (by omega) (by omega) (by omega) (by omega)
 have hg : good n l = true := good_iff.2 ⟨n0, by omega, by omega, h2⟩
 obtain ⟨b, a2, s2, f2, c0, c1⟩ := spec_l1Cur_one.ok c hc a1 s1 3 b0 (by omega) (by omega) (by omega)
 have hz : (⟨(ladB n l).toArray⟩ : ByteArray).size ≤ 140 := by
  show (ladB n l).length ≤ 140
  cases l with
  | nil => rw [ladB_nil]; exact (show 3 ≤ 140 by omega)
  | cons x l =>
   rw [ladB_cons]
   have h3 : (digB x).length = 1 := rfl
   simp only [List.length_cons, List.length_append, digsB_len, h3] at h1 ⊢
   omega
 rw [spec_DrawParseLadder.f.v_eq, f1, Option.bind_some]
 simp only [spec_laText.ok n l hg, Option.bind_some]
 rw [f2, Option.bind_some]
 simp only []
 by_cases e : b = true
 ·obtain ⟨r, a3, s3, f3, hr⟩ := spec_l1Cur_spoilt.ok c hc a2 s2 ⟨(ladB n l).toArray⟩ ⟨#[48, 49, 50, 51, 52, 53, 54, 55, 56, 57, 58, 44, 45]⟩ (by decide) (by decide) c0 (by omega) hz
  rw [if_pos e, f3, Option.bind_some]
  exact ⟨_, rfl, hr⟩
 ·rw [if_neg e]
  exact ⟨_, rfl, by omega⟩
theorem spec_DrawRepeatLadder.ok (c : List Int) (hc : isCode c) : ∃ n l k, spec_DrawRepeatLadder.f.v c = some (n, l, k) ∧ l.length ≤ 61 := by
 obtain ⟨b, a1, s1, hf, b0, b1⟩ := spec_l1Cur_one.ok c hc 0 0 10 (by omega) (by omega) (by omega) (by omega)
 rw [spec_DrawRepeatLadder.f.v_eq, hf, Option.bind_some]
 simp only []
 by_cases e : b = true
 ·obtain ⟨n, l, a2, s2, f2, h1, c0, c1⟩ := spec_l1Cur_ladder.ok c hc a1 s1 b0 (by omega)
  obtain ⟨y, a3, s3, f3, d0, d1⟩ := spec_l1Cur_among.ok c hc a2 s2 [-1, 0, 60, 61, 4611686018427387904] c0 (by omega) (by simp) (by simp)
  rw [if_pos e, f2, Option.bind_some]
  simp only [f3, Option.bind_some]
  exact ⟨_, _, _, rfl, h1⟩
 ·obtain ⟨n, l, a2, s2, f2, n0, n1, h1, h2, c0, c1⟩ := spec_l1Cur_sureLadder.ok c hc a1 s1 6 7 (by omega) (by omega) (by omega) (by omega) b0 (by omega)
  obtain ⟨y, a3, s3, f3, _, _, d0, d1⟩ := spec_l1Cur_pick.ok c hc a2 s2 9 c0 (by omega) (by omega) (by omega)
  rw [if_neg e, f2, Option.bind_some]
  simp only [f3, Option.bind_some]
  exact ⟨_, _, _, rfl, by omega⟩
theorem spec_DrawTakeRung.ok (c : List Int) (hc : isCode c) : ∃ n l a, spec_DrawTakeRung.f.v c = some (n, l, a) ∧ l.length ≤ 61 := by
 obtain ⟨n, l, a1, s1, hf, h1, b0, b1⟩ := spec_l1Cur_ladder.ok c hc 0 0 (by omega) (by omega)
 obtain ⟨x2, a2, s2, f2, _, _, c0, c1⟩ := spec_l1Cur_pick.ok c hc a1 s1 9 b0 (by omega) (by omega) (by omega)
 obtain ⟨x3, a3, s3, f3, _, _, d0, d1⟩ := spec_l1Cur_pick.ok c hc a2 s2 9 c0 (by omega) (by omega) (by omega)
 rw [spec_DrawTakeRung.f.v_eq, hf, Option.bind_some]
 simp only [f2, f3, Option.bind_some]
 exact ⟨_, _, _, rfl, h1⟩
theorem spec_DrawIsLadder.ok (c : List Int) (hc : isCode c) : ∃ n l, spec_DrawIsLadder.f.v c = some (n, l) ∧ l.length ≤ 61 := by
 obtain ⟨n, l, a, s, hf, h1, _⟩ := spec_l1Cur_ladder.ok c hc 0 0 (by omega) (by omega)
 rw [spec_DrawIsLadder.f.v_eq, hf, Option.bind_some]
 exact ⟨n, l, rfl, h1⟩
theorem spec_DrawTurnLadder.ok (c : List Int) (hc : isCode c) : ∃ n l, spec_DrawTurnLadder.f.v c = some (n, l) ∧ l.length ≤ 61 := by
 obtain ⟨n, l, hf, h1⟩ := spec_DrawIsLadder.ok c hc
 rw [spec_DrawTurnLadder.f.v_eq, hf, Option.bind_some]
 exact ⟨n, l, rfl, h1⟩
theorem spec_MirrorLadder.ok_l (n : Int) (hn : 0 ≤ n ∧ n ≤ 1000) (m : Int) (xs : List Int) (hx : xs.length ≤ 1000) (hb : ∀ x ∈ xs, -1000 ≤ x ∧ x ≤ 1000) (ys : List Int) : ∀ (d i : Nat) (acc : List Int), i + d = xs.length → acc.length ≤ i → spec_MirrorLadder.l0.v xs xs.length i n ys m acc = some (m, acc ++ (xs.drop i).map (fun x => n - 2 - x), true) := by
 intro d
 induction d with
 | zero =>
  intro i acc hd ha
  rw [spec_MirrorLadder.l0.v_eq, if_neg (cast_nlt (by omega)), List.drop_eq_nil_of_le (by omega), List.map_nil, List.append_nil]
 | succ d ih =>
  intro i acc hd ha
  have h : i < xs.length := by omega
  obtain ⟨h0, h1⟩ := hb _ (rd_mem xs i h)
  rw [spec_MirrorLadder.l0.v_eq, if_pos (cast_lt h), if_pos (Int.natCast_nonneg i), if_pos (cast_lt h), if_pos (by omega), succ_wrap h (by omega), wrap_id (x := n - 2) (by omega) (by omega), wrap_id (x := n - 2 - rd xs (i : Int)) (by omega) (by omega), ih (i + 1) _ (by omega) (by simp; omega), drop_rd xs i h, List.map_cons, List.append_assoc]
  rfl
theorem spec_MirrorLadder.ok (n : Int) (l : List Int) : spec_MirrorLadder.f.v n l = some (if good n l = true then (n, l.map (fun x => n - 2 - x), true) else (0, [], false)) := by
 rw [spec_MirrorLadder.f.v_eq, spec_laGood.ok, Option.bind_some]
 by_cases h : good n l = true
 ·obtain ⟨g1, g2, g3, g4⟩ := good_iff.1 h
  rw [if_pos h, if_pos h]
  have := spec_MirrorLadder.ok_l n (by omega) n l (by omega) (fun x hx => by have := g4 x hx; omega) l l.length 0 [] (by omega) (by simp)
  simpa using this
 ·rw [if_neg h, if_neg h]
theorem spec_laParse.next (s : ByteArray) (hs : s.size ≤ 200) (i : Nat) (hi : i < s.size) (n : Int) (acc : List Int) (ha : acc.length ≤ 1000) (c : Bool) (R : Option (Int × List Int × Bool) → Prop)
    (h1 : R (spec_laParse.l0.v s ((i + 1 : Nat) : Int) n (acc ++ [(bt s (i : Int) - 48) % 256]))) (h2 : R (spec_laParse.l0.v s ((i + 1 : Nat) : Int) n acc)) (h3 : R (some (0, [], false))) : R (spec_laParse.j3.v s (i : Int) c n acc) := by
  rw [spec_laParse.j3.v_eq]
  cases c with
  | true =>
    rw [if_pos rfl, if_pos (by omega), if_pos (by omega), if_pos (by omega), succ_wrap hi (by omega)]; exact h1
  | false =>
    rw [if_neg Bool.false_ne_true]
    by_cases e : Int.tmod (i : Int) 2 = 1
    · rw [if_pos e, if_pos (by omega), if_pos (by omega)]
      by_cases b : bt s (i : Int) = 44
      · rw [if_pos b, succ_wrap hi (by omega)]; exact h2
      · rw [if_neg b]; exact h3
    · rw [if_neg e]; exact h3
theorem spec_laParse.step_ (s : ByteArray) (hs : s.size ≤ 200) (i : Nat) (hi : i < s.size) (n : Int) (acc : List Int) (ha : acc.length ≤ 1000) (R : Option (Int × List Int × Bool) → Prop)
    (h1 : R (spec_laParse.l0.v s ((i + 1 : Nat) : Int) n (acc ++ [(bt s (i : Int) - 48) % 256]))) (h2 : R (spec_laParse.l0.v s ((i + 1 : Nat) : Int) n acc)) (h3 : R (some (0, [], false))) : R (spec_laParse.j2.v s (i : Int) true n acc) := by
  rw [spec_laParse.j2.v_eq, if_pos rfl]
  have hn := fun c => spec_laParse.next s hs i hi n acc ha c R h1 h2 h3
  by_cases e : Int.tmod (i : Int) 2 = 0
  · rw [if_pos e, if_pos (by omega), if_pos (by omega)]
    by_cases b : bt s (i : Int) ≥ 48
    · rw [if_pos b]; exact hn _
    · rw [if_neg b]; exact hn _
  · rw [if_neg e]; exact hn _
def spec_laParse.Q (s : ByteArray) (r : Int × List Int × Bool) : Prop := r = (0, [], false) ∨ ∃ n l, good n l = true ∧ s.data.toList = ladB n l ∧ r = (n, l, true)
theorem spec_laParse.fin (s : ByteArray) (i n : Int) (acc : List Int) : ∃ r, spec_laParse.j2.v s i false n acc = some r ∧ spec_laParse.Q s r ∧ (good n acc = true → s.data.toList = ladB n acc → r = (n, acc, true)) := by
 rw [spec_laParse.j2.v_eq, if_neg Bool.false_ne_true, spec_laGood.ok, Option.bind_some]
 by_cases hg : good n acc = true
 ·rw [if_pos hg, spec_laText.ok n acc hg, Option.bind_some, ByteArray.toList_eq, ByteArray.toList_eq]
  by_cases e : ladB n acc = s.data.toList
  ·rw [if_pos e]
   exact ⟨_, rfl, .inr ⟨n, acc, hg, e.symm, rfl⟩, fun _ _ => rfl⟩
  ·rw [if_neg e]
   exact ⟨_, rfl, .inl rfl, fun _ h => absurd h.symm e⟩
 ·rw [if_neg hg]
  exact ⟨_, rfl, .inl rfl, fun h => absurd h hg⟩
theorem spec_laParse.sound (s : ByteArray) (hs : s.size ≤ 200) : ∀ (d i : Nat) (n : Int) (acc : List Int), i + d = s.size → 2 ≤ i → acc.length ≤ i → ∃ r, spec_laParse.l0.v s (i : Int) n acc = some r ∧ spec_laParse.Q s r := by
 intro d
 induction d with
 | zero =>
  intro i n acc hd h2 ha
  rw [spec_laParse.l0.v_eq, if_neg (by omega)]
  obtain ⟨r, h1, h2, _⟩ := spec_laParse.fin s i n acc
  exact ⟨r, h1, h2⟩
 | succ d ih =>
  intro i n acc hd h2 ha
  rw [spec_laParse.l0.v_eq, if_pos (by omega), if_pos (by omega)]
  cases hf : ((s.extract 2 s.size).toList != ([45] : List UInt8)) with
  | false =>
   obtain ⟨r, h1, h2, _⟩ := spec_laParse.fin s i n acc
   exact ⟨r, h1, h2⟩
  | true =>
   exact spec_laParse.step_ s hs i (by omega) n acc (by omega) (fun v => ∃ r, v = some r ∧ spec_laParse.Q s r) (ih (i + 1) n _ (by omega) (by omega) (by rw [List.length_append, List.length_singleton]; omega)) (ih (i + 1) n _ (by omega) (by omega) (by omega)) ⟨_, rfl, .inl rfl⟩
theorem spec_laParse.dig (s : ByteArray) (hs : s.size ≤ 200) (i : Nat) (hi : i < s.size) (hev : i % 2 = 0) (n x : Int) (acc : List Int) (ha : acc.length ≤ 1000) (x0 : 0 ≤ x) (x1 : x < 10) (hb : bt s (i : Int) = 48 + x) : spec_laParse.j2.v s (i : Int) true n acc = spec_laParse.l0.v s ((i + 1 : Nat) : Int) n (acc ++ [x]) := by
 have e : Int.tmod (i : Int) 2 = 0 := by rw [Int.tmod_eq_emod_of_nonneg (by omega)]; omega
 rw [spec_laParse.j2.v_eq, if_pos rfl, if_pos e, if_pos (by omega), if_pos (by omega), if_pos (by omega), decide_eq_true (by omega), spec_laParse.j3.v_eq, if_pos rfl, if_pos (by omega), if_pos (by omega), if_pos (by omega), succ_wrap hi (by omega), hb, show (48 + x - 48) % 256 = x by omega]
theorem spec_laParse.com (s : ByteArray) (hs : s.size ≤ 200) (i : Nat) (hi : i < s.size) (hod : i % 2 = 1) (n : Int) (acc : List Int) (hb : bt s (i : Int) = 44) : spec_laParse.j2.v s (i : Int) true n acc = spec_laParse.l0.v s ((i + 1 : Nat) : Int) n acc := by
 have e : Int.tmod (i : Int) 2 = 1 := by rw [Int.tmod_eq_emod_of_nonneg (by omega)]; omega
 rw [spec_laParse.j2.v_eq, if_pos rfl, if_neg (by omega), spec_laParse.j3.v_eq, if_neg Bool.false_ne_true, if_pos e, if_pos (by omega), if_pos (by omega), if_pos hb, succ_wrap hi (by omega)]
theorem spec_laParse.read (s : ByteArray) (hs : s.size ≤ 200) (n : Int) (hf : ((s.extract 2 s.size).toList != ([45] : List UInt8)) = true) : ∀ (r : List Int) (x : Int) (i : Nat) (acc : List Int), (∀ y ∈ x :: r, 0 ≤ y ∧ y < 10) → s.data.toList.drop i = digB x ++ digsB true r → i % 2 = 0 → 2 ≤ i → acc.length + r.length ≤ 900 → ∃ j : Int, spec_laParse.l0.v s (i : Int) n acc = spec_laParse.j2.v s j false n (acc ++ x :: r) := by
 intro r
 induction r with
 | nil =>
  intro x i acc hd hi hev h2 ha
  have hx := hd x (by simp)
  obtain ⟨b1, b2, b3⟩ := bt_drop (t := []) hi
  rw [digU x hx.1 hx.2] at b2
  have hz : s.size = s.data.toList.length := rfl
  have hl := List.drop_eq_nil_iff.1 b3
  rw [spec_laParse.l0.v_eq, if_pos (by omega), if_pos (by omega), hf, spec_laParse.dig s hs i b1 hev n x acc (by omega) hx.1 hx.2 (by omega), spec_laParse.l0.v_eq, if_neg (by omega)]
  exact ⟨_, rfl⟩
 | cons y r ih =>
  intro x i acc hd hi hev h2 ha
  have hx := hd x (by simp)
  obtain ⟨b1, b2, b3⟩ := bt_drop (t := digsB true (y :: r)) hi
  rw [digU x hx.1 hx.2] at b2
  rw [digsB, if_pos rfl, List.append_assoc] at b3
  obtain ⟨c1, c2, c3⟩ := bt_drop (t := digB y ++ digsB true r) b3
  rw [List.length_cons] at ha
  rw [spec_laParse.l0.v_eq, if_pos (by omega), if_pos (by omega), hf, spec_laParse.dig s hs i b1 hev n x acc (by omega) hx.1 hx.2 (by omega), spec_laParse.l0.v_eq, if_pos (by omega), if_pos (by omega), hf, spec_laParse.com s hs (i + 1) c1 (by omega) n _ c2]
  obtain ⟨j, hj⟩ := ih y (i + 1 + 1) (acc ++ [x]) (fun z hz => hd z (by simp at hz ⊢; exact .inr hz)) c3 (by omega) (by omega) (by rw [List.length_append, List.length_singleton]; omega)
  exact ⟨j, by rw [hj, List.append_assoc]; rfl⟩
theorem spec_laParse.sound_f (s : ByteArray) : ∃ r, spec_laParse.f.v s = some r ∧ spec_laParse.Q s r := by
 have hb : ∃ r, spec_laParse.j0.v s true = some r ∧ spec_laParse.Q s r := by
  rw [spec_laParse.j0.v_eq, if_pos rfl]; exact ⟨_, rfl, .inl rfl⟩
 rw [spec_laParse.f.v_eq]
 by_cases h1 : (s.size : Int) < 3
 ·rw [if_pos h1]; exact hb
 ·rw [if_neg h1]
  by_cases h2 : (s.size : Int) > 121
  ·rw [if_pos h2]; exact hb
  ·rw [if_neg h2, if_pos (by omega)]
   by_cases h3 : bt s 0 < 50
   ·rw [if_pos h3]; exact hb
   ·rw [if_neg h3]
    by_cases h4 : bt s 0 > 56
    ·rw [if_pos h4]; exact hb
    ·rw [if_neg h4, if_pos (by omega)]
     cases (bt s 1 != 58) with
     | true => exact hb
     | false =>
      rw [spec_laParse.j0.v_eq, if_neg Bool.false_ne_true, if_pos (by omega)]
      exact spec_laParse.sound s (by omega) (s.size - 2) 2 _ [] (by omega) (by omega) (by simp)
theorem spec_laParse.of (s : ByteArray) (n : Int) (l : List Int) (hg : good n l = true) (hs : s.data.toList = ladB n l) : spec_laParse.f.v s = some (n, l, true) := by
 have g := good_iff.1 hg
 have hz : s.size = s.data.toList.length := rfl
 have hlen : 3 ≤ s.size ∧ s.size ≤ 121 := by
  rw [hz, hs]
  cases l with
  | nil => rw [ladB_nil]; show 3 ≤ 3 ∧ 3 ≤ 121; omega
  | cons x l =>
   rw [ladB_cons]
   simp only [List.length_cons, List.length_append, digsB_len] at g ⊢
   show 3 ≤ 1 + 2 * l.length + 1 + 1 ∧ _ ≤ 121
   have : (digB x).length = 1 := rfl
   omega
 have h0 : bt s ((0 : Nat) : Int) = 48 + n ∧ bt s ((1 : Nat) : Int) = 58 := by
  have e : s.data.toList.drop 0 = UInt8.ofNat (48 + n.toNat) :: 58 :: (if l = [] then [45] else digsB false l) := by rw [List.drop_zero, hs]; rfl
  obtain ⟨_, b2, b3⟩ := bt_drop e
  obtain ⟨_, c2, _⟩ := bt_drop b3
  rw [digU n (by omega) (by omega)] at b2
  exact ⟨by rw [b2]; omega, c2⟩
 obtain ⟨h0, h1⟩ := h0
 replace h0 : bt s 0 = 48 + n := h0
 replace h1 : bt s 1 = 58 := h1
 have hd := drop_bytes2 s 2
 rw [spec_laParse.f.v_eq, if_neg (by omega), if_neg (by omega), if_pos (by omega), if_neg (by omega), if_neg (by omega), if_pos (by omega), h1, show ((58 : Int) != 58) = false from rfl, spec_laParse.j0.v_eq, if_neg Bool.false_ne_true, if_pos (by omega), h0, show (48 + n - 48) % 256 = n by omega]
 have hend : ∃ j : Int, spec_laParse.l0.v s 2 n [] = spec_laParse.j2.v s j false n l := by
  cases l with
  | nil =>
   have hf : ((s.extract 2 s.size).toList != ([45] : List UInt8)) = false := by
    rw [ByteArray.toList_eq, hd, hs, ladB_nil]; rfl
   rw [spec_laParse.l0.v_eq, if_pos (by omega), if_pos (by omega), hf]
   exact ⟨_, rfl⟩
  | cons x l =>
   have hx := g.2.2.2 x (by simp)
   have hf : ((s.extract 2 s.size).toList != ([45] : List UInt8)) = true := by
    rw [ByteArray.toList_eq, hd, hs, ladB_cons, bne_iff_ne]
    intro e
    exact dig_ne x (by omega) (by omega) 45 (by decide) (List.cons.inj e).1
   have := spec_laParse.read s (by omega) n hf l x 2 [] (fun y hy => by have := g.2.2.2 y hy; omega) (by rw [hs, ladB_cons]; rfl) (by omega) (by omega) (by have := g.2.2.1; rw [List.length_cons] at this; simp; omega)
   exact this
 obtain ⟨j, hj⟩ := hend
 obtain ⟨r, h2, _, h3⟩ := spec_laParse.fin s j n l
 rw [hj, h2, h3 hg hs]
theorem spec_laParse.ok (s : ByteArray) : spec_laParse.f.v s = some (parI s.data.toList) := by
 obtain ⟨r, h1, h2⟩ := spec_laParse.sound_f s
 have hs : (⟨s.data.toList.toArray⟩ : ByteArray) = s := byte_ext rfl
 have := parse_same (fun t => (spec_laParse.f.v (⟨t.toArray⟩ : ByteArray)).getD (0, [], false)) (fun n l hg => by
  show (spec_laParse.f.v (⟨(ladB n l).toArray⟩ : ByteArray)).getD (0, [], false) = _
  rw [spec_laParse.of _ n l hg rfl]; rfl) s.data.toList (by
  simp only [hs, h1, Option.getD_some]
  exact h2)
 simp only [hs, h1, Option.getD_some] at this
 rw [h1, this]
theorem spec_ParseLadder.ok (s : ByteArray) : spec_ParseLadder.f.v s = some (parI s.data.toList) := by
 rw [spec_ParseLadder.f.v_eq, spec_laParse.ok, Option.bind_some]
theorem spec_RepeatLadder.ok_l (n : Int) (l : List Int) (hl : 0 < l.length) (hl2 : l.length ≤ 60) (m : Int) : ∀ (d : Nat) (acc : List Int), d ≤ 60 → acc.length + d * l.length ≤ 100000 → spec_RepeatLadder.l0.v (d : Int) n l m acc = some (m, acc ++ repL l d, true) := by
 intro d
 induction d with
 | zero =>
  intro acc _ _
  rw [spec_RepeatLadder.l0.v_eq, if_neg (by omega)]
  simp [repL]
 | succ d ih =>
  intro acc h1 h2
  rw [Nat.succ_mul] at h2
  rw [spec_RepeatLadder.l0.v_eq, if_pos (by omega), if_pos (by omega), if_pos (by omega), wrap_id (x := ((d + 1 : Nat) : Int) - 1) (by omega) (by omega), show ((d + 1 : Nat) : Int) - 1 = (d : Int) by omega, ih _ (by omega) (by rw [List.length_append]; omega), repL_succ, List.append_assoc]
theorem spec_RepeatLadder.ok (n : Int) (l : List Int) (k : Int) : spec_RepeatLadder.f.v n l k = some (if good n l = true ∧ canRep l k = true then (n, (if l.length = 0 then [] else repL l k.toNat), true) else (0, [], false)) := by
 rw [spec_RepeatLadder.f.v_eq, spec_laGood.ok, Option.bind_some]
 by_cases h : good n l = true
 ·have g := good_iff.1 h
  rw [if_pos h]
  by_cases h0 : k < 0
  ·rw [if_pos h0, spec_RepeatLadder.j0.v_eq, if_pos rfl, if_neg]
   rintro ⟨_, h2⟩
   unfold canRep at h2
   simp only [Bool.and_eq_true, decide_eq_true_eq] at h2
   omega
  ·rw [if_neg h0]
   by_cases hl : l.length = 0
   ·rw [if_neg (by omega), spec_RepeatLadder.j0.v_eq, if_neg Bool.false_ne_true, spec_RepeatLadder.l0.v_eq, if_neg (show ¬ (l.length : Int) > 0 by omega), ite_self, if_pos ⟨h, by unfold canRep; simp [hl]; omega⟩, if_pos hl]
   ·have s := sixty l.length (by omega)
    rw [if_pos (by omega), if_neg (by omega), wrap_id (by omega) (by omega), spec_RepeatLadder.j0.v_eq]
    by_cases h2 : k > (60 : Int) / (l.length : Int)
    ·rw [decide_eq_true h2, if_pos rfl, if_neg]
     rintro ⟨_, h3⟩
     unfold canRep at h3
     simp only [Bool.and_eq_true, Bool.or_eq_true, decide_eq_true_eq] at h3
     omega
    ·have h5 := Int.toNat_of_nonneg (show 0 ≤ k by omega)
     have e := spec_RepeatLadder.ok_l n l (by omega) g.2.2.1 n k.toNat [] (by omega) (by
      have h6 : k.toNat * l.length ≤ 60 * 60 := Nat.mul_le_mul (by omega) g.2.2.1
      rw [List.length_nil]; omega)
     rw [h5, List.nil_append] at e
     rw [decide_eq_false h2, if_neg Bool.false_ne_true, e, if_pos ⟨h, by unfold canRep; simp only [Bool.and_eq_true, Bool.or_eq_true, decide_eq_true_eq]; omega⟩, if_neg hl]
 ·rw [if_neg h, spec_RepeatLadder.j0.v_eq, if_pos rfl, if_neg (fun x => h x.1)]
theorem spec_TakeRung.ok (n : Int) (l : List Int) (a : Int) : spec_TakeRung.f.v n l a = some (if good n l = true ∧ 0 ≤ a ∧ a < l.length then (n, woL l a, true) else (0, [], false)) := by
 rw [spec_TakeRung.f.v_eq, spec_laGood.ok, Option.bind_some]
 by_cases h : good n l = true
 ·have g := good_iff.1 h
  rw [if_pos h, wrap_id (x := (l.length : Int) - 1) (by omega) (by omega)]
  unfold spec_l1In.f
  by_cases h0 : 0 ≤ a
  ·rw [if_pos h0, Option.bind_some]
   by_cases h1 : a < l.length
   ·rw [decide_eq_true (show a ≤ (l.length : Int) - 1 by omega), if_pos rfl, if_pos h0, if_pos (by omega), spec_l1Own.ok _ (by rw [List.length_take]; omega), Option.bind_some, wrap_id (x := a + 1) (by omega) (by omega), if_pos (by omega), if_pos (by omega), Option.bind_some, if_pos (by rw [List.length_take, List.length_drop]; omega), if_pos ⟨h, h0, h1⟩, woL, show (a + 1).toNat = a.toNat + 1 by omega]
   ·rw [decide_eq_false (by omega), if_neg (by simp), if_neg (fun x => h1 x.2.2)]
  ·rw [if_neg h0, Option.bind_some, if_neg (by simp), if_neg (fun x => h0 x.2.1)]
 ·rw [if_neg h, if_neg (fun x => h x.1)]
theorem spec_TurnLadder.ok_l (n : Int) (l : List Int) (hn : l.length ≤ 1000) (m : Int) : ∀ (k : Nat) (acc : List Int), k ≤ l.length → acc.length + k ≤ 1000 → spec_TurnLadder.l0.v ((k : Int) - 1) n l m acc = some (m, acc ++ (l.take k).reverse, true) := by
 intro k
 induction k with
 | zero =>
  intro acc hk ha
  rw [spec_TurnLadder.l0.v_eq, if_neg (by omega), List.take_zero, List.reverse_nil, List.append_nil]
 | succ k ih =>
  intro acc hk ha
  rw [show ((k + 1 : Nat) : Int) - 1 = (k : Int) by omega, spec_TurnLadder.l0.v_eq, if_pos (by omega), if_pos (by omega), if_pos (by omega), if_pos (by omega), wrap_id (x := (k : Int) - 1) (by omega) (by omega), ih _ (by omega) (by simp; omega), take_rd l k (by omega), List.reverse_append, List.append_assoc]
  rfl
theorem spec_TurnLadder.ok (n : Int) (l : List Int) : spec_TurnLadder.f.v n l = some (if good n l = true then (n, l.reverse, true) else (0, [], false)) := by
 rw [spec_TurnLadder.f.v_eq, spec_laGood.ok, Option.bind_some]
 by_cases h : good n l = true
 ·have g3 := (good_iff.1 h).2.2.1
  rw [if_pos h, if_pos h, wrap_id (x := (l.length : Int) - 1) (by omega) (by omega)]
  have := spec_TurnLadder.ok_l n l (by omega) n l.length [] (Nat.le_refl _) (by simp; omega)
  simpa using this
 ·rw [if_neg h, if_neg h]
def lcT (n : Int) (l : List Int) : ByteArray := if good n l = true then ⟨(ladB n l).toArray⟩ else ⟨#[]⟩
theorem lc_textI (n : Int) (l : List Int) : impl_LadderText.f.v n l = some (lcT n l, good n l) := by
 rw [impl_LadderText.f.v_eq, impl_isLadder.ok, Option.bind_some]
 unfold lcT
 by_cases h : good n l = true
 ·rw [if_pos h, if_pos h, impl_ladderText.ok n l h, h]; rfl
 ·rw [if_neg h, if_neg h, Bool.not_eq_true _ |>.mp h]
theorem lc_textS (n : Int) (l : List Int) : spec_LadderText.f.v n l = some (lcT n l, good n l) := by
 rw [spec_LadderText.f.v_eq, spec_laGood.ok, Option.bind_some]
 unfold lcT
 by_cases h : good n l = true
 ·rw [if_pos h, if_pos h, spec_laText.ok n l h, h]; rfl
 ·rw [if_neg h, if_neg h, Bool.not_eq_true _ |>.mp h]
theorem lc_size (n : Int) (l : List Int) (h : good n l = true) : (lcT n l).size ≤ 1048576 := by
 have g := good_iff.1 h
 unfold lcT
 rw [if_pos h]
 show (ladB n l).length ≤ _
 cases l with
 | nil => rw [ladB_nil]; exact (show 3 ≤ 1048576 by omega)
 | cons x l =>
  rw [ladB_cons]
  have h3 : (digB x).length = 1 := rfl
  simp only [List.length_cons, List.length_append, digsB_len, h3] at g ⊢
  omega
theorem lc_self (n : Int) (l : List Int) (h : l.length ≤ 1000) : ∃ k, laws_kLadder.f k n l n l = some true := laws_kLadder.f.ends _ _ _ _ (laws_kLadder.self n l h)
theorem lc_ok (n : Int) (l : List Int) (hg : good n l = true) : LcOk n l n l.reverse n (l.map fun x => n - 2 - x) (lcT n l) := by
 have g := good_iff.1 hg
 have ho := isOrd_resL hg
 have hl := resL_length n l
 have hr := good_rev hg
 have hm : good n (l.map fun x => n - 2 - x) = true := good_mir hg
 refine ⟨resL n l, backL (resL n l), resL n (l.map fun x => n - 2 - x), sgn 1 (invC (resL n l)), laws_kResult.f.ends _ _ (by rw [laws_kResult.ok, if_pos hg]), impl_BackOrder.f.ends _ (by rw [impl_BackOrder.ok, if_pos ho]), laws_kResult.f.ends _ _ (by rw [laws_kResult.ok, if_pos hm]), impl_ParseLadder.f.ends _ ?_, impl_SignOf.f.ends _ (by rw [impl_SignOf.ok, if_pos ho]), laws_kResult.f.ends _ _ (by rw [laws_kResult.ok, if_pos hr, resL_rev hg]), laws_kSame.f.ends _ _ (laws_kSame.self _ (by rw [backL_length]; omega)), lc_self n l (by omega), sgn_len hg, g.1, g.2.1, by omega, by rw [resL_length, hl], fun i hi => ?_⟩
 ·rw [impl_ParseLadder.ok _ (lc_size n l hg)]
  unfold lcT
  rw [if_pos hg]
  exact congrArg some (parI_of n l hg)
 ·have hb := isOrd_rd ho i hi
  exact ⟨hb.1, by omega, resL_mir hg i hi⟩
theorem lc_head (l0 : List Int) (c0 : isCode l0) : LcHead l0 := by
 obtain ⟨n, l, hf, hl⟩ := spec_DrawTurnLadder.ok l0 c0
 have hd := spec_DrawTurnLadder.f.ends l0 hf
 have i1 := impl_TurnLadder.ok n l
 have s1 := spec_TurnLadder.ok n l
 have i2 := impl_MirrorLadder.ok n l
 have s2 := spec_MirrorLadder.ok n l
 have i3 := lc_textI n l
 have s3 := lc_textS n l
 by_cases hg : good n l = true
 ·rw [if_pos hg] at i1 s1 i2 s2
  rw [hg] at i3 s3
  exact ⟨n, l, n, l.reverse, n, _, lcT n l, true, hd, impl_TurnLadder.f.ends _ _ i1, spec_TurnLadder.f.ends _ _ s1, impl_MirrorLadder.f.ends _ _ i2, spec_MirrorLadder.f.ends _ _ s2, impl_LadderText.f.ends _ _ i3, spec_LadderText.f.ends _ _ s3, lc_self _ _ (by rw [List.length_reverse]; omega), lc_self _ _ (by rw [List.length_map]; omega), by rw [impl_IsLadder.ok, hg], fun _ => lc_ok n l hg⟩
 ·have hg' : good n l = false := by simpa using hg
  rw [if_neg hg] at i1 s1 i2 s2
  rw [hg'] at i3 s3
  exact ⟨n, l, 0, [], 0, [], lcT n l, false, hd, impl_TurnLadder.f.ends _ _ i1, spec_TurnLadder.f.ends _ _ s1, impl_MirrorLadder.f.ends _ _ i2, spec_MirrorLadder.f.ends _ _ s2, impl_LadderText.f.ends _ _ i3, spec_LadderText.f.ends _ _ s3, lc_self _ _ (by simp), lc_self _ _ (by simp), by rw [impl_IsLadder.ok, hg'], fun h => (by cases h)⟩
theorem lc_one_ok (l1 : List Int) (c1 : isCode l1) : LcOne l1 := by
 obtain ⟨an, al, ap, ru, hf, hl⟩ := spec_DrawAddRung.ok l1 c1
 have hd := spec_DrawAddRung.f.ends l1 hf
 obtain ⟨bn, bl, kk, hf2, hl2⟩ := spec_DrawTakeRung.ok l1 c1
 have hd2 := spec_DrawTakeRung.f.ends l1 hf2
 have i1 := impl_AddRung.ok an al ap ru
 have s1 := spec_AddRung.ok an al ap ru
 have i2 := impl_TakeRung.ok bn bl kk
 have s2 := spec_TakeRung.ok bn bl kk
 obtain ⟨dn, dl, five, e1, e2, hdl, hF⟩ : ∃ dn dl five, impl_AddRung.f.v an al ap ru = some (dn, dl, five) ∧ spec_AddRung.f.v an al ap ru = some (dn, dl, five) ∧ dl.length ≤ 1000 ∧ (five = true → LcFive an al ap ru dn dl) := by
  by_cases h : good an al = true ∧ 0 ≤ ap ∧ ap ≤ al.length ∧ good an (addL al ap ru) = true
  ·rw [if_pos h] at i1 s1
   obtain ⟨h1, h2, h3, h4⟩ := h
   have hlen := addL_length al ap ru h2 h3
   have hr := rd_addL al ap ru h2 h3
   refine ⟨_, _, _, i1, s1, by omega, fun _ => ⟨impl_TakeRung.f.ends _ _ _ (by rw [impl_TakeRung.ok, if_pos ⟨h4, h2, by omega⟩, woL_addL al ap ru h2 h3]), lc_self _ _ (by omega), ap.toNat, by omega, by omega, ?_⟩⟩
   rw [Int.toNat_of_nonneg h2]; exact hr
  ·rw [if_neg h] at i1 s1
   exact ⟨_, _, _, i1, s1, by simp, fun h => (by cases h)⟩
 obtain ⟨en, el, seven, e3, e4, hel, hS⟩ : ∃ en el seven, impl_TakeRung.f.v bn bl kk = some (en, el, seven) ∧ spec_TakeRung.f.v bn bl kk = some (en, el, seven) ∧ el.length ≤ 1000 ∧ (seven = true → LcSeven bn bl kk en el) := by
  by_cases h : good bn bl = true ∧ 0 ≤ kk ∧ kk < bl.length
  ·rw [if_pos h] at i2 s2
   obtain ⟨h1, h2, h3⟩ := h
   have hlen := woL_length bl kk h2 h3
   obtain ⟨i, rfl⟩ := Int.eq_ofNat_of_zero_le h2
   have ha := addL_woL bl (i : Int) h2 h3
   refine ⟨_, _, _, i2, s2, by omega, fun _ => ⟨i, rfl, by omega, impl_AddRung.f.ends _ _ _ _ (by rw [impl_AddRung.ok, if_pos ⟨good_woL h1 _ h2 h3, h2, by omega, by rw [ha]; exact h1⟩, ha]), lc_self _ _ (by omega)⟩⟩
  ·rw [if_neg h] at i2 s2
   exact ⟨_, _, _, i2, s2, by simp, fun h => (by cases h)⟩
 exact ⟨an, al, ap, ru, dn, dl, five, bn, bl, kk, en, el, seven, hd, impl_AddRung.f.ends _ _ _ _ e1, spec_AddRung.f.ends _ _ _ _ e2, hd2, impl_TakeRung.f.ends _ _ _ e3, spec_TakeRung.f.ends _ _ _ e4, lc_self _ _ hdl, lc_self _ _ hel, hF, hS⟩
theorem lc_two_ok (l1 : List Int) (c1 : isCode l1) : LcTwo l1 := by
 obtain ⟨cn, cl, rn, hf, hl⟩ := spec_DrawRepeatLadder.ok l1 c1
 have hd := spec_DrawRepeatLadder.f.ends l1 hf
 have i1 := impl_RepeatLadder.ok cn cl rn
 have s1 := spec_RepeatLadder.ok cn cl rn
 by_cases h : good cn cl = true ∧ canRep cl rn = true
 ·rw [if_pos h] at i1 s1
  have h2 := repL_small cl rn h.2
  refine ⟨cn, cl, rn, cn, repsL cl rn, true, hd, impl_RepeatLadder.f.ends _ _ _ i1, spec_RepeatLadder.f.ends _ _ _ s1, lc_self _ _ (Nat.le_trans h2 (by decide)), fun _ h0 _ => ?_⟩
  have hc := canRep_less h.2 h0
  have hn := repsL_next (l := cl) h0
  refine ⟨cn, repsL cl (rn - 1), impl_RepeatLadder.f.ends _ _ _ (by rw [impl_RepeatLadder.ok, if_pos ⟨h.1, hc⟩]; rfl), impl_BelowLadder.f.ends _ _ _ _ (by rw [impl_BelowLadder.ok, hn, if_pos ⟨⟨good_reps h.1 hc, h.1, rfl⟩, good_reps h.1 h.2⟩]), lc_self _ _ (Nat.le_trans h2 (by decide))⟩
 ·rw [if_neg h] at i1 s1
  exact ⟨cn, cl, rn, 0, [], false, hd, impl_RepeatLadder.f.ends _ _ _ i1, spec_RepeatLadder.f.ends _ _ _ s1, lc_self _ _ (by simp), fun h => (by cases h)⟩
theorem lc_last_ok (l1 : List Int) (c1 : isCode l1) : LcLast l1 := by
 obtain ⟨st, hf, hl⟩ := spec_DrawParseLadder.ok l1 c1
 have hd := spec_DrawParseLadder.f.ends l1 hf
 have i1 := impl_ParseLadder.ok st (by omega)
 have s1 := spec_ParseLadder.ok st
 rcases parI_or st.data.toList with h | ⟨n, l, hg, ht, h⟩
 ·rw [h] at i1 s1
  exact ⟨st, 0, [], false, hd, impl_ParseLadder.f.ends _ i1, spec_ParseLadder.f.ends _ s1, lc_self _ _ (by simp), fun h => (by cases h)⟩
 ·rw [h] at i1 s1
  have g := good_iff.1 hg
  refine ⟨st, n, l, true, hd, impl_ParseLadder.f.ends _ i1, spec_ParseLadder.f.ends _ s1, lc_self _ _ (by omega), fun _ => impl_LadderText.f.ends _ _ ?_⟩
  rw [lc_textI, hg]
  unfold lcT
  rw [if_pos hg, ← ht]
theorem FnLaddersChanged : laws_FnLaddersChanged.Pure := by
 intro l0 l1 _ _ h0 _ _ h1
 unfold laws_FnLaddersChanged.Ok laws_big.f
 by_cases e0 : (l0.length : Int) > 1048576
 ·rw [if_pos e0]; exact Or.inl rfl
 ·rw [if_neg e0, wrap_id (x := 1048576 - (l0.length : Int)) (by omega) (by omega)]
  by_cases e1 : (l1.length : Int) > 1048576 - (l0.length : Int)
  ·rw [decide_eq_true e1]; exact Or.inl rfl
  ·rw [decide_eq_false e1]
   have c1 : isCode l1 := ⟨fun x hx => u8_bounds (h1 x hx), by omega⟩
   exact Or.inr ⟨rfl, lc_head l0 ⟨fun x hx => u8_bounds (h0 x hx), by omega⟩, lc_one_ok l1 c1, lc_two_ok l1 c1, lc_last_ok l1 c1⟩
end Go.Proofs.YtlmiiijjjcddkaaGreatDoor.Pure
