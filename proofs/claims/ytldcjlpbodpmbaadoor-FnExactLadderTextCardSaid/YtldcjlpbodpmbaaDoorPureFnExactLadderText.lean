/- Proved: for every input the law FnExactLadderText returns true (its plain statement, over numbers and lists). No condition. -/
import Derived.Test.YtldcjlpbodpmbaaDoorPLtx6
import Derived.Test.YtldcjlpbodpmbaaDoorVLtx1
import Derived.Test.YtldcjlpbodpmbaaDoorVLtx2
import Derived.Test.YtldcjlpbodpmbaaDoorVLtx3
import Derived.Test.YtldcjlpbodpmbaaDoorVLtx4
import Derived.Test.YtldcjlpbodpmbaaDoorVLtx5
import Derived.Test.YtldcjlpbodpmbaaDoorVLtx6
import Derived.Test.YtldcjlpbodpmbaaDoorLadders
import Derived.Test.YtldcjlpbodpmbaaDoorPlain
import Derived.Test.YtldcjlpbodpmbaaDoorTexts
namespace Go.Proofs.YtldcjlpbodpmbaaDoor.Pure
open Go.RowKit Go.Proofs.YtldcjlpbodpmbaaDoor.PLt Go.Proofs.YtldcjlpbodpmbaaDoorW.PrintWords Go.Proofs.YtldcjlpbodpmbaaDoorW.PrintLast Go.Proofs.YtldcjlpbodpmbaaDoorW.PrintMore Go.Proofs.YtldcjlpbodpmbaaDoorL
set_option linter.unusedVariables false
set_option linter.unusedSimpArgs false

theorem impl_isLadder.ok (n : Int) (l : List Int) : impl_isLadder.f n l = some (good n l) := by
  unfold impl_isLadder.f good
  have h : (!(l.any (impl_isLadder.bad n))) = l.all (inB n) := by
    rw [List.not_any_eq_all_not]
    congr 1; funext x
    unfold impl_isLadder.bad inB
    exact Bool.not_not _
  rw [h]

theorem impl_listText.itoa (x : Int) (h0 : 0 ≤ x) (h1 : x < 10) : strconv_Itoa_32.f x = some ⟨(digB x).toArray⟩ := by
  unfold strconv_Itoa_32.f
  rw [if_pos ⟨h0, by omega⟩, digB_itoa x h0 h1]
theorem impl_listText.ok_l (l : List Int) (hl : l.length ≤ 1000) (hd : ∀ x ∈ l, 0 ≤ x ∧ x < 10) : ∀ (d i : Nat), i + d = l.length → impl_listText.l0.v ((l.take i).map fun x => ⟨(digB x).toArray⟩) l (l.length : Int) (i : Int) = some (if l.length = 0 then ⟨#[45]⟩ else ⟨(digsB false l).toArray⟩) := by
  intro d
  induction d with
  | zero =>
    intro i hi
    rw [impl_listText.l0.v_eq, if_neg (by omega), List.take_of_length_le (by omega), List.length_map]
    by_cases h : l.length = 0
    · rw [if_pos (by omega), if_pos h]
    · rw [if_neg (by omega), if_neg h]
      unfold strings_Join.f
      have e : ((l.map fun x => (⟨(digB x).toArray⟩ : ByteArray)).map fun x => x.data.toList) = l.map digB := by rw [List.map_map]; rfl
      rw [e, show (⟨#[44]⟩ : ByteArray).data.toList = [44] from rfl, digsB_join, List.length_map]
      have := digsB_length false l
      rw [if_pos ⟨hl, by omega⟩]; rfl
  | succ d ih =>
    intro i hi
    have h : i < l.length := by omega
    have hx := hd _ (rd_mem l i h)
    rw [impl_listText.l0.v_eq, if_pos (by omega), if_pos (by omega), if_pos (by omega), impl_listText.itoa _ hx.1 hx.2, Option.bind_some, if_pos (by rw [List.length_map, List.length_take]; omega), succ_wrap h (by omega)]
    have := ih (i + 1) (by omega)
    rw [take_rd l i h, List.map_append] at this
    exact this
theorem impl_listText.ok (l : List Int) (hl : l.length ≤ 1000) (hd : ∀ x ∈ l, 0 ≤ x ∧ x < 10) : impl_listText.f.v l = some (if l.length = 0 then ⟨#[45]⟩ else ⟨(digsB false l).toArray⟩) := by
  rw [impl_listText.f.v_eq]
  have := impl_listText.ok_l l hl hd l.length 0 (by omega)
  simpa using this

theorem laws_eqIntS.ok_l (xs : List Int) (hn : xs.length ≤ 140737488355328) : ∀ (d i : Nat), xs.length - i = d → laws_eqIntS.l0.v xs xs i = some true := by
  intro d
  induction d with
  | zero =>
    intro i hd
    rw [laws_eqIntS.l0.v_eq, if_neg (cast_nlt (by omega))]
  | succ d ih =>
    intro i hd
    have h : i < xs.length := by omega
    rw [laws_eqIntS.l0.v_eq, if_pos (cast_lt h), if_pos (Int.natCast_nonneg i), if_pos (cast_lt h), if_pos rfl, succ_wrap h hn]
    exact ih (i + 1) (by omega)
theorem laws_eqIntS.ok (xs : List Int) (hn : xs.length ≤ 140737488355328) : laws_eqIntS.f.v xs xs = some true := by
  rw [laws_eqIntS.f.v_eq, if_pos rfl]
  exact laws_eqIntS.ok_l xs hn xs.length 0 (by omega)

theorem laws_eqLadder.ok (n : Int) (l : List Int) (h : l.length ≤ 140737488355328) : laws_eqLadder.f.v n l n l = some true := by
  rw [laws_eqLadder.f.v_eq, if_pos rfl, laws_eqIntS.ok l h]; rfl

theorem laws_szLadder.ok (n : Int) (l : List Int) (h : l.length ≤ 1048576) : laws_szLadder.f n l 1048576 = some (1048576 - (l.length : Int)) := by
  unfold laws_szLadder.f laws_szIntS.f
  rw [wrap_id (by omega) (by omega), if_neg (by omega), Option.bind_some, if_neg (by omega)]
theorem laws_szLadder.no (n : Int) (l : List Int) (h : ¬ l.length ≤ 1048576) (h2 : l.length * 8 ≤ 140737488351232) : laws_szLadder.f n l 1048576 = some (-1) := by
  unfold laws_szLadder.f laws_szIntS.f
  rw [wrap_id (by omega) (by omega), if_pos (by omega), Option.bind_some, if_pos (by omega)]
theorem laws_szLadder.ok' (n : Int) (l : List Int) (t : Int) (ht : 0 ≤ t ∧ t ≤ 1048576) (h : (l.length : Int) ≤ t) : laws_szLadder.f n l t = some (t - (l.length : Int)) := by
  unfold laws_szLadder.f laws_szIntS.f
  rw [wrap_id (by omega) (by omega), if_neg (by omega), Option.bind_some, if_neg (by omega)]
theorem laws_szLadder.no' (n : Int) (l : List Int) (t : Int) (ht : 0 ≤ t ∧ t ≤ 1048576) (h : ¬ (l.length : Int) ≤ t) (h2 : l.length * 8 ≤ 140737488351232) : laws_szLadder.f n l t = some (-1) := by
  unfold laws_szLadder.f laws_szIntS.f
  rw [wrap_id (by omega) (by omega), if_pos (by omega), Option.bind_some, if_pos (by omega)]

theorem laws_toIntS.ok_l (xs : List Int) (hn : xs.length ≤ 140737488355328) : ∀ (d i : Nat) (ys : List Int), xs.length - i = d → ys.length = xs.length → ys.take i = xs.take i → laws_toIntS.l0.v xs ys i = some xs := by
  intro d
  induction d with
  | zero =>
    intro i ys hd hl ht
    rw [laws_toIntS.l0.v_eq, if_neg (cast_nlt (by omega))]
    rw [List.take_of_length_le (by omega), List.take_of_length_le (by omega)] at ht
    rw [ht]
  | succ d ih =>
    intro i ys hd hl ht
    have h : i < xs.length := by omega
    rw [laws_toIntS.l0.v_eq, if_pos (cast_lt h), if_pos (Int.natCast_nonneg i), if_pos (cast_lt (by omega)), succ_wrap h hn, toNat_cast]
    refine ih (i + 1) _ (by omega) (by rw [List.length_set]; exact hl) ?_
    rw [take_rd xs i h, ← ht, rd_lt xs i h, List.take_succ_eq_append_getElem (by rw [List.length_set]; omega), List.getElem_set_self, List.take_set_of_le (Nat.le_refl i)]
theorem laws_toIntS.ok (xs : List Int) (hn : xs.length ≤ 1048576) : laws_toIntS.f.v xs = some xs := by
  rw [laws_toIntS.f.v_eq, if_pos (Int.natCast_nonneg _), toNat_cast, if_pos (by omega)]
  exact laws_toIntS.ok_l xs (by omega) xs.length 0 _ (by omega) (by simp) (by simp)

theorem laws_toLadder.ok (n : Int) (l : List Int) (h : l.length ≤ 1048576) : laws_toLadder.f.v n l = some (n, l) := by
  rw [laws_toLadder.f.v_eq, laws_toIntS.ok l h]; rfl

theorem spec_l1All.ok_l (a b : Int) (xs : List Int) (hn : xs.length ≤ 140737488355328) : ∀ (d i : Nat), i + d = xs.length → spec_l1All.l0.v a b xs xs.length i = some ((xs.drop i).all fun x => decide (a ≤ x) && decide (x ≤ b)) := by
  intro d
  induction d with
  | zero =>
    intro i hd
    rw [spec_l1All.l0.v_eq, if_neg (cast_nlt (by omega)), List.drop_eq_nil_of_le (by omega)]
    rfl
  | succ d ih =>
    intro i hd
    have h : i < xs.length := by omega
    rw [spec_l1All.l0.v_eq, if_pos (cast_lt h), if_pos (Int.natCast_nonneg i), if_pos (cast_lt h), succ_wrap h hn, ih (i + 1) (by omega), drop_rd xs i h, List.all_cons]
    unfold spec_l1In.f
    by_cases e : a ≤ rd xs (i : Int)
    · rw [if_pos (show rd xs (i : Int) ≥ a from e), Option.bind_some, decide_eq_true e, Bool.true_and]
      by_cases e2 : rd xs (i : Int) ≤ b
      · rw [decide_eq_true e2, if_pos rfl, Bool.true_and]
      · rw [decide_eq_false e2, if_neg (by simp), Bool.false_and]
    · rw [if_neg (show ¬ rd xs (i : Int) ≥ a from e), Option.bind_some, decide_eq_false e, if_neg (by simp), Bool.false_and, Bool.false_and]
theorem spec_l1All.ok (xs : List Int) (a b : Int) (hn : xs.length ≤ 140737488355328) : spec_l1All.f.v xs a b = some (xs.all fun x => decide (a ≤ x) && decide (x ≤ b)) := by
  rw [spec_l1All.f.v_eq]
  have := spec_l1All.ok_l a b xs hn xs.length 0 (by omega)
  simpa using this

theorem spec_laGood.ok (n : Int) (l : List Int) : spec_laGood.f.v n l = some (good n l) := by
  rw [spec_laGood.f.v_eq]
  unfold spec_l1In.f good
  by_cases h1 : 2 ≤ n
  · rw [if_pos (show n ≥ 2 from h1), Option.bind_some, decide_eq_true h1, Bool.true_and]
    by_cases h2 : n ≤ 8
    · rw [decide_eq_true h2, if_pos rfl, Bool.true_and]
      by_cases h3 : l.length ≤ 60
      · rw [if_pos (by omega), decide_eq_true h3, Bool.true_and, spec_l1All.ok l 0 _ (by omega), wrap_id (x := n - 2) (by omega) (by omega)]; rfl
      · rw [if_neg (by omega), decide_eq_false h3, Bool.false_and]
    · rw [decide_eq_false h2, if_neg (by simp), Bool.false_and, Bool.false_and]
  · rw [if_neg (show ¬ n ≥ 2 from h1), Option.bind_some, decide_eq_false h1, if_neg (by simp), Bool.false_and, Bool.false_and, Bool.false_and]

theorem spec_l1Num.one (x : Int) (h0 : 0 ≤ x) (h1 : x < 10) : spec_l1Num.f.v x = some ⟨(digB x).toArray⟩ := by
  rw [spec_l1Num.f.v_eq, if_pos h1, digB_num x h0 h1]

theorem spec_laNumbers.ok_l (l : List Int) (hl : l.length ≤ 1000) (hd : ∀ x ∈ l, 0 ≤ x ∧ x < 10) : ∀ (d i : Nat) (acc : ByteArray), i + d = l.length → acc.data.toList.length ≤ 2 * i → spec_laNumbers.l0.v acc l (l.length : Int) (i : Int) = some ⟨(acc.data.toList ++ digsB (decide (0 < i)) (l.drop i)).toArray⟩ := by
  intro d
  induction d with
  | zero =>
    intro i acc hi ha
    rw [spec_laNumbers.l0.v_eq, if_neg (by omega), List.drop_eq_nil_of_le (by omega), digsB, List.append_nil]
  | succ d ih =>
    intro i acc hi ha
    have h : i < l.length := by omega
    have hx := hd _ (rd_mem l i h)
    have hs := byte_size acc
    rw [spec_laNumbers.l0.v_eq, if_pos (by omega), if_pos (by omega), if_pos (by omega), drop_rd l i h, digsB, spec_l1Num.one _ hx.1 hx.2, succ_wrap h (by omega)]
    have h1 : (⟨(digB (rd l (i : Int))).toArray⟩ : ByteArray).size = 1 := rfl
    have h2 : (⟨#[44]⟩ : ByteArray).size = 1 := rfl
    by_cases c : 0 < i
    · have e1 := byte_app acc ⟨#[44]⟩
      have e2 := byte_app (acc ++ (⟨#[44]⟩ : ByteArray)) ⟨(digB (rd l (i : Int))).toArray⟩
      have h3 : (acc ++ (⟨#[44]⟩ : ByteArray)).size = acc.size + 1 := by rw [ByteArray.size_append, h2]
      rw [if_pos (by omega), if_pos (by omega), Option.bind_some, if_pos (by omega), decide_eq_true c, if_pos rfl]
      rw [ih (i + 1) _ (by omega) (by rw [e2, e1, List.length_append, List.length_append]; show _ + 1 + 1 ≤ _; omega), e2, e1, decide_eq_true (by omega)]
      simp [List.append_assoc]
    · obtain rfl : i = 0 := by omega
      have e2 := byte_app acc ⟨(digB (rd l ((0 : Nat) : Int))).toArray⟩
      rw [if_neg (by omega), Option.bind_some, if_pos (by omega), decide_eq_false c, if_neg (by simp)]
      rw [ih (0 + 1) _ (by omega) (by rw [e2, List.length_append]; show _ + 1 ≤ _; omega), e2, decide_eq_true (by omega)]
      simp [List.append_assoc]
theorem spec_laNumbers.ok (l : List Int) (hl : l.length ≤ 1000) (hd : ∀ x ∈ l, 0 ≤ x ∧ x < 10) : spec_laNumbers.f.v l = some (if l.length = 0 then ⟨#[45]⟩ else ⟨(digsB false l).toArray⟩) := by
  rw [spec_laNumbers.f.v_eq]
  by_cases h : l.length = 0
  · rw [if_pos (by omega), if_pos h]
  · rw [if_neg (by omega), if_neg h]
    have := spec_laNumbers.ok_l l hl hd l.length 0 ⟨#[]⟩ (by omega) (by simp)
    simpa using this

theorem text_same (n : Int) (l : List Int) (hg : good n l = true) : ∃ r, spec_laText.f.v n l = some r ∧ impl_ladderText.f.v n l = some r := by
  have h := good_iff.1 hg
  have hd : ∀ x ∈ l, 0 ≤ x ∧ x < 10 := fun x hx => by have := h.2.2.2 x hx; omega
  have e1 := spec_laNumbers.ok l (by omega) hd
  have e2 := impl_listText.ok l (by omega) hd
  rw [spec_laText.f.v_eq, impl_ladderText.f.v_eq, spec_l1Num.one n (by omega) (by omega), impl_listText.itoa n (by omega) (by omega), e1, e2]
  simp only [Option.bind_some]
  have h1 : (⟨(digB n).toArray⟩ : ByteArray).size = 1 := rfl
  have h2 : (⟨#[58]⟩ : ByteArray).size = 1 := rfl
  have h3 : ((⟨(digB n).toArray⟩ : ByteArray) ++ (⟨#[58]⟩ : ByteArray)).size = 2 := by rw [ByteArray.size_append, h1, h2]
  have h4 : (if l.length = 0 then (⟨#[45]⟩ : ByteArray) else ⟨(digsB false l).toArray⟩).size ≤ 1 + 2 * l.length := by
    split
    · show 1 ≤ _; omega
    · have := digsB_length false l
      show (digsB false l).length ≤ _; omega
  rw [if_pos (by omega), if_pos (by omega)]
  exact ⟨_, rfl, rfl⟩
theorem FnExactLadderText : laws_FnExactLadderText.Pure := by
  intro n l _ _ hb _
  refine laws_FnExactLadderText.f.ends n l ?_
  rw [laws_FnExactLadderText.f.v_eq]
  by_cases h : l.length ≤ 1048576
  · obtain ⟨r, b, hs, hi⟩ : ∃ r b, spec_LadderText.f.v n l = some (r, b) ∧ impl_LadderText.f.v n l = some (r, b) := by
      rw [spec_LadderText.f.v_eq, impl_LadderText.f.v_eq, spec_laGood.ok, impl_isLadder.ok, Option.bind_some, Option.bind_some]
      by_cases hg : good n l = true
      · obtain ⟨r, h1, h2⟩ := text_same n l hg
        rw [if_pos hg, if_pos hg, h1, h2]
        exact ⟨_, _, rfl, rfl⟩
      · rw [if_neg hg, if_neg hg]
        exact ⟨_, _, rfl, rfl⟩
    have e0 := laws_toLadder.ok n l h
    have e1 := laws_eqLadder.ok n l (by omega)
    have n0 : ¬ ((1048576 : Int) - (l.length : Int) < 0) := by omega
    simp only [laws_szLadder.ok n l h, e0, e1, hs, hi, if_neg n0, laws_FnExactLadderText.j0.v_eq, Option.bind_some, bne_self_eq_false, Bool.false_eq_true, if_false, if_true]
  · rw [laws_szLadder.no n l h hb, Option.bind_some, if_pos (by omega)]

end Go.Proofs.YtldcjlpbodpmbaaDoor.Pure
