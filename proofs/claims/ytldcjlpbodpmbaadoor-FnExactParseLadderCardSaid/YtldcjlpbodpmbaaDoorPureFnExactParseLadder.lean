/- Proved: for every input the law FnExactParseLadder returns true (its plain statement, over numbers and lists). No condition. -/
import Derived.Test.YtldcjlpbodpmbaaDoorPPax7
import Derived.Test.YtldcjlpbodpmbaaDoorVPax1
import Derived.Test.YtldcjlpbodpmbaaDoorVPax2
import Derived.Test.YtldcjlpbodpmbaaDoorVPax3
import Derived.Test.YtldcjlpbodpmbaaDoorVPax4
import Derived.Test.YtldcjlpbodpmbaaDoorVPax5
import Derived.Test.YtldcjlpbodpmbaaDoorVPax6
import Derived.Test.YtldcjlpbodpmbaaDoorVPax7
import Derived.Test.YtldcjlpbodpmbaaDoorLadders
import Derived.Test.YtldcjlpbodpmbaaDoorNums
import Derived.Test.YtldcjlpbodpmbaaDoorParses
import Derived.Test.YtldcjlpbodpmbaaDoorPlain
import Derived.Test.YtldcjlpbodpmbaaDoorTexts
namespace Go.Proofs.YtldcjlpbodpmbaaDoor.Pure
open Go.RowKit Go.Proofs.YtldcjlpbodpmbaaDoor.PPa Go.Proofs.YtldcjlpbodpmbaaDoorW.PrintWords Go.Proofs.YtldcjlpbodpmbaaDoorW.PrintLast Go.Proofs.YtldcjlpbodpmbaaDoorW.PrintMore Go.Proofs.YtldcjlpbodpmbaaDoorL
set_option linter.unusedVariables false
set_option linter.unusedSimpArgs false

theorem impl_isLadder.ok (n : Int) (l : List Int) : impl_isLadder.f n l = some (good n l) := by
  unfold impl_isLadder.f good
  have h : (!(l.any (impl_isLadder.bad n))) = l.all (inB n) := by
    rw [List.not_any_eq_all_not]
    congr 1; funext x
    unfold impl_isLadder.bad inB
    exact Bool.not_not _
  rw [h]

theorem impl_checked.ok (n : Int) (l : List Int) : impl_checked.f n l = some (if good n l = true then (n, l, true) else (0, [], false)) := by
  unfold impl_checked.f
  rw [impl_isLadder.ok, Option.bind_some]
  by_cases h : good n l = true
  · rw [if_pos h, if_pos h]
  · rw [if_neg h, if_neg h]

theorem impl_readNumber.ok (s : ByteArray) (h : s.size ≤ 1048576) : impl_readNumber.f s = some (rnP s.data.toList) := by
  unfold impl_readNumber.f rnP
  rw [if_pos h, ByteArray.toList_eq]
  cases Lib.atoiAll s.data.toList <;> rfl

theorem strings_Split.ok (s : ByteArray) (c : UInt8) (h : s.size ≤ 1048576) : ∃ ws, strings_Split.f s ⟨#[c]⟩ = some ws ∧ ws.map (·.data.toList) = spl c s.data.toList := by
  unfold strings_Split.f
  rw [if_pos ⟨h, rfl⟩]
  exact ⟨_, rfl, (Lib.splitB_data ⟨#[c]⟩ 0 _ s).trans (splitK_spl c s.data.toList)⟩

theorem impl_readList.ok_l (ws : List ByteArray) (hw : ws.length ≤ 1048577) (hs : ∀ x ∈ ws, x.size ≤ 1048576) : ∀ (d i : Nat) (acc : List Int), i + d = ws.length → acc.length ≤ i → impl_readList.l0.v acc ws (ws.length : Int) (i : Int) = some (rlGo ((ws.drop i).map (·.data.toList)) acc) := by
  intro d
  induction d with
  | zero =>
    intro i acc hd ha
    rw [impl_readList.l0.v_eq, if_neg (by omega), List.drop_eq_nil_of_le (by omega)]; rfl
  | succ d ih =>
    intro i acc hd ha
    have h : i < ws.length := by omega
    have e : rdOf ByteArray.empty ws (i : Int) = ws[i] := by
      unfold rdOf
      rw [Int.toNat_natCast, List.getD_eq_getElem?_getD, List.getElem?_eq_getElem h]; rfl
    have hz := hs _ (List.getElem_mem h)
    rw [impl_readList.l0.v_eq, if_pos (by omega), if_pos (by omega), if_pos (by omega), e, impl_readNumber.ok _ hz, Option.bind_some, List.drop_eq_getElem_cons h, List.map_cons, rlGo]
    by_cases c : (rnP (ws[i]).data.toList).2 = true
    · rw [if_pos c, if_pos c, if_pos (by omega), succ_wrap h (by omega)]
      exact ih (i + 1) _ (by omega) (by rw [List.length_append, List.length_singleton]; omega)
    · rw [if_neg c, if_neg c]
theorem impl_readList.ok (s : ByteArray) (h : s.size ≤ 1048576) : impl_readList.f.v s = some (rlM s.data.toList) := by
  rw [impl_readList.f.v_eq, Option.bind_some, ByteArray.toList_eq]
  unfold rlM
  by_cases e : s.data.toList = [45]
  · rw [if_pos e, if_pos e]
  · obtain ⟨ws, h1, h2⟩ := strings_Split.ok s 44 h
    have hl := spl_length 44 s.data.toList
    have hz : s.size = s.data.toList.length := rfl
    have h3 : ws.length ≤ 1048577 := by
      have := congrArg List.length h2
      rw [List.length_map] at this; omega
    have h4 : ∀ x ∈ ws, x.size ≤ 1048576 := fun x hx => by
      have := hl.2 x.data.toList (by rw [← h2]; exact List.mem_map.2 ⟨x, hx, rfl⟩)
      show x.data.toList.length ≤ _
      omega
    rw [if_neg e, if_neg e, h1, Option.bind_some]
    have := impl_readList.ok_l ws h3 h4 ws.length 0 [] (by omega) (by simp)
    rw [List.drop_zero, h2] at this
    exact this

theorem strings_Cut.ok (s c : ByteArray) (h : s.size ≤ 1048576) : strings_Cut.f s c = some (⟨(Lib.cut s.data.toList c.data.toList).1.toArray⟩, ⟨(Lib.cut s.data.toList c.data.toList).2.1.toArray⟩, (Lib.cut s.data.toList c.data.toList).2.2) := by
  unfold strings_Cut.f
  rw [if_pos h]

theorem impl_ParseLadder.ok (s : ByteArray) (h : s.size ≤ 1048576) : impl_ParseLadder.f.v s = some (parI s.data.toList) := by
  have hz : s.size = s.data.toList.length := rfl
  have hl := cut_length s.data.toList 58
  rw [impl_ParseLadder.f.v_eq, strings_Cut.ok s _ h, Option.bind_some]
  show ((impl_readNumber.f (⟨(Lib.cut s.data.toList [58]).1.toArray⟩ : ByteArray)).bind _) = _
  rw [impl_readNumber.ok _ (by show (Lib.cut s.data.toList [58]).1.length ≤ _; omega), Option.bind_some]
  show ((impl_readList.f.v (⟨(Lib.cut s.data.toList [58]).2.1.toArray⟩ : ByteArray)).bind _) = _
  rw [impl_readList.ok _ (by show (Lib.cut s.data.toList [58]).2.1.length ≤ _; omega), Option.bind_some]
  unfold parI
  show (if (Lib.cut s.data.toList [58]).2.2 = true then (if (rnP (Lib.cut s.data.toList [58]).1).2 = true then (if (rlM (Lib.cut s.data.toList [58]).2.1).2 = true then _ else _) else _) else _) = _
  by_cases c1 : (Lib.cut s.data.toList [58]).2.2 = true
  · rw [if_pos c1]
    by_cases c2 : (rnP (Lib.cut s.data.toList [58]).1).2 = true
    · rw [if_pos c2]
      by_cases c3 : (rlM (Lib.cut s.data.toList [58]).2.1).2 = true
      · rw [if_pos c3]
        show ((impl_checked.f (rnP (Lib.cut s.data.toList [58]).1).1 (rlM (Lib.cut s.data.toList [58]).2.1).1).bind _) = _
        rw [impl_checked.ok, Option.bind_some]
        by_cases c4 : good (rnP (Lib.cut s.data.toList [58]).1).1 (rlM (Lib.cut s.data.toList [58]).2.1).1 = true
        · rw [if_pos c4, if_pos ⟨c1, c2, c3, c4⟩]
        · rw [if_neg c4, if_neg (fun x => c4 x.2.2.2)]
      · rw [if_neg c3, if_neg (fun x => c3 x.2.2.1)]
    · rw [if_neg c2, if_neg (fun x => c2 x.2.1)]
  · rw [if_neg c1, if_neg (fun x => c1 x.1)]

theorem laws_eqIntS.ok_l (xs : List Int) (hn : xs.length ≤ 140737488355328) : ∀ (d i : Nat), xs.length - i = d → laws_eqIntS.l0.v xs xs i = some true := by
  intro d
  induction d with
  | zero =>
    intro i hd
    rw [laws_eqIntS.l0.v_eq, if_neg (cast_nlt (by omega))]
  | succ d ih =>
    intro i hd
    have h : i < xs.length := by omega
    rw [laws_eqIntS.l0.v_eq, if_pos (cast_lt h), if_pos (Int.natCast_nonneg i), if_pos (cast_lt h), if_pos rfl, succ_wrap h hn]
    exact ih (i + 1) (by omega)
theorem laws_eqIntS.ok (xs : List Int) (hn : xs.length ≤ 140737488355328) : laws_eqIntS.f.v xs xs = some true := by
  rw [laws_eqIntS.f.v_eq, if_pos rfl]
  exact laws_eqIntS.ok_l xs hn xs.length 0 (by omega)

theorem laws_eqLadder.ok (n : Int) (l : List Int) (h : l.length ≤ 140737488355328) : laws_eqLadder.f.v n l n l = some true := by
  rw [laws_eqLadder.f.v_eq, if_pos rfl, laws_eqIntS.ok l h]; rfl

theorem rd_fromOn (k : Int) : ∀ (n i : Nat), i < n → rd (fromOn k n) (i : Int) = k + i := by
  intro n i h
  induction n generalizing k i with
  | zero => omega
  | succ n ih =>
    cases i with
    | zero => show k = k + ((0 : Nat) : Int); simp
    | succ i =>
      have := ih (k + 1) i (by omega)
      rw [rd_cast] at this ⊢
      rw [fromOn, List.getD_cons_succ, this]; omega
theorem laws_heldIntS.ok_l (n : Nat) (k : Int) (hn : n ≤ 1099511627776) (h0 : 0 ≤ k) (h1 : k ≤ 4398046511104) : ∀ (d i : Nat), i + d = n → laws_heldIntS.l0.v (fromOn k n) (k + i) i = some (k + n) := by
  intro d
  induction d with
  | zero =>
    intro i hd
    rw [laws_heldIntS.l0.v_eq, fromOn_length, if_neg (cast_nlt (by omega)), show i = n by omega]
  | succ d ih =>
    intro i hd
    have h : i < n := by omega
    rw [laws_heldIntS.l0.v_eq, fromOn_length, if_pos (cast_lt h), if_pos (Int.natCast_nonneg i), if_pos (rd_fromOn k n i h), succ_wrap h (by omega), wrap_id (x := k + (i : Int) + 1) (by omega) (by omega), show k + (i : Int) + 1 = k + ((i + 1 : Nat) : Int) by omega]
    exact ih (i + 1) (by omega)
theorem laws_heldIntS.ok (n : Nat) (k : Int) (hn : n ≤ 1099511627776) (h0 : 0 ≤ k) (h1 : k ≤ 4398046511104) : laws_heldIntS.f.v (fromOn k n) k = some (k + n) := by
  rw [laws_heldIntS.f.v_eq]
  have := laws_heldIntS.ok_l n k hn h0 h1 n 0 (by omega)
  simpa using this

theorem laws_markIntS.ok_l : ∀ (d i : Nat) (xs : List Int) (k : Int), i + d = xs.length → xs.length ≤ 1099511627776 → 0 ≤ k → k ≤ 4398046511104 → laws_markIntS.l0.v xs (k + i) i = some (k + (xs.length : Int), xs.take i ++ fromOn (k + i) d) := by
  intro d
  induction d with
  | zero =>
    intro i xs k hd hn h0 h1
    rw [laws_markIntS.l0.v_eq, if_neg (cast_nlt (by omega)), List.take_of_length_le (by omega), show i = xs.length by omega]
    simp [fromOn]
  | succ d ih =>
    intro i xs k hd hn h0 h1
    have h : i < xs.length := by omega
    rw [laws_markIntS.l0.v_eq, if_pos (cast_lt h), if_pos (Int.natCast_nonneg i), succ_wrap h (by omega), toNat_cast, wrap_id (x := k + (i : Int) + 1) (by omega) (by omega), show k + (i : Int) + 1 = k + ((i + 1 : Nat) : Int) by omega, ih (i + 1) _ k (by rw [List.length_set]; omega) (by rw [List.length_set]; omega) h0 h1, List.length_set, fromOn, List.take_succ_eq_append_getElem (by rw [List.length_set]; omega), List.getElem_set_self, List.take_set_of_le (Nat.le_refl i), List.append_assoc, show k + (i : Int) + 1 = k + ((i + 1 : Nat) : Int) by omega]
    rfl
theorem laws_markIntS.ok (xs : List Int) (k : Int) (hn : xs.length ≤ 1099511627776) (h0 : 0 ≤ k) (h1 : k ≤ 4398046511104) : laws_markIntS.f.v xs k = some (k + (xs.length : Int), fromOn k xs.length) := by
  rw [laws_markIntS.f.v_eq]
  have := laws_markIntS.ok_l xs.length 0 xs k (by omega) hn h0 h1
  simpa using this

theorem spec_l1All.ok_l (a b : Int) (xs : List Int) (hn : xs.length ≤ 140737488355328) : ∀ (d i : Nat), i + d = xs.length → spec_l1All.l0.v a b xs xs.length i = some ((xs.drop i).all fun x => decide (a ≤ x) && decide (x ≤ b)) := by
  intro d
  induction d with
  | zero =>
    intro i hd
    rw [spec_l1All.l0.v_eq, if_neg (cast_nlt (by omega)), List.drop_eq_nil_of_le (by omega)]
    rfl
  | succ d ih =>
    intro i hd
    have h : i < xs.length := by omega
    rw [spec_l1All.l0.v_eq, if_pos (cast_lt h), if_pos (Int.natCast_nonneg i), if_pos (cast_lt h), succ_wrap h hn, ih (i + 1) (by omega), drop_rd xs i h, List.all_cons]
    unfold spec_l1In.f
    by_cases e : a ≤ rd xs (i : Int)
    · rw [if_pos (show rd xs (i : Int) ≥ a from e), Option.bind_some, decide_eq_true e, Bool.true_and]
      by_cases e2 : rd xs (i : Int) ≤ b
      · rw [decide_eq_true e2, if_pos rfl, Bool.true_and]
      · rw [decide_eq_false e2, if_neg (by simp), Bool.false_and]
    · rw [if_neg (show ¬ rd xs (i : Int) ≥ a from e), Option.bind_some, decide_eq_false e, if_neg (by simp), Bool.false_and, Bool.false_and]
theorem spec_l1All.ok (xs : List Int) (a b : Int) (hn : xs.length ≤ 140737488355328) : spec_l1All.f.v xs a b = some (xs.all fun x => decide (a ≤ x) && decide (x ≤ b)) := by
  rw [spec_l1All.f.v_eq]
  have := spec_l1All.ok_l a b xs hn xs.length 0 (by omega)
  simpa using this

theorem spec_laGood.ok (n : Int) (l : List Int) : spec_laGood.f.v n l = some (good n l) := by
  rw [spec_laGood.f.v_eq]
  unfold spec_l1In.f good
  by_cases h1 : 2 ≤ n
  · rw [if_pos (show n ≥ 2 from h1), Option.bind_some, decide_eq_true h1, Bool.true_and]
    by_cases h2 : n ≤ 8
    · rw [decide_eq_true h2, if_pos rfl, Bool.true_and]
      by_cases h3 : l.length ≤ 60
      · rw [if_pos (by omega), decide_eq_true h3, Bool.true_and, spec_l1All.ok l 0 _ (by omega), wrap_id (x := n - 2) (by omega) (by omega)]; rfl
      · rw [if_neg (by omega), decide_eq_false h3, Bool.false_and]
    · rw [decide_eq_false h2, if_neg (by simp), Bool.false_and, Bool.false_and]
  · rw [if_neg (show ¬ n ≥ 2 from h1), Option.bind_some, decide_eq_false h1, if_neg (by simp), Bool.false_and, Bool.false_and, Bool.false_and]

theorem spec_l1Num.one (x : Int) (h0 : 0 ≤ x) (h1 : x < 10) : spec_l1Num.f.v x = some ⟨(digB x).toArray⟩ := by
  rw [spec_l1Num.f.v_eq, if_pos h1, digB_num x h0 h1]
theorem spec_l1Num.two (i : Nat) (h : i < 100) : spec_l1Num.f.v (i : Int) = some (digT i) := by
  unfold digT
  by_cases h1 : i < 10
  · rw [spec_l1Num.one _ (by omega) (by omega), Lib.decDigits_one h1]; rfl
  · have e1 : Int.tdiv (i : Int) 10 = ((i / 10 : Nat) : Int) := by rw [Int.tdiv_eq_ediv_of_nonneg (by omega)]; rfl
    have e2 : Int.tmod (i : Int) 10 = ((i % 10 : Nat) : Int) := by rw [Int.tmod_eq_emod_of_nonneg (by omega)]; rfl
    rw [spec_l1Num.f.v_eq, if_neg (by omega), e1, e2, wrap_id (x := ((i / 10 : Nat) : Int)) (by omega) (by omega), spec_l1Num.one _ (by omega) (by omega), Option.bind_some, Option.bind_some, digB_num _ (by omega) (by omega)]
    rw [if_pos (by show 1 + 1 ≤ _; omega), Lib.decDigits_two h1 h]
    congr 1

theorem spec_laNumbers.ok_l (l : List Int) (hl : l.length ≤ 1000) (hd : ∀ x ∈ l, 0 ≤ x ∧ x < 10) : ∀ (d i : Nat) (acc : ByteArray), i + d = l.length → acc.data.toList.length ≤ 2 * i → spec_laNumbers.l0.v acc l (l.length : Int) (i : Int) = some ⟨(acc.data.toList ++ digsB (decide (0 < i)) (l.drop i)).toArray⟩ := by
  intro d
  induction d with
  | zero =>
    intro i acc hi ha
    rw [spec_laNumbers.l0.v_eq, if_neg (by omega), List.drop_eq_nil_of_le (by omega), digsB, List.append_nil]
  | succ d ih =>
    intro i acc hi ha
    have h : i < l.length := by omega
    have hx := hd _ (rd_mem l i h)
    have hs := byte_size acc
    rw [spec_laNumbers.l0.v_eq, if_pos (by omega), if_pos (by omega), if_pos (by omega), drop_rd l i h, digsB, spec_l1Num.one _ hx.1 hx.2, succ_wrap h (by omega)]
    have h1 : (⟨(digB (rd l (i : Int))).toArray⟩ : ByteArray).size = 1 := rfl
    have h2 : (⟨#[44]⟩ : ByteArray).size = 1 := rfl
    by_cases c : 0 < i
    · have e1 := byte_app acc ⟨#[44]⟩
      have e2 := byte_app (acc ++ (⟨#[44]⟩ : ByteArray)) ⟨(digB (rd l (i : Int))).toArray⟩
      have h3 : (acc ++ (⟨#[44]⟩ : ByteArray)).size = acc.size + 1 := by rw [ByteArray.size_append, h2]
      rw [if_pos (by omega), if_pos (by omega), Option.bind_some, if_pos (by omega), decide_eq_true c, if_pos rfl]
      rw [ih (i + 1) _ (by omega) (by rw [e2, e1, List.length_append, List.length_append]; show _ + 1 + 1 ≤ _; omega), e2, e1, decide_eq_true (by omega)]
      simp [List.append_assoc]
    · obtain rfl : i = 0 := by omega
      have e2 := byte_app acc ⟨(digB (rd l ((0 : Nat) : Int))).toArray⟩
      rw [if_neg (by omega), Option.bind_some, if_pos (by omega), decide_eq_false c, if_neg (by simp)]
      rw [ih (0 + 1) _ (by omega) (by rw [e2, List.length_append]; show _ + 1 ≤ _; omega), e2, decide_eq_true (by omega)]
      simp [List.append_assoc]
theorem spec_laNumbers.ok (l : List Int) (hl : l.length ≤ 1000) (hd : ∀ x ∈ l, 0 ≤ x ∧ x < 10) : spec_laNumbers.f.v l = some (if l.length = 0 then ⟨#[45]⟩ else ⟨(digsB false l).toArray⟩) := by
  rw [spec_laNumbers.f.v_eq]
  by_cases h : l.length = 0
  · rw [if_pos (by omega), if_pos h]
  · rw [if_neg (by omega), if_neg h]
    have := spec_laNumbers.ok_l l hl hd l.length 0 ⟨#[]⟩ (by omega) (by simp)
    simpa using this

theorem spec_laText.ok (n : Int) (l : List Int) (hg : good n l = true) : spec_laText.f.v n l = some ⟨(ladB n l).toArray⟩ := by
  have h := good_iff.1 hg
  have hd : ∀ x ∈ l, 0 ≤ x ∧ x < 10 := fun x hx => by have := h.2.2.2 x hx; omega
  have e1 := spec_laNumbers.ok l (by omega) hd
  rw [spec_laText.f.v_eq, spec_l1Num.one n (by omega) (by omega), e1]
  simp only [Option.bind_some]
  have h1 : (⟨(digB n).toArray⟩ : ByteArray).size = 1 := rfl
  have h2 : (⟨#[58]⟩ : ByteArray).size = 1 := rfl
  have h3 : ((⟨(digB n).toArray⟩ : ByteArray) ++ (⟨#[58]⟩ : ByteArray)).size = 2 := by rw [ByteArray.size_append, h1, h2]
  have h4 : (if l.length = 0 then (⟨#[45]⟩ : ByteArray) else ⟨(digsB false l).toArray⟩).size ≤ 1 + 2 * l.length := by
    split
    · show 1 ≤ _; omega
    · have := digsB_length false l
      show (digsB false l).length ≤ _; omega
  rw [if_pos (by omega), if_pos (by omega)]
  congr 1
  refine byte_ext ?_
  rw [byte_app, byte_app]
  unfold ladB
  cases l with
  | nil => rfl
  | cons x l => rw [if_neg (by simp), if_neg (by simp)]; simp

theorem spec_laParse.next (s : ByteArray) (hs : s.size ≤ 200) (i : Nat) (hi : i < s.size) (n : Int) (acc : List Int) (ha : acc.length ≤ 1000) (c : Bool) (R : Option (Int × List Int × Bool) → Prop)
    (h1 : R (spec_laParse.l0.v s ((i + 1 : Nat) : Int) n (acc ++ [(bt s (i : Int) - 48) % 256]))) (h2 : R (spec_laParse.l0.v s ((i + 1 : Nat) : Int) n acc)) (h3 : R (some (0, [], false))) : R (spec_laParse.j3.v s (i : Int) c n acc) := by
  rw [spec_laParse.j3.v_eq]
  cases c with
  | true =>
    rw [if_pos rfl, if_pos (by omega), if_pos (by omega), if_pos (by omega), succ_wrap hi (by omega)]; exact h1
  | false =>
    rw [if_neg Bool.false_ne_true]
    by_cases e : Int.tmod (i : Int) 2 = 1
    · rw [if_pos e, if_pos (by omega), if_pos (by omega)]
      by_cases b : bt s (i : Int) = 44
      · rw [if_pos b, succ_wrap hi (by omega)]; exact h2
      · rw [if_neg b]; exact h3
    · rw [if_neg e]; exact h3
theorem spec_laParse.step_ (s : ByteArray) (hs : s.size ≤ 200) (i : Nat) (hi : i < s.size) (n : Int) (acc : List Int) (ha : acc.length ≤ 1000) (R : Option (Int × List Int × Bool) → Prop)
    (h1 : R (spec_laParse.l0.v s ((i + 1 : Nat) : Int) n (acc ++ [(bt s (i : Int) - 48) % 256]))) (h2 : R (spec_laParse.l0.v s ((i + 1 : Nat) : Int) n acc)) (h3 : R (some (0, [], false))) : R (spec_laParse.j2.v s (i : Int) true n acc) := by
  rw [spec_laParse.j2.v_eq, if_pos rfl]
  have hn := fun c => spec_laParse.next s hs i hi n acc ha c R h1 h2 h3
  by_cases e : Int.tmod (i : Int) 2 = 0
  · rw [if_pos e, if_pos (by omega), if_pos (by omega)]
    by_cases b : bt s (i : Int) ≥ 48
    · rw [if_pos b]; exact hn _
    · rw [if_neg b]; exact hn _
  · rw [if_neg e]; exact hn _
def spec_laParse.Q (s : ByteArray) (r : Int × List Int × Bool) : Prop := r = (0, [], false) ∨ ∃ n l, good n l = true ∧ s.data.toList = ladB n l ∧ r = (n, l, true)
theorem spec_laParse.fin (s : ByteArray) (i n : Int) (acc : List Int) : ∃ r, spec_laParse.j2.v s i false n acc = some r ∧ spec_laParse.Q s r ∧ (good n acc = true → s.data.toList = ladB n acc → r = (n, acc, true)) := by
  rw [spec_laParse.j2.v_eq, if_neg Bool.false_ne_true, spec_laGood.ok, Option.bind_some]
  by_cases hg : good n acc = true
  · rw [if_pos hg, spec_laText.ok n acc hg, Option.bind_some, ByteArray.toList_eq, ByteArray.toList_eq]
    by_cases e : ladB n acc = s.data.toList
    · rw [if_pos e]
      exact ⟨_, rfl, .inr ⟨n, acc, hg, e.symm, rfl⟩, fun _ _ => rfl⟩
    · rw [if_neg e]
      exact ⟨_, rfl, .inl rfl, fun _ h => absurd h.symm e⟩
  · rw [if_neg hg]
    exact ⟨_, rfl, .inl rfl, fun h => absurd h hg⟩
theorem spec_laParse.sound (s : ByteArray) (hs : s.size ≤ 200) : ∀ (d i : Nat) (n : Int) (acc : List Int), i + d = s.size → 2 ≤ i → acc.length ≤ i → ∃ r, spec_laParse.l0.v s (i : Int) n acc = some r ∧ spec_laParse.Q s r := by
  intro d
  induction d with
  | zero =>
    intro i n acc hd h2 ha
    rw [spec_laParse.l0.v_eq, if_neg (by omega)]
    obtain ⟨r, h1, h2, _⟩ := spec_laParse.fin s i n acc
    exact ⟨r, h1, h2⟩
  | succ d ih =>
    intro i n acc hd h2 ha
    rw [spec_laParse.l0.v_eq, if_pos (by omega), if_pos (by omega)]
    cases hf : ((s.extract 2 s.size).toList != ([45] : List UInt8)) with
    | false =>
      obtain ⟨r, h1, h2, _⟩ := spec_laParse.fin s i n acc
      exact ⟨r, h1, h2⟩
    | true =>
      exact spec_laParse.step_ s hs i (by omega) n acc (by omega) (fun v => ∃ r, v = some r ∧ spec_laParse.Q s r) (ih (i + 1) n _ (by omega) (by omega) (by rw [List.length_append, List.length_singleton]; omega)) (ih (i + 1) n _ (by omega) (by omega) (by omega)) ⟨_, rfl, .inl rfl⟩
theorem spec_laParse.dig (s : ByteArray) (hs : s.size ≤ 200) (i : Nat) (hi : i < s.size) (hev : i % 2 = 0) (n x : Int) (acc : List Int) (ha : acc.length ≤ 1000) (x0 : 0 ≤ x) (x1 : x < 10) (hb : bt s (i : Int) = 48 + x) : spec_laParse.j2.v s (i : Int) true n acc = spec_laParse.l0.v s ((i + 1 : Nat) : Int) n (acc ++ [x]) := by
  have e : Int.tmod (i : Int) 2 = 0 := by rw [Int.tmod_eq_emod_of_nonneg (by omega)]; omega
  rw [spec_laParse.j2.v_eq, if_pos rfl, if_pos e, if_pos (by omega), if_pos (by omega), if_pos (by omega), decide_eq_true (by omega), spec_laParse.j3.v_eq, if_pos rfl, if_pos (by omega), if_pos (by omega), if_pos (by omega), succ_wrap hi (by omega), hb, show (48 + x - 48) % 256 = x by omega]
theorem spec_laParse.com (s : ByteArray) (hs : s.size ≤ 200) (i : Nat) (hi : i < s.size) (hod : i % 2 = 1) (n : Int) (acc : List Int) (hb : bt s (i : Int) = 44) : spec_laParse.j2.v s (i : Int) true n acc = spec_laParse.l0.v s ((i + 1 : Nat) : Int) n acc := by
  have e : Int.tmod (i : Int) 2 = 1 := by rw [Int.tmod_eq_emod_of_nonneg (by omega)]; omega
  rw [spec_laParse.j2.v_eq, if_pos rfl, if_neg (by omega), spec_laParse.j3.v_eq, if_neg Bool.false_ne_true, if_pos e, if_pos (by omega), if_pos (by omega), if_pos hb, succ_wrap hi (by omega)]
theorem spec_laParse.read (s : ByteArray) (hs : s.size ≤ 200) (n : Int) (hf : ((s.extract 2 s.size).toList != ([45] : List UInt8)) = true) : ∀ (r : List Int) (x : Int) (i : Nat) (acc : List Int), (∀ y ∈ x :: r, 0 ≤ y ∧ y < 10) → s.data.toList.drop i = digB x ++ digsB true r → i % 2 = 0 → 2 ≤ i → acc.length + r.length ≤ 900 → ∃ j : Int, spec_laParse.l0.v s (i : Int) n acc = spec_laParse.j2.v s j false n (acc ++ x :: r) := by
  intro r
  induction r with
  | nil =>
    intro x i acc hd hi hev h2 ha
    have hx := hd x (by simp)
    obtain ⟨b1, b2, b3⟩ := bt_drop (t := []) hi
    rw [digU x hx.1 hx.2] at b2
    have hz : s.size = s.data.toList.length := rfl
    have hl := List.drop_eq_nil_iff.1 b3
    rw [spec_laParse.l0.v_eq, if_pos (by omega), if_pos (by omega), hf, spec_laParse.dig s hs i b1 hev n x acc (by omega) hx.1 hx.2 (by omega), spec_laParse.l0.v_eq, if_neg (by omega)]
    exact ⟨_, rfl⟩
  | cons y r ih =>
    intro x i acc hd hi hev h2 ha
    have hx := hd x (by simp)
    obtain ⟨b1, b2, b3⟩ := bt_drop (t := digsB true (y :: r)) hi
    rw [digU x hx.1 hx.2] at b2
    rw [digsB, if_pos rfl, List.append_assoc] at b3
    obtain ⟨c1, c2, c3⟩ := bt_drop (t := digB y ++ digsB true r) b3
    rw [List.length_cons] at ha
    rw [spec_laParse.l0.v_eq, if_pos (by omega), if_pos (by omega), hf, spec_laParse.dig s hs i b1 hev n x acc (by omega) hx.1 hx.2 (by omega), spec_laParse.l0.v_eq, if_pos (by omega), if_pos (by omega), hf, spec_laParse.com s hs (i + 1) c1 (by omega) n _ c2]
    obtain ⟨j, hj⟩ := ih y (i + 1 + 1) (acc ++ [x]) (fun z hz => hd z (by simp at hz ⊢; exact .inr hz)) c3 (by omega) (by omega) (by rw [List.length_append, List.length_singleton]; omega)
    exact ⟨j, by rw [hj, List.append_assoc]; rfl⟩
theorem spec_laParse.sound_f (s : ByteArray) : ∃ r, spec_laParse.f.v s = some r ∧ spec_laParse.Q s r := by
  have hb : ∃ r, spec_laParse.j0.v s true = some r ∧ spec_laParse.Q s r := by
    rw [spec_laParse.j0.v_eq, if_pos rfl]; exact ⟨_, rfl, .inl rfl⟩
  rw [spec_laParse.f.v_eq]
  by_cases h1 : (s.size : Int) < 3
  · rw [if_pos h1]; exact hb
  · rw [if_neg h1]
    by_cases h2 : (s.size : Int) > 121
    · rw [if_pos h2]; exact hb
    · rw [if_neg h2, if_pos (by omega)]
      by_cases h3 : bt s 0 < 50
      · rw [if_pos h3]; exact hb
      · rw [if_neg h3]
        by_cases h4 : bt s 0 > 56
        · rw [if_pos h4]; exact hb
        · rw [if_neg h4, if_pos (by omega)]
          cases (bt s 1 != 58) with
          | true => exact hb
          | false =>
            rw [spec_laParse.j0.v_eq, if_neg Bool.false_ne_true, if_pos (by omega)]
            exact spec_laParse.sound s (by omega) (s.size - 2) 2 _ [] (by omega) (by omega) (by simp)
theorem spec_laParse.of (s : ByteArray) (n : Int) (l : List Int) (hg : good n l = true) (hs : s.data.toList = ladB n l) : spec_laParse.f.v s = some (n, l, true) := by
  have g := good_iff.1 hg
  have hz : s.size = s.data.toList.length := rfl
  have hlen : 3 ≤ s.size ∧ s.size ≤ 121 := by
    rw [hz, hs]
    cases l with
    | nil => rw [ladB_nil]; show 3 ≤ 3 ∧ 3 ≤ 121; omega
    | cons x l =>
      rw [ladB_cons]
      simp only [List.length_cons, List.length_append, digsB_len] at g ⊢
      show 3 ≤ 1 + 2 * l.length + 1 + 1 ∧ _ ≤ 121
      have : (digB x).length = 1 := rfl
      omega
  have h0 : bt s ((0 : Nat) : Int) = 48 + n ∧ bt s ((1 : Nat) : Int) = 58 := by
    have e : s.data.toList.drop 0 = UInt8.ofNat (48 + n.toNat) :: 58 :: (if l = [] then [45] else digsB false l) := by rw [List.drop_zero, hs]; rfl
    obtain ⟨_, b2, b3⟩ := bt_drop e
    obtain ⟨_, c2, _⟩ := bt_drop b3
    rw [digU n (by omega) (by omega)] at b2
    exact ⟨by rw [b2]; omega, c2⟩
  obtain ⟨h0, h1⟩ := h0
  replace h0 : bt s 0 = 48 + n := h0
  replace h1 : bt s 1 = 58 := h1
  have hd := drop_bytes2 s 2
  rw [spec_laParse.f.v_eq, if_neg (by omega), if_neg (by omega), if_pos (by omega), if_neg (by omega), if_neg (by omega), if_pos (by omega), h1, show ((58 : Int) != 58) = false from rfl, spec_laParse.j0.v_eq, if_neg Bool.false_ne_true, if_pos (by omega), h0, show (48 + n - 48) % 256 = n by omega]
  have hend : ∃ j : Int, spec_laParse.l0.v s 2 n [] = spec_laParse.j2.v s j false n l := by
    cases l with
    | nil =>
      have hf : ((s.extract 2 s.size).toList != ([45] : List UInt8)) = false := by
        rw [ByteArray.toList_eq, hd, hs, ladB_nil]; rfl
      rw [spec_laParse.l0.v_eq, if_pos (by omega), if_pos (by omega), hf]
      exact ⟨_, rfl⟩
    | cons x l =>
      have hx := g.2.2.2 x (by simp)
      have hf : ((s.extract 2 s.size).toList != ([45] : List UInt8)) = true := by
        rw [ByteArray.toList_eq, hd, hs, ladB_cons, bne_iff_ne]
        intro e
        exact dig_ne x (by omega) (by omega) 45 (by decide) (List.cons.inj e).1
      have := spec_laParse.read s (by omega) n hf l x 2 [] (fun y hy => by have := g.2.2.2 y hy; omega) (by rw [hs, ladB_cons]; rfl) (by omega) (by omega) (by have := g.2.2.1; rw [List.length_cons] at this; simp; omega)
      exact this
  obtain ⟨j, hj⟩ := hend
  obtain ⟨r, h2, _, h3⟩ := spec_laParse.fin s j n l
  rw [hj, h2, h3 hg hs]
theorem spec_laParse.ok (s : ByteArray) : spec_laParse.f.v s = some (parI s.data.toList) := by
  obtain ⟨r, h1, h2⟩ := spec_laParse.sound_f s
  have hs : (⟨s.data.toList.toArray⟩ : ByteArray) = s := byte_ext rfl
  have := parse_same (fun t => (spec_laParse.f.v (⟨t.toArray⟩ : ByteArray)).getD (0, [], false)) (fun n l hg => by
    show (spec_laParse.f.v (⟨(ladB n l).toArray⟩ : ByteArray)).getD (0, [], false) = _
    rw [spec_laParse.of _ n l hg rfl]; rfl) s.data.toList (by
    simp only [hs, h1, Option.getD_some]
    exact h2)
  simp only [hs, h1, Option.getD_some] at this
  rw [h1, this]

theorem spec_ParseLadder.ok (s : ByteArray) : spec_ParseLadder.f.v s = some (parI s.data.toList) := by
  rw [spec_ParseLadder.f.v_eq, spec_laParse.ok, Option.bind_some]

theorem FnExactParseLadder : laws_FnExactParseLadder.Pure := by
  intro s _
  refine laws_FnExactParseLadder.f.ends s ?_
  rw [laws_FnExactParseLadder.f.v_eq]
  by_cases h0 : (s.size : Int) > 1048576
  · rw [if_pos h0]
  rw [if_neg h0]
  have hs := spec_ParseLadder.ok s
  have hi := impl_ParseLadder.ok s (by omega)
  have hr : (parI s.data.toList).2.1.length ≤ 60 := by
    rcases parI_or s.data.toList with h | ⟨n, l, hg, _, h⟩
    · rw [h]; simp
    · rw [h]; exact (good_iff.1 hg).2.2.1
  generalize parI s.data.toList = z at hs hi hr
  obtain ⟨m, r, t⟩ := z
  replace hr : r.length ≤ 60 := hr
  have n2 : ¬ ((1 : Int) + (r.length : Int) < 0) := by omega
  have e4 := laws_markIntS.ok r 1 (by omega) (by omega) (by omega)
  have e5 := laws_heldIntS.ok r.length 1 (by omega) (by omega) (by omega)
  have e2 := laws_eqLadder.ok m r (by omega)
  simp only [hs, hi, laws_markLadder.f.v_eq, e4, e5, if_neg n2, e2, laws_heldLadder.f.v_eq, laws_FnExactParseLadder.j0.v_eq, laws_FnExactParseLadder.j1.v_eq, Option.bind_some, bne_self_eq_false, Bool.false_eq_true, if_false, if_true]

end Go.Proofs.YtldcjlpbodpmbaaDoor.Pure
