/- Plain laws of this session on texts of ladders read back: the two readings agree at every text. No program in sight. -/
import Derived.Test.YtldcjlpbodpmbaaDoorNums
import Derived.Lib.SplitLaws
import Derived.Lib.CutLaws
namespace Go.Proofs.YtldcjlpbodpmbaaDoorL
open Go.RowKit Go.Proofs.YtldcjlpbodpmbaaDoorW.PrintWords
set_option linter.unusedVariables false
set_option linter.unusedSimpArgs false

/-- A text cut at each place of a byte. -/
def spl (c : UInt8) : List UInt8 → List (List UInt8)
  | [] => [[]]
  | b :: l => if b = c then [] :: spl c l else match spl c l with
    | [] => [[b]]
    | w :: r => (b :: w) :: r
theorem spl_ne (c : UInt8) : ∀ s, spl c s ≠ []
  | [] => by simp [spl]
  | b :: l => by
    unfold spl
    split
    · simp
    · split <;> simp
theorem index_cons (b c : UInt8) (l : List UInt8) : Lib.index (b :: l) [c] = if b = c then 0 else if Lib.index l [c] = -1 then -1 else Lib.index l [c] + 1 := by
  show (if ([c] : List UInt8).isPrefixOf (b :: l) = true then (0 : Int) else if (Lib.index l [c] == -1) = true then -1 else Lib.index l [c] + 1) = _
  have e : ([c] : List UInt8).isPrefixOf (b :: l) = decide (b = c) := by
    by_cases h : b = c
    · subst h; simp [List.isPrefixOf]
    · rw [decide_eq_false h]; simp [List.isPrefixOf]; exact fun x => h x.symm
  rw [e]
  by_cases h : b = c
  · rw [if_pos h, if_pos (decide_eq_true h)]
  · rw [if_neg h, if_neg (by simpa using h)]
    by_cases h2 : Lib.index l [c] = -1
    · rw [if_pos h2, if_pos (by rw [h2]; rfl)]
    · rw [if_neg h2, if_neg (by simpa using h2)]
theorem splitK_cons_ne (b c : UInt8) (l : List UInt8) (h : b ≠ c) (k : Nat) : ∃ w r, Lib.splitK [c] 0 k l = w :: r ∧ Lib.splitK [c] 0 k (b :: l) = (b :: w) :: r := by
  cases k with
  | zero => exact ⟨l, [], rfl, rfl⟩
  | succ k =>
    rw [Lib.splitK, Lib.splitK, index_cons, if_neg h]
    by_cases h2 : Lib.index l [c] = -1
    · rw [if_pos h2, h2]
      exact ⟨l, [], rfl, rfl⟩
    · have hg := Lib.index_ge l [c]
      have e : (Lib.index l [c] + 1).toNat = (Lib.index l [c]).toNat + 1 := by omega
      rw [if_neg h2, if_neg (by simpa using h2), if_neg (by simp; omega), e]
      exact ⟨_, _, rfl, by simp [Nat.add_right_comm]⟩
theorem splitK_spl (c : UInt8) : ∀ s : List UInt8, Lib.splitK [c] 0 (Lib.count s [c]) s = spl c s
  | [] => by
    have : Lib.count [] [c] = 0 := by rw [Lib.count_one]; rfl
    rw [this]; rfl
  | b :: l => by
    have ih := splitK_spl c l
    by_cases h : b = c
    · subst h
      rw [Lib.count_cons_eq, Nat.add_comm, Lib.splitK, index_cons, if_pos rfl, if_neg (by decide), spl, if_pos rfl, ← ih]
      simp
    · obtain ⟨w, r, e1, e2⟩ := splitK_cons_ne b c l h (Lib.count l [c])
      rw [Lib.count_cons_ne _ _ _ h, e2, spl, if_neg h, ← ih, e1]
theorem spl_join (c : UInt8) : ∀ s : List UInt8, Lib.join (spl c s) [c] = s
  | [] => rfl
  | b :: l => by
    have ih := spl_join c l
    cases hs : spl c l with
    | nil => exact absurd hs (spl_ne c l)
    | cons w r =>
      rw [hs, Lib.join_cons] at ih
      rw [spl, hs]
      by_cases h : b = c
      · subst h
        rw [if_pos rfl, Lib.join_cons, ← ih]
        simp [Lib.joinTail]
      · rw [if_neg h, Lib.join_cons, List.cons_append, ih]
theorem cut_at (c : UInt8) : ∀ s : List UInt8, 0 ≤ Lib.index s [c] → s = s.take (Lib.index s [c]).toNat ++ c :: s.drop ((Lib.index s [c]).toNat + 1)
  | [], h => by simp [Lib.index] at h
  | b :: l, h => by
    rw [index_cons] at h ⊢
    by_cases e : b = c
    · subst e; rw [if_pos rfl]; simp
    · rw [if_neg e] at h ⊢
      have hg := Lib.index_ge l [c]
      by_cases h2 : Lib.index l [c] = -1
      · rw [if_pos h2] at h; omega
      · rw [if_neg h2] at h ⊢
        have ih := cut_at c l (by omega)
        rw [show (Lib.index l [c] + 1).toNat = (Lib.index l [c]).toNat + 1 by omega, List.take_succ_cons, List.cons_append, List.drop_succ_cons, ← ih]
theorem cut_some {s w r : List UInt8} {c : UInt8} (h : Lib.cut s [c] = (w, r, true)) : s = w ++ c :: r := by
  unfold Lib.cut at h
  split at h
  · rename_i h0
    obtain ⟨rfl, h2⟩ := Prod.mk.inj h
    obtain ⟨rfl, _⟩ := Prod.mk.inj h2
    exact cut_at c s h0
  · obtain ⟨_, h2⟩ := Prod.mk.inj h
    obtain ⟨_, h3⟩ := Prod.mk.inj h2
    cases h3
theorem cut_second (d c : UInt8) (r : List UInt8) (h : d ≠ c) : Lib.cut (d :: c :: r) [c] = ([d], r, true) := by
  have e : Lib.index (d :: c :: r) [c] = 1 := by rw [index_cons, if_neg h, index_cons, if_pos rfl, if_neg (by decide)]; rfl
  unfold Lib.cut
  rw [e, if_pos (by decide)]; rfl
/-- The text of a ladder. -/
def ladB (n : Int) (l : List Int) : List UInt8 := digB n ++ 58 :: (if l = [] then [45] else digsB false l)
theorem digU (x : Int) (h0 : 0 ≤ x) (h1 : x < 10) : (UInt8.ofNat (48 + x.toNat)).toNat = 48 + x.toNat := by rw [UInt8.toNat_ofNat']; omega
theorem dig_ne (x : Int) (h0 : 0 ≤ x) (h1 : x < 10) (c : UInt8) (hc : c.toNat < 48 ∨ 57 < c.toNat) : UInt8.ofNat (48 + x.toNat) ≠ c := fun e => by
  have := digU x h0 h1
  rw [e] at this
  omega
theorem rnP_dig (x : Int) (h0 : 0 ≤ x) (h1 : x < 10) : rnP (digB x) = (x, true) := by
  have := rnP_num (t := digB x) (x := x.toNat) (by
    unfold digB
    rw [num_one, digU x h0 h1, if_pos (by omega)]
    congr 1; omega)
  rw [this, Int.toNat_of_nonneg h0]
theorem rnP_true {t : List UInt8} (h : (rnP t).2 = true) : 0 ≤ (rnP t).1 ∧ t = Lib.itoa (rnP t).1 := by
  unfold rnP at h ⊢
  cases hA : Lib.atoiAll t
  rotate_left
  · rw [hA] at h; cases h
  · rw [hA] at h; cases h
  · rw [hA] at h
    simp only [Bool.and_eq_true, decide_eq_true_eq, beq_iff_eq] at h ⊢
    exact ⟨h.1.1, h.2.symm⟩
theorem itoa_dig (x : Int) (h0 : 0 ≤ x) (h1 : x < 10) : Lib.itoa x = digB x := by
  unfold Lib.itoa
  rw [if_neg (by omega), Lib.decDigits_one (by omega)]; rfl
/-- The numbers of words. -/
def rlGo : List (List UInt8) → List Int → List Int × Bool
  | [], acc => (acc, true)
  | w :: r, acc => if (rnP w).2 = true then rlGo r (acc ++ [(rnP w).1]) else ([], false)
theorem rlGo_digs : ∀ (l acc : List Int), (∀ x ∈ l, 0 ≤ x ∧ x < 10) → rlGo (l.map digB) acc = (acc ++ l, true)
  | [], acc, _ => by simp [rlGo]
  | x :: l, acc, h => by
    have hx := h x (by simp)
    rw [List.map_cons, rlGo, rnP_dig x hx.1 hx.2, if_pos rfl, rlGo_digs l _ (fun y hy => h y (by simp [hy])), List.append_assoc]; rfl
theorem rlGo_true : ∀ (ws : List (List UInt8)) (acc r : List Int), rlGo ws acc = (r, true) → ∃ l, r = acc ++ l ∧ ws = l.map Lib.itoa ∧ ∀ x ∈ l, 0 ≤ x
  | [], acc, r, h => by
    obtain ⟨rfl, _⟩ := Prod.mk.inj h
    exact ⟨[], by simp, rfl, by simp⟩
  | w :: ws, acc, r, h => by
    rw [rlGo] at h
    by_cases hw : (rnP w).2 = true
    · rw [if_pos hw] at h
      obtain ⟨l, h1, h2, h3⟩ := rlGo_true ws _ r h
      have h4 := rnP_true hw
      refine ⟨(rnP w).1 :: l, by rw [h1, List.append_assoc]; rfl, by rw [List.map_cons, ← h2, ← h4.2], fun x hx => ?_⟩
      rcases List.mem_cons.1 hx with rfl | hx
      · exact h4.1
      · exact h3 x hx
    · rw [if_neg hw] at h
      cases (Prod.mk.inj h).2
theorem spl_digs : ∀ (l : List Int) (x : Int), (∀ y ∈ x :: l, 0 ≤ y ∧ y < 10) → spl 44 (digB x ++ digsB true l) = digB x :: l.map digB
  | [], x, h => by
    have hx := h x (by simp)
    show spl 44 [UInt8.ofNat (48 + x.toNat)] = _
    rw [spl, if_neg (dig_ne x hx.1 hx.2 44 (by decide))]; rfl
  | y :: l, x, h => by
    have hx := h x (by simp)
    have ih := spl_digs l y (fun z hz => h z (by simp at hz ⊢; exact .inr hz))
    show spl 44 (UInt8.ofNat (48 + x.toNat) :: (if true = true then [44] else []) ++ digB y ++ digsB true l) = _
    rw [if_pos rfl]
    show spl 44 (UInt8.ofNat (48 + x.toNat) :: 44 :: (digB y ++ digsB true l)) = _
    rw [spl, if_neg (dig_ne x hx.1 hx.2 44 (by decide)), spl, if_pos rfl, ih]; rfl
def rlM (t : List UInt8) : List Int × Bool := if t = [45] then ([], true) else rlGo (spl 44 t) []
theorem rlM_of (l : List Int) (h : ∀ x ∈ l, 0 ≤ x ∧ x < 10) : rlM (if l = [] then [45] else digsB false l) = (l, true) := by
  cases l with
  | nil => rfl
  | cons x l =>
    have hx := h x (by simp)
    rw [if_neg (by simp)]
    have e : digsB false (x :: l) = digB x ++ digsB true l := by rw [digsB, if_neg (by simp), List.nil_append]
    unfold rlM
    rw [e, if_neg (show ¬ (digB x ++ digsB true l = [45]) from fun e2 => dig_ne x hx.1 hx.2 45 (by decide) (List.cons.inj e2).1), spl_digs l x h]
    have := rlGo_digs (x :: l) [] h
    rwa [List.map_cons, List.nil_append] at this
theorem rlM_true {t : List UInt8} {l : List Int} (h : rlM t = (l, true)) (hs : ∀ x ∈ l, x < 10) : t = if l = [] then [45] else digsB false l := by
  unfold rlM at h
  by_cases e : t = [45]
  · rw [if_pos e] at h
    obtain ⟨rfl, _⟩ := Prod.mk.inj h
    rw [if_pos rfl]; exact e
  · rw [if_neg e] at h
    obtain ⟨l', h1, h2, h3⟩ := rlGo_true _ _ _ h
    rw [List.nil_append] at h1
    subst h1
    have hne : l ≠ [] := fun e3 => by subst e3; exact spl_ne 44 t h2
    have hj := spl_join 44 t
    have e4 : l.map Lib.itoa = l.map digB := List.map_congr_left fun x hx => itoa_dig x (h3 x hx) (hs x hx)
    rw [if_neg hne, ← digsB_join, ← e4, ← h2, hj]
/-- What the program reads. -/
def parI (t : List UInt8) : Int × List Int × Bool :=
  if (Lib.cut t [58]).2.2 = true ∧ (rnP (Lib.cut t [58]).1).2 = true ∧ (rlM (Lib.cut t [58]).2.1).2 = true ∧ good (rnP (Lib.cut t [58]).1).1 (rlM (Lib.cut t [58]).2.1).1 = true then ((rnP (Lib.cut t [58]).1).1, (rlM (Lib.cut t [58]).2.1).1, true) else (0, [], false)
theorem parI_of (n : Int) (l : List Int) (h : good n l = true) : parI (ladB n l) = (n, l, true) := by
  have g := good_iff.1 h
  have hc : Lib.cut (ladB n l) [58] = (digB n, if l = [] then [45] else digsB false l, true) := cut_second _ _ _ (dig_ne n (by omega) (by omega) 58 (by decide))
  have h1 := rnP_dig n (by omega) (by omega)
  have h2 := rlM_of l (fun x hx => by have := g.2.2.2 x hx; omega)
  unfold parI
  rw [hc]
  simp only [h1, h2]
  rw [if_pos ⟨trivial, trivial, trivial, h⟩]
theorem parI_or (t : List UInt8) : parI t = (0, [], false) ∨ ∃ n l, good n l = true ∧ t = ladB n l ∧ parI t = (n, l, true) := by
  unfold parI
  split
  · rename_i h
    obtain ⟨h1, h2, h3, h4⟩ := h
    right
    refine ⟨_, _, h4, ?_, rfl⟩
    have g := good_iff.1 h4
    obtain ⟨w, r, b, hc⟩ : ∃ w r b, Lib.cut t [58] = (w, r, b) := ⟨_, _, _, rfl⟩
    rw [hc] at h1 h2 h3 h4 g ⊢
    simp only at h1 h2 h3 h4 g ⊢
    subst h1
    have e1 := cut_some hc
    have e2 := rnP_true h2
    have e3 : rlM r = ((rlM r).1, true) := by rw [← h3]
    have e4 := rlM_true e3 (fun x hx => by have := g.2.2.2 x hx; omega)
    have e5 := itoa_dig (rnP w).1 e2.1 (by omega)
    unfold ladB
    rw [← e5, ← e2.2, ← e4, e1]
  · exact .inl rfl
theorem parse_same (F : List UInt8 → Int × List Int × Bool) (h1 : ∀ n l, good n l = true → F (ladB n l) = (n, l, true)) (t : List UInt8) (h2 : F t = (0, [], false) ∨ ∃ n l, good n l = true ∧ t = ladB n l ∧ F t = (n, l, true)) : F t = parI t := by
  rcases h2 with h2 | ⟨n, l, hg, rfl, h2⟩
  · rcases parI_or t with h3 | ⟨n, l, hg, rfl, h3⟩
    · rw [h2, h3]
    · rw [h1 n l hg, h3]
  · rw [h2, parI_of n l hg]
theorem bt_drop {s : ByteArray} {i : Nat} {b : UInt8} {t : List UInt8} (h : s.data.toList.drop i = b :: t) : i < s.size ∧ bt s (i : Int) = (b.toNat : Int) ∧ s.data.toList.drop (i + 1) = t := by
  have hl : i < s.data.toList.length := by
    rcases Nat.lt_or_ge i s.data.toList.length with h1 | h1
    · exact h1
    · rw [List.drop_eq_nil_of_le h1] at h; cases h
  rw [List.drop_eq_getElem_cons hl] at h
  obtain ⟨h1, h2⟩ := List.cons.inj h
  have hs : i < s.size := hl
  refine ⟨hs, ?_, h2⟩
  unfold bt
  rw [dif_pos (by rw [Int.toNat_natCast]; exact hs), ← h1]
  obtain ⟨⟨L⟩⟩ := s
  rfl
theorem digsB_len (l : List Int) : (digsB true l).length = 2 * l.length := by
  induction l with
  | nil => rfl
  | cons x l ih =>
    have h1 : (digB x).length = 1 := rfl
    rw [digsB, if_pos rfl]
    simp only [List.length_append, List.length_cons, List.length_nil, ih, h1]
    omega
theorem ladB_nil (n : Int) : ladB n [] = [UInt8.ofNat (48 + n.toNat), 58, 45] := rfl
theorem ladB_cons (n x : Int) (l : List Int) : ladB n (x :: l) = UInt8.ofNat (48 + n.toNat) :: 58 :: (digB x ++ digsB true l) := by
  unfold ladB
  rw [if_neg (by simp), digsB, if_neg (by simp)]; rfl
theorem spl_length (c : UInt8) : ∀ s : List UInt8, (spl c s).length ≤ s.length + 1 ∧ ∀ w ∈ spl c s, w.length ≤ s.length
  | [] => by simp [spl]
  | b :: l => by
    have ih := spl_length c l
    unfold spl
    split
    · refine ⟨by rw [List.length_cons, List.length_cons]; omega, fun w hw => ?_⟩
      rcases List.mem_cons.1 hw with rfl | hw
      · simp
      · have := ih.2 w hw; rw [List.length_cons]; omega
    · cases hs : spl c l with
      | nil => exact absurd hs (spl_ne c l)
      | cons w r =>
        rw [hs] at ih
        refine ⟨by simpa using Nat.le_succ_of_le ih.1, fun v hv => ?_⟩
        rcases List.mem_cons.1 hv with rfl | hv
        · have := ih.2 w (by simp); rw [List.length_cons, List.length_cons]; omega
        · have := ih.2 v (by simp [hv]); rw [List.length_cons]; omega
theorem cut_length (s : List UInt8) (c : UInt8) : (Lib.cut s [c]).1.length ≤ s.length ∧ (Lib.cut s [c]).2.1.length ≤ s.length := by
  unfold Lib.cut
  split
  · exact ⟨by rw [List.length_take]; omega, by rw [List.length_drop]; omega⟩
  · exact ⟨Nat.le_refl _, Nat.zero_le _⟩
theorem drop_bytes2 (s : ByteArray) (k : Nat) : (s.extract k s.size).data.toList = s.data.toList.drop k := by
  have : s.size = s.data.toList.length := rfl
  simp [ByteArray.data_extract]
  rw [List.take_of_length_le (by simp)]
end Go.Proofs.YtldcjlpbodpmbaaDoorL
