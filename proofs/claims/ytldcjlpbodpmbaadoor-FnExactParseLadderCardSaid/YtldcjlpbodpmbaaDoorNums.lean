/- Plain laws of this session on numbers read from texts. No program in sight. -/
import Derived.Test.YtldcjlpbodpmbaaDoorTexts
import Derived.Lib.AtoiAll
namespace Go.Proofs.YtldcjlpbodpmbaaDoorL
open Go.RowKit Go.Proofs.YtldcjlpbodpmbaaDoorW.PrintWords
set_option linter.unusedVariables false
set_option linter.unusedSimpArgs false

/-- One or two digits. -/
def dL (i : Nat) : List UInt8 := if i < 10 then [UInt8.ofNat (48 + i)] else [UInt8.ofNat (48 + i / 10), UInt8.ofNat (48 + i % 10)]
theorem dL_eq {i : Nat} (h : i < 100) : Lib.decDigits i = dL i := by
  unfold dL
  by_cases h1 : i < 10
  · rw [if_pos h1, Lib.decDigits_one h1]
  · rw [if_neg h1, Lib.decDigits_two h1 h]
theorem dL_atoi0 : ∀ i : Fin 100, Lib.atoiAll (dL i.1) = .ok (i.1 : Int) := by decide +kernel
theorem dL_atoi {i : Nat} (h : i < 100) : Lib.atoiAll (dL i) = .ok (i : Int) := dL_atoi0 ⟨i, h⟩
theorem dL_inj {i j : Nat} (hi : i < 100) (hj : j < 100) (h : dL i = dL j) : i = j := by
  have h1 := dL_atoi hi
  rw [h, dL_atoi hj] at h1
  have := Lib.NumEnd.ok.inj h1
  omega
/-- The number below a hundred that a text tells. -/
def num (t : List UInt8) : Option Nat := (List.range 100).find? fun i => dL i == t
theorem num_some {t : List UInt8} {x : Nat} (h : num t = some x) : x < 100 ∧ dL x = t := by
  unfold num at h
  exact ⟨List.mem_range.1 (List.mem_of_find?_eq_some h), by simpa using List.find?_some h⟩
theorem num_of {t : List UInt8} {x : Nat} (h : x < 100) (e : dL x = t) : num t = some x := by
  cases hn : num t with
  | some y => have := num_some hn; rw [dL_inj h this.1 (e.trans this.2.symm)]
  | none =>
    unfold num at hn
    have := List.find?_eq_none.1 hn x (List.mem_range.2 h)
    simp [e] at this
theorem num_none {t : List UInt8} (h : num t = none) {x : Nat} (hx : x < 100) : dL x ≠ t := fun e => by
  rw [num_of hx e] at h; cases h
/-- What is read off a text. -/
def rnP (t : List UInt8) : Int × Bool :=
  match Lib.atoiAll t with
  | .ok v => (v, decide (0 ≤ v) && decide (v ≤ 999999) && (Lib.itoa v == t))
  | .range => (Lib.atoiSat t, false)
  | _ => (0, false)
theorem rnP_num {t : List UInt8} {x : Nat} (h : num t = some x) : rnP t = ((x : Int), true) := by
  obtain ⟨h1, h2⟩ := num_some h
  have h3 := dL_atoi h1
  rw [h2] at h3
  unfold rnP
  rw [h3]
  have h4 : Lib.itoa (x : Int) = t := by
    unfold Lib.itoa
    rw [if_neg (by omega), Int.toNat_natCast, dL_eq h1, h2]
  have d0 : decide (0 ≤ (x : Int)) = true := decide_eq_true (by omega)
  have d1 : decide ((x : Int) ≤ 999999) = true := decide_eq_true (by omega)
  simp only [h4, d0, d1, beq_self_eq_true, Bool.and_self]
theorem rnP_none {t : List UInt8} (h : num t = none) (hb : (rnP t).2 = true) : 100 ≤ (rnP t).1 := by
  unfold rnP at hb ⊢
  cases hA : Lib.atoiAll t
  rotate_left
  · rw [hA] at hb; cases hb
  · rw [hA] at hb; cases hb
  · rename_i v
    rw [hA] at hb
    simp only [Bool.and_eq_true, decide_eq_true_eq, beq_iff_eq] at hb ⊢
    obtain ⟨⟨h0, h1⟩, h2⟩ := hb
    by_cases c : 100 ≤ v
    · exact c
    · exfalso
      obtain ⟨m, rfl⟩ := Int.eq_ofNat_of_zero_le h0
      refine num_none h (x := m) (by omega) ?_
      rw [← dL_eq (by omega), ← h2]
      unfold Lib.itoa
      rw [if_neg (by omega), Int.toNat_natCast]
theorem num_len {t : List UInt8} {x : Nat} (h : num t = some x) : t.length = 1 ∨ t.length = 2 := by
  obtain ⟨h1, h2⟩ := num_some h
  rw [← h2]
  unfold dL
  split
  · exact .inl rfl
  · exact .inr rfl
theorem u8_of {b : UInt8} {n : Nat} (h : b.toNat = n) : UInt8.ofNat n = b := by
  rw [← h]; exact UInt8.ofNat_toNat
/-- One byte. -/
theorem num_one (b : UInt8) : num [b] = if 48 ≤ b.toNat ∧ b.toNat ≤ 57 then some (b.toNat - 48) else none := by
  by_cases c : 48 ≤ b.toNat ∧ b.toNat ≤ 57
  · rw [if_pos c]
    refine num_of (by omega) ?_
    unfold dL
    rw [if_pos (by omega), u8_of (b := b) (by omega)]
  · rw [if_neg c]
    cases hn : num [b] with
    | none => rfl
    | some x =>
      exfalso
      obtain ⟨h1, h2⟩ := num_some hn
      unfold dL at h2
      split at h2
      · rename_i h3
        have h4 := congrArg UInt8.toNat (List.cons.inj h2).1
        rw [UInt8.toNat_ofNat'] at h4
        omega
      · cases (List.cons.inj h2).2
/-- Two bytes. -/
theorem num_two (b c : UInt8) : num [b, c] = if (48 ≤ b.toNat ∧ b.toNat ≤ 57) ∧ (48 ≤ c.toNat ∧ c.toNat ≤ 57) ∧ 49 ≤ b.toNat then some (10 * (b.toNat - 48) + (c.toNat - 48)) else none := by
  by_cases d : (48 ≤ b.toNat ∧ b.toNat ≤ 57) ∧ (48 ≤ c.toNat ∧ c.toNat ≤ 57) ∧ 49 ≤ b.toNat
  · rw [if_pos d]
    refine num_of (by omega) ?_
    unfold dL
    rw [if_neg (by omega), u8_of (b := b) (by omega), u8_of (b := c) (by omega)]
  · rw [if_neg d]
    cases hn : num [b, c] with
    | none => rfl
    | some x =>
      exfalso
      obtain ⟨h1, h2⟩ := num_some hn
      unfold dL at h2
      split at h2
      · cases (List.cons.inj h2).2
      · rename_i h3
        have h4 := congrArg UInt8.toNat (List.cons.inj h2).1
        have h5 := congrArg UInt8.toNat (List.cons.inj (List.cons.inj h2).2).1
        rw [UInt8.toNat_ofNat'] at h4 h5
        omega
/-- A ladder behind a move of a kind. -/
def makeM (n : Int) (l : List Int) (c a : Int) : Int × List Int × Bool :=
  if c = 115 then (if good n l = true ∧ slideC l a = true then (n, slideL l a, true) else (0, [], false))
  else if c = 102 then (if good n l = true ∧ flipC l a = true then (n, flipL l a, true) else (0, [], false))
  else if c = 100 then (if good n l = true ∧ dropC l a = true then (n, dropL l a, true) else (0, [], false))
  else (0, [], false)
theorem makeM_bad {n : Int} {l : List Int} {c a : Int} (h : good n l ≠ true) : makeM n l c a = (0, [], false) := by
  unfold makeM
  simp [h]
theorem makeM_far {n : Int} {l : List Int} {c a : Int} (ha : 100 ≤ a) : makeM n l c a = (0, [], false) := by
  by_cases h : good n l = true
  · have g := (good_iff.1 h).2.2.1
    have e1 : slideC l a = false := decide_eq_false (fun x => by omega)
    have e2 : flipC l a = false := decide_eq_false (fun x => by omega)
    have e3 : dropC l a = false := decide_eq_false (fun x => by omega)
    unfold makeM
    rw [e1, e2, e3]
    simp
  · exact makeM_bad h
theorem makeM_length (n : Int) (l : List Int) (c a : Int) : (makeM n l c a).2.1.length ≤ 60 := by
  by_cases h : good n l = true
  · have g := (good_iff.1 h).2.2.1
    have h1 := slideL_length l a
    have h2 := flipL_length l a
    have h3 := dropL_length l a
    unfold makeM
    split
    · split <;> simp <;> omega
    · split
      · split <;> simp <;> omega
      · split
        · split <;> simp <;> omega
        · simp
  · rw [makeM_bad h]; simp
/-- A ladder behind a move that a text tells. -/
def moveM (n : Int) (l : List Int) (t : List UInt8) : Int × List Int × Bool :=
  match t with
  | [] => (0, [], false)
  | k :: r => match num r with
    | none => (0, [], false)
    | some x => makeM n l (k.toNat : Int) (x : Int)
theorem moveM_length (n : Int) (l : List Int) (t : List UInt8) : (moveM n l t).2.1.length ≤ 60 := by
  unfold moveM
  split
  · simp
  · split
    · simp
    · exact makeM_length _ _ _ _
theorem drop_bytes (s : ByteArray) (h : 1 ≤ s.size) : (s.extract 1 s.size).data.toList = s.data.toList.drop 1 := by
  have : s.size = s.data.toList.length := rfl
  simp [ByteArray.data_extract]
  rw [List.take_of_length_le (by simp)]
theorem bt_first {s : ByteArray} {k : UInt8} {r : List UInt8} (h : s.data.toList = k :: r) : bt s 0 = (k.toNat : Int) := by
  obtain ⟨⟨L⟩⟩ := s
  obtain rfl : L = k :: r := h
  rfl
theorem bt_at1 {s : ByteArray} {k b : UInt8} {r : List UInt8} (h : s.data.toList = k :: b :: r) : bt s 1 = (b.toNat : Int) := by
  obtain ⟨⟨L⟩⟩ := s
  obtain rfl : L = k :: b :: r := h
  rfl
theorem bt_at2 {s : ByteArray} {k b c : UInt8} {r : List UInt8} (h : s.data.toList = k :: b :: c :: r) : bt s 2 = (c.toNat : Int) := by
  obtain ⟨⟨L⟩⟩ := s
  obtain rfl : L = k :: b :: c :: r := h
  rfl
end Go.Proofs.YtldcjlpbodpmbaaDoorL
