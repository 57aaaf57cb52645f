/- Proved: for every input the law FnExactMovesOn returns true (its plain statement, over numbers and lists). No condition. -/
import Derived.Test.YtldcjlpbodpmbaaDoorPMvx12
import Derived.Test.YtldcjlpbodpmbaaDoorPMvx3
import Derived.Test.YtldcjlpbodpmbaaDoorPMvx4
import Derived.Test.YtldcjlpbodpmbaaDoorPMvx5
import Derived.Test.YtldcjlpbodpmbaaDoorPMvx9
import Derived.Test.YtldcjlpbodpmbaaDoorVMvx1
import Derived.Test.YtldcjlpbodpmbaaDoorVMvx10
import Derived.Test.YtldcjlpbodpmbaaDoorVMvx11
import Derived.Test.YtldcjlpbodpmbaaDoorVMvx12
import Derived.Test.YtldcjlpbodpmbaaDoorVMvx2
import Derived.Test.YtldcjlpbodpmbaaDoorVMvx6
import Derived.Test.YtldcjlpbodpmbaaDoorVMvx7
import Derived.Test.YtldcjlpbodpmbaaDoorVMvx8
import Derived.Test.YtldcjlpbodpmbaaDoorLadders
import Derived.Test.YtldcjlpbodpmbaaDoorMoves
import Derived.Test.YtldcjlpbodpmbaaDoorPlain
import Derived.Test.YtldcjlpbodpmbaaDoorTexts
namespace Go.Proofs.YtldcjlpbodpmbaaDoor.Pure
open Go.RowKit Go.Proofs.YtldcjlpbodpmbaaDoor.PMv Go.Proofs.YtldcjlpbodpmbaaDoorW.PrintWords Go.Proofs.YtldcjlpbodpmbaaDoorW.PrintLast Go.Proofs.YtldcjlpbodpmbaaDoorW.PrintMore Go.Proofs.YtldcjlpbodpmbaaDoorL
set_option linter.unusedVariables false
set_option linter.unusedSimpArgs false

theorem impl_canDrop.ok (n : Int) (l : List Int) (a : Int) (hl : l.length ≤ 1000) : impl_canDrop.f n l a = some (dropC l a) := by
  unfold impl_canDrop.f impl_between.f
  rw [wrap_id (x := (l.length : Int) - 2) (by omega) (by omega)]
  by_cases h0 : 0 ≤ a
  · rw [if_pos h0, Option.bind_some]
    by_cases h1 : a + 1 < l.length
    · rw [decide_eq_true (show a ≤ (l.length : Int) - 2 by omega), if_pos rfl, if_pos h0, if_pos (by omega), wrap_id (x := a + 1) (by omega) (by omega), if_pos (by omega), if_pos h1]
      unfold dropC
      congr 1
      rw [Bool.eq_iff_iff, beq_iff_eq, decide_eq_true_iff]
      omega
    · rw [decide_eq_false (by omega), if_neg (by simp)]
      unfold dropC
      rw [decide_eq_false (fun x => h1 x.2.1)]
  · rw [if_neg h0, Option.bind_some, if_neg (by simp)]
    unfold dropC
    rw [decide_eq_false (fun x => h0 x.1)]

theorem impl_canFlip.ok (n : Int) (l : List Int) (a : Int) (hs : ∀ x ∈ l, 0 ≤ x ∧ x ≤ 1000) (hl : l.length ≤ 1000) : impl_canFlip.f n l a = some (flipC l a) := by
  unfold impl_canFlip.f impl_between.f
  rw [wrap_id (x := (l.length : Int) - 3) (by omega) (by omega)]
  by_cases h0 : 0 ≤ a
  · rw [if_pos h0, Option.bind_some]
    by_cases h1 : a + 2 < l.length
    · have b1 := small_rd hs a h0 (by omega)
      have b2 := small_rd hs (a + 1) (by omega) (by omega)
      rw [decide_eq_true (show a ≤ (l.length : Int) - 3 by omega), if_pos rfl, if_pos h0, if_pos (by omega), wrap_id (x := a + 2) (by omega) (by omega), if_pos (by omega), if_pos h1]
      unfold flipC
      by_cases c0 : rd l a = rd l (a + 2)
      · rw [if_pos c0, wrap_id (x := a + 1) (by omega) (by omega), if_pos (by omega), if_pos (by omega), wrap_id (x := rd l a + 1) (by omega) (by omega), wrap_id (x := rd l a - 1) (by omega) (by omega)]
        by_cases c : rd l (a + 1) = rd l a + 1
        · rw [if_pos c, decide_eq_true (p := 0 ≤ a ∧ _) ⟨h0, h1, c0, .inr (by omega)⟩]
        · rw [if_neg c]
          congr 1
          rw [Bool.eq_iff_iff, beq_iff_eq, decide_eq_true_iff]
          constructor
          · intro x; exact ⟨h0, h1, c0, by omega⟩
          · intro x; have := x.2.2.2; omega
      · rw [if_neg c0, decide_eq_false (fun x => c0 x.2.2.1)]
    · rw [decide_eq_false (by omega), if_neg (by simp)]
      unfold flipC
      rw [decide_eq_false (fun x => h1 x.2.1)]
  · rw [if_neg h0, Option.bind_some, if_neg (by simp)]
    unfold flipC
    rw [decide_eq_false (fun x => h0 x.1)]

theorem impl_canSlide.ok (n : Int) (l : List Int) (a : Int) (hs : ∀ x ∈ l, 0 ≤ x ∧ x ≤ 1000) (hl : l.length ≤ 1000) : impl_canSlide.f n l a = some (slideC l a) := by
  unfold impl_canSlide.f impl_between.f
  rw [wrap_id (x := (l.length : Int) - 2) (by omega) (by omega)]
  by_cases h0 : 0 ≤ a
  · rw [if_pos h0, Option.bind_some]
    by_cases h1 : a + 1 < l.length
    · have b1 := small_rd hs a h0 (by omega)
      have b2 := small_rd hs (a + 1) (by omega) h1
      rw [decide_eq_true (show a ≤ (l.length : Int) - 2 by omega), if_pos rfl, if_pos h0, if_pos (by omega), wrap_id (x := a + 1) (by omega) (by omega), if_pos (by omega), if_pos h1]
      unfold impl_apart.f
      rw [wrap_id (x := rd l a - rd l (a + 1)) (by omega) (by omega), wrap_id (x := rd l (a + 1) - rd l a) (by omega) (by omega)]
      unfold slideC
      by_cases c : rd l a - rd l (a + 1) ≥ 2
      · rw [if_pos c, Option.bind_some, decide_eq_true (p := 0 ≤ a ∧ _) ⟨h0, h1, .inl c⟩]
      · rw [if_neg c, Option.bind_some]
        congr 1
        rw [decide_eq_decide]
        omega
    · rw [decide_eq_false (by omega), if_neg (by simp)]
      unfold slideC
      rw [decide_eq_false (fun x => h1 x.2.1)]
  · rw [if_neg h0, Option.bind_some, if_neg (by simp)]
    unfold slideC
    rw [decide_eq_false (fun x => h0 x.1)]

theorem impl_isLadder.ok (n : Int) (l : List Int) : impl_isLadder.f n l = some (good n l) := by
  unfold impl_isLadder.f good
  have h : (!(l.any (impl_isLadder.bad n))) = l.all (inB n) := by
    rw [List.not_any_eq_all_not]
    congr 1; funext x
    unfold impl_isLadder.bad inB
    exact Bool.not_not _
  rw [h]

theorem impl_MovesOn.dig (i : Nat) (h : i < 100) : impl_MovesOn.itoa.f (i : Int) = some (digT i) := by
  unfold impl_MovesOn.itoa.f digT
  rw [if_pos ⟨by omega, by omega⟩, toNat_cast]
theorem impl_MovesOn.ok_g (cf : Int → List Int → Int → Option Bool) (c : Int → Bool) (s : ByteArray) (hs : s.size ≤ 10) (n : Int) (l : List Int) (hl : l.length ≤ 60) (hc : ∀ a, cf n l a = some (c a)) : ∀ (d i : Nat) (acc : List ByteArray), i + d = l.length → acc.length + d ≤ 900 → impl_MovesOn.g cf s n l d i acc = some (acc ++ mvL s c d i) := by
  intro d
  induction d with
  | zero => intro i acc hi ha; rw [impl_MovesOn.g, mvL, List.append_nil]
  | succ d ih =>
    intro i acc hi ha
    rw [impl_MovesOn.g, hc, Option.bind_some, mvL]
    by_cases e : c (i : Int) = true
    · have h2 := digT_size i (by omega)
      rw [if_pos e, if_pos e, impl_MovesOn.dig i (by omega), Option.bind_some, if_pos (by omega), if_pos (by omega), ih (i + 1) _ (by omega) (by simp; omega)]
      simp
    · rw [if_neg e, if_neg e, ih (i + 1) acc (by omega) (by omega)]
theorem impl_MovesOn.ok (n : Int) (l : List Int) : impl_MovesOn.f n l = some (if good n l = true then (allMoves l, true) else ([], false)) := by
  unfold impl_MovesOn.f
  rw [impl_isLadder.ok, Option.bind_some]
  by_cases hg : good n l = true
  · have h := good_iff.1 hg
    have hs := good_small hg
    have h1 := mvL_length ⟨#[115]⟩ (slideC l) l.length 0
    have h2 := mvL_length ⟨#[102]⟩ (flipC l) l.length 0
    rw [if_pos hg, if_pos hg, if_pos (by omega)]
    rw [impl_MovesOn.ok_g impl_canSlide.f (slideC l) ⟨#[115]⟩ (by decide) n l h.2.2.1 (fun a => impl_canSlide.ok n l a hs (by omega)) l.length 0 [] (by omega) (by simp; omega), Option.bind_some, List.nil_append]
    rw [impl_MovesOn.ok_g impl_canFlip.f (flipC l) ⟨#[102]⟩ (by decide) n l h.2.2.1 (fun a => impl_canFlip.ok n l a hs (by omega)) l.length 0 _ (by omega) (by omega), Option.bind_some]
    rw [impl_MovesOn.ok_g impl_canDrop.f (dropC l) ⟨#[100]⟩ (by decide) n l h.2.2.1 (fun a => impl_canDrop.ok n l a (by omega)) l.length 0 _ (by omega) (by rw [List.length_append]; omega), Option.bind_some]
    rfl
  · rw [if_neg hg, if_neg hg]

theorem laws_eqIntS.ok_l (xs : List Int) (hn : xs.length ≤ 140737488355328) : ∀ (d i : Nat), xs.length - i = d → laws_eqIntS.l0.v xs xs i = some true := by
  intro d
  induction d with
  | zero =>
    intro i hd
    rw [laws_eqIntS.l0.v_eq, if_neg (cast_nlt (by omega))]
  | succ d ih =>
    intro i hd
    have h : i < xs.length := by omega
    rw [laws_eqIntS.l0.v_eq, if_pos (cast_lt h), if_pos (Int.natCast_nonneg i), if_pos (cast_lt h), if_pos rfl, succ_wrap h hn]
    exact ih (i + 1) (by omega)
theorem laws_eqIntS.ok (xs : List Int) (hn : xs.length ≤ 140737488355328) : laws_eqIntS.f.v xs xs = some true := by
  rw [laws_eqIntS.f.v_eq, if_pos rfl]
  exact laws_eqIntS.ok_l xs hn xs.length 0 (by omega)

theorem laws_eqLadder.ok (n : Int) (l : List Int) (h : l.length ≤ 140737488355328) : laws_eqLadder.f.v n l n l = some true := by
  rw [laws_eqLadder.f.v_eq, if_pos rfl, laws_eqIntS.ok l h]; rfl

theorem laws_eqStringS.ok_l (xs : List ByteArray) (hn : xs.length ≤ 1000) : ∀ (d i : Nat), i + d = xs.length → laws_eqStringS.l0.v xs xs i = some true := by
  intro d
  induction d with
  | zero => intro i hi; rw [laws_eqStringS.l0.v_eq, if_neg (by omega)]
  | succ d ih =>
    intro i hi
    have h : i < xs.length := by omega
    rw [laws_eqStringS.l0.v_eq, if_pos (by omega), if_pos (by omega), if_pos (by omega), if_pos rfl, succ_wrap h (by omega)]
    exact ih (i + 1) (by omega)
theorem laws_eqStringS.ok (xs : List ByteArray) (hn : xs.length ≤ 1000) : laws_eqStringS.f.v xs xs = some true := by
  rw [laws_eqStringS.f.v_eq, if_pos rfl]
  exact laws_eqStringS.ok_l xs hn xs.length 0 (by omega)

theorem laws_markText.ex_l : ∀ (m : Nat) (x : Int) (acc : ByteArray), 0 ≤ x → x < 10 ^ m → x ≤ 1000000 → acc.size + m ≤ 1000 → ∃ t, laws_markText.l0.v x acc = some t := by
  intro m
  induction m with
  | zero =>
    intro x acc h0 h1 hb hs
    rw [Int.pow_zero] at h1
    rw [laws_markText.l0.v_eq, if_neg (by omega), if_pos (by omega)]
    exact ⟨_, rfl⟩
  | succ m ih =>
    intro x acc h0 h1 hb hs
    rw [laws_markText.l0.v_eq]
    by_cases c : x > 0
    · have e1 : Int.tdiv x 10 = x / 10 := Int.tdiv_eq_ediv_of_nonneg h0
      have hp : (10 : Int) ^ (m + 1) = 10 ^ m * 10 := Int.pow_succ 10 m
      rw [if_pos c, Option.bind_some, strOfNums_size, if_pos (by simp; omega), e1, wrap_id (x := x / 10) (by omega) (by omega)]
      refine ih (x / 10) _ (by omega) (by omega) (by omega) ?_
      rw [ByteArray.size_append, strOfNums_size]
      simp; omega
    · rw [if_neg c, if_pos (by omega)]
      exact ⟨_, rfl⟩
noncomputable def laws_markText.val (x : Int) : ByteArray := (laws_markText.f.v x).getD ByteArray.empty
theorem laws_markText.ok (x : Int) (h0 : 0 ≤ x) (h1 : x ≤ 100000) : laws_markText.f.v x = some (laws_markText.val x) := by
  have : ∃ t, laws_markText.f.v x = some t := by
    rw [laws_markText.f.v_eq]
    by_cases c : x ≤ 0
    · rw [if_pos c]; exact ⟨_, rfl⟩
    · rw [if_neg c]
      exact laws_markText.ex_l 6 x _ h0 (by omega) (by omega) (by show 0 + 6 ≤ 1000; omega)
  obtain ⟨t, ht⟩ := this
  unfold laws_markText.val
  rw [ht]; rfl
noncomputable def laws_markText.run : Int → Nat → List ByteArray
  | _, 0 => []
  | k, n + 1 => laws_markText.val k :: laws_markText.run (k + 1) n
theorem laws_markText.run_length : ∀ (n : Nat) (k : Int), (laws_markText.run k n).length = n
  | 0, _ => rfl
  | n + 1, k => by rw [laws_markText.run, List.length_cons, laws_markText.run_length n]
theorem laws_markText.run_rd : ∀ (n : Nat) (k : Int) (i : Nat), i < n → rdOf ByteArray.empty (laws_markText.run k n) (i : Int) = laws_markText.val (k + i)
  | 0, _, _, h => by omega
  | n + 1, k, 0, _ => by
    show laws_markText.val k = _
    rw [show k + ((0 : Nat) : Int) = k by omega]
  | n + 1, k, i + 1, h => by
    have := laws_markText.run_rd n (k + 1) i (by omega)
    show (laws_markText.run (k + 1) n).getD i _ = _
    rw [show k + ((i + 1 : Nat) : Int) = k + 1 + (i : Int) by omega, ← this]; rfl

theorem laws_heldStringS.ok_l (n : Nat) (k : Int) (hn : n ≤ 1000) (h0 : 0 ≤ k) (h1 : k ≤ 1000) : ∀ (d i : Nat), i + d = n → laws_heldStringS.l0.v (laws_markText.run k n) (k + i) i = some (k + n) := by
  intro d
  induction d with
  | zero =>
    intro i hi
    rw [laws_heldStringS.l0.v_eq, laws_markText.run_length, if_neg (by omega), show i = n by omega]
  | succ d ih =>
    intro i hi
    have h : i < n := by omega
    rw [laws_heldStringS.l0.v_eq, laws_markText.run_length, if_pos (by omega), if_pos (by omega), laws_markText.ok _ (by omega) (by omega), Option.bind_some, laws_markText.run_rd n k i h, if_pos rfl, succ_wrap h (by omega), wrap_id (x := k + (i : Int) + 1) (by omega) (by omega), show k + (i : Int) + 1 = k + ((i + 1 : Nat) : Int) by omega]
    exact ih (i + 1) (by omega)
theorem laws_heldStringS.ok (n : Nat) (hn : n ≤ 1000) : laws_heldStringS.f.v (laws_markText.run 1 n) 1 = some (1 + (n : Int)) := by
  rw [laws_heldStringS.f.v_eq]
  have := laws_heldStringS.ok_l n 1 hn (by omega) (by omega) n 0 (by omega)
  simpa using this

theorem laws_markIntS.ok_l : ∀ (d i : Nat) (xs : List Int) (k : Int), i + d = xs.length → xs.length ≤ 1099511627776 → 0 ≤ k → k ≤ 4398046511104 → laws_markIntS.l0.v xs (k + i) i = some (k + (xs.length : Int), xs.take i ++ fromOn (k + i) d) := by
  intro d
  induction d with
  | zero =>
    intro i xs k hd hn h0 h1
    rw [laws_markIntS.l0.v_eq, if_neg (cast_nlt (by omega)), List.take_of_length_le (by omega), show i = xs.length by omega]
    simp [fromOn]
  | succ d ih =>
    intro i xs k hd hn h0 h1
    have h : i < xs.length := by omega
    rw [laws_markIntS.l0.v_eq, if_pos (cast_lt h), if_pos (Int.natCast_nonneg i), succ_wrap h (by omega), toNat_cast, wrap_id (x := k + (i : Int) + 1) (by omega) (by omega), show k + (i : Int) + 1 = k + ((i + 1 : Nat) : Int) by omega, ih (i + 1) _ k (by rw [List.length_set]; omega) (by rw [List.length_set]; omega) h0 h1, List.length_set, fromOn, List.take_succ_eq_append_getElem (by rw [List.length_set]; omega), List.getElem_set_self, List.take_set_of_le (Nat.le_refl i), List.append_assoc, show k + (i : Int) + 1 = k + ((i + 1 : Nat) : Int) by omega]
    rfl
theorem laws_markIntS.ok (xs : List Int) (k : Int) (hn : xs.length ≤ 1099511627776) (h0 : 0 ≤ k) (h1 : k ≤ 4398046511104) : laws_markIntS.f.v xs k = some (k + (xs.length : Int), fromOn k xs.length) := by
  rw [laws_markIntS.f.v_eq]
  have := laws_markIntS.ok_l xs.length 0 xs k (by omega) hn h0 h1
  simpa using this

theorem laws_markStringS.ok_l : ∀ (d i : Nat) (xs : List ByteArray) (k : Int), i + d = xs.length → xs.length ≤ 1000 → 0 ≤ k → k ≤ 1000 → laws_markStringS.l0.v xs (k + i) i = some (k + (xs.length : Int), xs.take i ++ laws_markText.run (k + i) d) := by
  intro d
  induction d with
  | zero =>
    intro i xs k hd hn h0 h1
    rw [laws_markStringS.l0.v_eq, if_neg (cast_nlt (by omega)), List.take_of_length_le (by omega), show i = xs.length by omega]
    simp [laws_markText.run]
  | succ d ih =>
    intro i xs k hd hn h0 h1
    have h : i < xs.length := by omega
    rw [laws_markStringS.l0.v_eq, if_pos (cast_lt h), laws_markText.ok _ (by omega) (by omega), Option.bind_some, if_pos (Int.natCast_nonneg i), succ_wrap h (by omega), toNat_cast, wrap_id (x := k + (i : Int) + 1) (by omega) (by omega), show k + (i : Int) + 1 = k + ((i + 1 : Nat) : Int) by omega, ih (i + 1) _ k (by rw [List.length_set]; omega) (by rw [List.length_set]; omega) h0 h1, List.length_set, laws_markText.run, List.take_succ_eq_append_getElem (by rw [List.length_set]; omega), List.getElem_set_self, List.take_set_of_le (Nat.le_refl i), List.append_assoc, show k + (i : Int) + 1 = k + ((i + 1 : Nat) : Int) by omega]
    rfl
theorem laws_markStringS.ok (xs : List ByteArray) (hn : xs.length ≤ 1000) : laws_markStringS.f.v xs 1 = some (1 + (xs.length : Int), laws_markText.run 1 xs.length) := by
  rw [laws_markStringS.f.v_eq]
  have := laws_markStringS.ok_l xs.length 0 xs 1 (by omega) hn (by omega) (by omega)
  simpa using this

theorem laws_szLadder.ok (n : Int) (l : List Int) (h : l.length ≤ 1048576) : laws_szLadder.f n l 1048576 = some (1048576 - (l.length : Int)) := by
  unfold laws_szLadder.f laws_szIntS.f
  rw [wrap_id (by omega) (by omega), if_neg (by omega), Option.bind_some, if_neg (by omega)]
theorem laws_szLadder.no (n : Int) (l : List Int) (h : ¬ l.length ≤ 1048576) (h2 : l.length * 8 ≤ 140737488351232) : laws_szLadder.f n l 1048576 = some (-1) := by
  unfold laws_szLadder.f laws_szIntS.f
  rw [wrap_id (by omega) (by omega), if_pos (by omega), Option.bind_some, if_pos (by omega)]
theorem laws_szLadder.ok' (n : Int) (l : List Int) (t : Int) (ht : 0 ≤ t ∧ t ≤ 1048576) (h : (l.length : Int) ≤ t) : laws_szLadder.f n l t = some (t - (l.length : Int)) := by
  unfold laws_szLadder.f laws_szIntS.f
  rw [wrap_id (by omega) (by omega), if_neg (by omega), Option.bind_some, if_neg (by omega)]
theorem laws_szLadder.no' (n : Int) (l : List Int) (t : Int) (ht : 0 ≤ t ∧ t ≤ 1048576) (h : ¬ (l.length : Int) ≤ t) (h2 : l.length * 8 ≤ 140737488351232) : laws_szLadder.f n l t = some (-1) := by
  unfold laws_szLadder.f laws_szIntS.f
  rw [wrap_id (by omega) (by omega), if_pos (by omega), Option.bind_some, if_pos (by omega)]

theorem laws_toIntS.ok_l (xs : List Int) (hn : xs.length ≤ 140737488355328) : ∀ (d i : Nat) (ys : List Int), xs.length - i = d → ys.length = xs.length → ys.take i = xs.take i → laws_toIntS.l0.v xs ys i = some xs := by
  intro d
  induction d with
  | zero =>
    intro i ys hd hl ht
    rw [laws_toIntS.l0.v_eq, if_neg (cast_nlt (by omega))]
    rw [List.take_of_length_le (by omega), List.take_of_length_le (by omega)] at ht
    rw [ht]
  | succ d ih =>
    intro i ys hd hl ht
    have h : i < xs.length := by omega
    rw [laws_toIntS.l0.v_eq, if_pos (cast_lt h), if_pos (Int.natCast_nonneg i), if_pos (cast_lt (by omega)), succ_wrap h hn, toNat_cast]
    refine ih (i + 1) _ (by omega) (by rw [List.length_set]; exact hl) ?_
    rw [take_rd xs i h, ← ht, rd_lt xs i h, List.take_succ_eq_append_getElem (by rw [List.length_set]; omega), List.getElem_set_self, List.take_set_of_le (Nat.le_refl i)]
theorem laws_toIntS.ok (xs : List Int) (hn : xs.length ≤ 1048576) : laws_toIntS.f.v xs = some xs := by
  rw [laws_toIntS.f.v_eq, if_pos (Int.natCast_nonneg _), toNat_cast, if_pos (by omega)]
  exact laws_toIntS.ok_l xs (by omega) xs.length 0 _ (by omega) (by simp) (by simp)

theorem laws_toLadder.ok (n : Int) (l : List Int) (h : l.length ≤ 1048576) : laws_toLadder.f.v n l = some (n, l) := by
  rw [laws_toLadder.f.v_eq, laws_toIntS.ok l h]; rfl

theorem spec_l1All.ok_l (a b : Int) (xs : List Int) (hn : xs.length ≤ 140737488355328) : ∀ (d i : Nat), i + d = xs.length → spec_l1All.l0.v a b xs xs.length i = some ((xs.drop i).all fun x => decide (a ≤ x) && decide (x ≤ b)) := by
  intro d
  induction d with
  | zero =>
    intro i hd
    rw [spec_l1All.l0.v_eq, if_neg (cast_nlt (by omega)), List.drop_eq_nil_of_le (by omega)]
    rfl
  | succ d ih =>
    intro i hd
    have h : i < xs.length := by omega
    rw [spec_l1All.l0.v_eq, if_pos (cast_lt h), if_pos (Int.natCast_nonneg i), if_pos (cast_lt h), succ_wrap h hn, ih (i + 1) (by omega), drop_rd xs i h, List.all_cons]
    unfold spec_l1In.f
    by_cases e : a ≤ rd xs (i : Int)
    · rw [if_pos (show rd xs (i : Int) ≥ a from e), Option.bind_some, decide_eq_true e, Bool.true_and]
      by_cases e2 : rd xs (i : Int) ≤ b
      · rw [decide_eq_true e2, if_pos rfl, Bool.true_and]
      · rw [decide_eq_false e2, if_neg (by simp), Bool.false_and]
    · rw [if_neg (show ¬ rd xs (i : Int) ≥ a from e), Option.bind_some, decide_eq_false e, if_neg (by simp), Bool.false_and, Bool.false_and]
theorem spec_l1All.ok (xs : List Int) (a b : Int) (hn : xs.length ≤ 140737488355328) : spec_l1All.f.v xs a b = some (xs.all fun x => decide (a ≤ x) && decide (x ≤ b)) := by
  rw [spec_l1All.f.v_eq]
  have := spec_l1All.ok_l a b xs hn xs.length 0 (by omega)
  simpa using this

theorem spec_laGood.ok (n : Int) (l : List Int) : spec_laGood.f.v n l = some (good n l) := by
  rw [spec_laGood.f.v_eq]
  unfold spec_l1In.f good
  by_cases h1 : 2 ≤ n
  · rw [if_pos (show n ≥ 2 from h1), Option.bind_some, decide_eq_true h1, Bool.true_and]
    by_cases h2 : n ≤ 8
    · rw [decide_eq_true h2, if_pos rfl, Bool.true_and]
      by_cases h3 : l.length ≤ 60
      · rw [if_pos (by omega), decide_eq_true h3, Bool.true_and, spec_l1All.ok l 0 _ (by omega), wrap_id (x := n - 2) (by omega) (by omega)]; rfl
      · rw [if_neg (by omega), decide_eq_false h3, Bool.false_and]
    · rw [decide_eq_false h2, if_neg (by simp), Bool.false_and, Bool.false_and]
  · rw [if_neg (show ¬ n ≥ 2 from h1), Option.bind_some, decide_eq_false h1, if_neg (by simp), Bool.false_and, Bool.false_and, Bool.false_and]

theorem spec_l1Num.one (x : Int) (h0 : 0 ≤ x) (h1 : x < 10) : spec_l1Num.f.v x = some ⟨(digB x).toArray⟩ := by
  rw [spec_l1Num.f.v_eq, if_pos h1, digB_num x h0 h1]
theorem spec_l1Num.two (i : Nat) (h : i < 100) : spec_l1Num.f.v (i : Int) = some (digT i) := by
  unfold digT
  by_cases h1 : i < 10
  · rw [spec_l1Num.one _ (by omega) (by omega), Lib.decDigits_one h1]; rfl
  · have e1 : Int.tdiv (i : Int) 10 = ((i / 10 : Nat) : Int) := by rw [Int.tdiv_eq_ediv_of_nonneg (by omega)]; rfl
    have e2 : Int.tmod (i : Int) 10 = ((i % 10 : Nat) : Int) := by rw [Int.tmod_eq_emod_of_nonneg (by omega)]; rfl
    rw [spec_l1Num.f.v_eq, if_neg (by omega), e1, e2, wrap_id (x := ((i / 10 : Nat) : Int)) (by omega) (by omega), spec_l1Num.one _ (by omega) (by omega), Option.bind_some, Option.bind_some, digB_num _ (by omega) (by omega)]
    rw [if_pos (by show 1 + 1 ≤ _; omega), Lib.decDigits_two h1 h]
    congr 1

theorem spec_l1Own.ok (l : List Int) (h : l.length ≤ 1048576) : spec_l1Own.f l = some l := by
  unfold spec_l1Own.f
  rw [Option.bind_some, if_pos (by simp; omega)]; rfl

theorem spec_lsDrop.ok (l : List Int) (a : Int) (hl : l.length ≤ 1000) : spec_lsDrop.f l a = some (dropM l a) := by
  unfold spec_lsDrop.f spec_l1In.f dropM
  rw [wrap_id (x := (l.length : Int) - 2) (by omega) (by omega)]
  by_cases h0 : 0 ≤ a
  · rw [if_pos h0, Option.bind_some]
    by_cases h1 : a + 1 < l.length
    · rw [decide_eq_true (show a ≤ (l.length : Int) - 2 by omega), if_pos rfl, if_pos h0, if_pos (by omega), wrap_id (x := a + 1) (by omega) (by omega), if_pos (by omega), if_pos h1]
      by_cases c : rd l a = rd l (a + 1)
      · rw [if_pos c, if_pos (by omega), spec_l1Own.ok _ (by rw [List.length_take]; omega), Option.bind_some, wrap_id (x := a + 2) (by omega) (by omega), if_pos (by omega), if_pos (by omega), Option.bind_some, if_pos (by rw [List.length_take, List.length_drop]; omega), if_pos (show dropC l a = true from decide_eq_true ⟨h0, h1, c⟩), dropL, show (a + 2).toNat = a.toNat + 2 by omega]
      · rw [if_neg c, if_neg (show ¬ dropC l a = true from fun x => c (of_decide_eq_true x).2.2)]
    · rw [decide_eq_false (by omega), if_neg (by simp), if_neg (show ¬ dropC l a = true from fun x => h1 (of_decide_eq_true x).2.1)]
  · rw [if_neg h0, Option.bind_some, if_neg (by simp), if_neg (show ¬ dropC l a = true from fun x => h0 (of_decide_eq_true x).1)]

theorem spec_l1Abs.ok (x : Int) (h0 : -1000000 ≤ x) (h1 : x ≤ 1000000) : spec_l1Abs.f x = some (if 0 ≤ x then x else -x) := by
  unfold spec_l1Abs.f spec_l1Most.f
  rw [wrap_id (x := -x) (by omega) (by omega)]
  by_cases h : x > -x
  · rw [if_pos h, Option.bind_some, if_pos (by omega)]
  · rw [if_neg h, Option.bind_some]
    by_cases h2 : 0 ≤ x
    · rw [if_pos h2]; congr 1; omega
    · rw [if_neg h2]

theorem spec_lsFlip.ok (l : List Int) (a : Int) (hs : ∀ x ∈ l, 0 ≤ x ∧ x ≤ 1000) (hl : l.length ≤ 1000) : spec_lsFlip.f l a = some (flipM l a) := by
  unfold spec_lsFlip.f spec_l1In.f flipM
  rw [wrap_id (x := (l.length : Int) - 3) (by omega) (by omega)]
  by_cases h0 : 0 ≤ a
  · rw [if_pos h0, Option.bind_some]
    by_cases h1 : a + 2 < l.length
    · have b1 := small_rd hs a h0 (by omega)
      have b2 := small_rd hs (a + 1) (by omega) (by omega)
      rw [decide_eq_true (show a ≤ (l.length : Int) - 3 by omega), if_pos rfl, if_pos h0, if_pos (by omega), wrap_id (x := a + 2) (by omega) (by omega), if_pos (by omega), if_pos h1, wrap_id (x := a + 1) (by omega) (by omega)]
      by_cases c0 : rd l a = rd l (a + 2)
      · rw [if_pos c0, if_pos (by omega), if_pos (by omega), wrap_id (x := rd l a - rd l (a + 1)) (by omega) (by omega), spec_l1Abs.ok _ (by omega) (by omega), Option.bind_some]
        by_cases c : rd l a - rd l (a + 1) = 1 ∨ rd l (a + 1) - rd l a = 1
        · rw [if_pos (by split <;> omega), spec_l1Own.ok l (by omega), Option.bind_some, if_pos (by omega), if_pos (by omega), if_pos h1, if_pos (show flipC l a = true from decide_eq_true ⟨h0, h1, c0, c⟩)]
          unfold flipL
          rw [show (a + 1).toNat = a.toNat + 1 by omega, show (a + 2).toNat = a.toNat + 2 by omega]
        · rw [if_neg (by split <;> omega), if_neg (show ¬ flipC l a = true from fun x => c (of_decide_eq_true x).2.2.2)]
      · rw [if_neg c0, if_neg (show ¬ flipC l a = true from fun x => c0 (of_decide_eq_true x).2.2.1)]
    · rw [decide_eq_false (by omega), if_neg (by simp), if_neg (show ¬ flipC l a = true from fun x => h1 (of_decide_eq_true x).2.1)]
  · rw [if_neg h0, Option.bind_some, if_neg (by simp), if_neg (show ¬ flipC l a = true from fun x => h0 (of_decide_eq_true x).1)]

theorem spec_lsSlide.ok (l : List Int) (a : Int) (hs : ∀ x ∈ l, 0 ≤ x ∧ x ≤ 1000) (hl : l.length ≤ 1000) : spec_lsSlide.f l a = some (slideM l a) := by
  unfold spec_lsSlide.f spec_l1In.f slideM
  rw [wrap_id (x := (l.length : Int) - 2) (by omega) (by omega)]
  by_cases h0 : 0 ≤ a
  · rw [if_pos h0, Option.bind_some]
    by_cases h1 : a + 1 < l.length
    · have b1 := small_rd hs a h0 (by omega)
      have b2 := small_rd hs (a + 1) (by omega) h1
      rw [decide_eq_true (show a ≤ (l.length : Int) - 2 by omega), if_pos rfl, if_pos h0, if_pos (by omega), wrap_id (x := a + 1) (by omega) (by omega), if_pos (by omega), if_pos h1, wrap_id (x := rd l a - rd l (a + 1)) (by omega) (by omega), spec_l1Abs.ok _ (by omega) (by omega), Option.bind_some]
      by_cases c : rd l a - rd l (a + 1) ≥ 2 ∨ rd l (a + 1) - rd l a ≥ 2
      · rw [if_neg (by split <;> omega), spec_l1Own.ok l (by omega), Option.bind_some, if_pos (by omega), if_pos h1, if_pos (show slideC l a = true from decide_eq_true ⟨h0, h1, c⟩)]
        unfold slideL swp
        rw [show (a + 1).toNat = a.toNat + 1 by omega, Int.toNat_of_nonneg h0, show ((a.toNat + 1 : Nat) : Int) = a + 1 by omega]
      · rw [if_pos (by split <;> omega), if_neg (show ¬ slideC l a = true from fun x => c (of_decide_eq_true x).2.2)]
    · rw [decide_eq_false (by omega), if_neg (by simp), if_neg (show ¬ slideC l a = true from fun x => h1 (of_decide_eq_true x).2.1)]
  · rw [if_neg h0, Option.bind_some, if_neg (by simp), if_neg (show ¬ slideC l a = true from fun x => h0 (of_decide_eq_true x).1)]

theorem spec_lsMoves.can (n : Int) (l : List Int) (hg : good n l = true) (a : Int) : (∃ p q, spec_lsMake.f.v n l 115 a = some (p, q, slideC l a)) ∧ (∃ p q, spec_lsMake.f.v n l 102 a = some (p, q, flipC l a)) ∧ (∃ p q, spec_lsMake.f.v n l 100 a = some (p, q, dropC l a)) := by
  have h := good_iff.1 hg
  have hs := good_small hg
  refine ⟨?_, ?_, ?_⟩
  · rw [spec_lsMake.f.v_eq, spec_laGood.ok, Option.bind_some, if_pos hg, if_pos rfl, spec_lsSlide.ok l a hs (by omega), Option.bind_some]
    unfold slideM
    by_cases c : slideC l a = true
    · rw [if_pos c, if_pos rfl, c]; exact ⟨_, _, rfl⟩
    · rw [if_neg c, if_neg (by simp), Bool.eq_false_iff.2 c]; exact ⟨_, _, rfl⟩
  · rw [spec_lsMake.f.v_eq, spec_laGood.ok, Option.bind_some, if_pos hg, if_neg (by decide), if_pos rfl, spec_lsFlip.ok l a hs (by omega), Option.bind_some]
    unfold flipM
    by_cases c : flipC l a = true
    · rw [if_pos c, if_pos rfl, c]; exact ⟨_, _, rfl⟩
    · rw [if_neg c, if_neg (by simp), Bool.eq_false_iff.2 c]; exact ⟨_, _, rfl⟩
  · rw [spec_lsMake.f.v_eq, spec_laGood.ok, Option.bind_some, if_pos hg, if_neg (by decide), if_neg (by decide), if_pos rfl, spec_lsDrop.ok l a (by omega), Option.bind_some]
    unfold dropM
    by_cases c : dropC l a = true
    · rw [if_pos c, if_pos rfl, c]; exact ⟨_, _, rfl⟩
    · rw [if_neg c, if_neg (by simp), Bool.eq_false_iff.2 c]; exact ⟨_, _, rfl⟩
theorem spec_lsMoves.ok_l (n : Int) (l : List Int) (hl : l.length ≤ 60) (kd : Int) (s : ByteArray) (c : Int → Bool) (hk : ∀ a, ∃ p q, spec_lsMake.f.v n l kd a = some (p, q, c a)) (hs : strOfNums [kd] = s) (hs1 : s.size ≤ 10) (x9 : List Int) (x10 x11 : Int) : ∀ (d i : Nat) (acc : List ByteArray), i + d = l.length → acc.length + d ≤ 900 → spec_lsMoves.l1.v acc kd x9 x10 x11 (l.length : Int) (i : Int) n l = spec_lsMoves.l0.v (acc ++ mvL s c d i) x9 x10 (wrap64 (x11 + 1)) n l := by
  intro d
  induction d with
  | zero => intro i acc hi ha; rw [spec_lsMoves.l1.v_eq, if_neg (by omega), mvL, List.append_nil]
  | succ d ih =>
    intro i acc hi ha
    have h : i < l.length := by omega
    obtain ⟨p, q, hf⟩ := hk (i : Int)
    rw [spec_lsMoves.l1.v_eq, if_pos (by omega), hf, Option.bind_some, mvL]
    by_cases e : c (i : Int) = true
    · have h2 := digT_size i (by omega)
      rw [if_pos e, if_pos e, Option.bind_some, spec_l1Num.two i (by omega), Option.bind_some, hs, if_pos (by omega), if_pos (by omega), succ_wrap h (by omega), ih (i + 1) _ (by omega) (by simp; omega)]
      simp
    · rw [if_neg e, if_neg e, succ_wrap h (by omega), ih (i + 1) acc (by omega) (by omega)]
theorem spec_lsMoves.ok (n : Int) (l : List Int) (hg : good n l = true) : spec_lsMoves.f.v n l = some (allMoves l) := by
  have h := good_iff.1 hg
  have h1 := mvL_length ⟨#[115]⟩ (slideC l) l.length 0
  have h2 := mvL_length ⟨#[102]⟩ (flipC l) l.length 0
  have w1 : wrap64 (0 + 1) = 1 := by unfold wrap64; omega
  have w2 : wrap64 (1 + 1) = 2 := by unfold wrap64; omega
  have w3 : wrap64 (2 + 1) = 3 := by unfold wrap64; omega
  have r0 : rd [115, 102, 100] 0 = 115 := rfl
  have r1 : rd [115, 102, 100] 1 = 102 := rfl
  have r2 : rd [115, 102, 100] 2 = 100 := rfl
  rw [spec_lsMoves.f.v_eq, Option.bind_some, show (([115, 102, 100] : List Int).length : Int) = 3 from rfl]
  rw [spec_lsMoves.l0.v_eq, if_pos (by omega), if_pos (by omega), if_pos (by show (0 : Int) < 3; omega), r0]
  have e1 := spec_lsMoves.ok_l n l h.2.2.1 115 ⟨#[115]⟩ (slideC l) (fun a => (spec_lsMoves.can n l hg a).1) rfl (by decide) [115, 102, 100] 3 0 l.length 0 [] (by omega) (by simp; omega)
  rw [show ((0 : Nat) : Int) = 0 from rfl, w1, List.nil_append] at e1
  rw [e1, spec_lsMoves.l0.v_eq, if_pos (by omega), if_pos (by omega), if_pos (by show (1 : Int) < 3; omega), r1]
  have e2 := spec_lsMoves.ok_l n l h.2.2.1 102 ⟨#[102]⟩ (flipC l) (fun a => (spec_lsMoves.can n l hg a).2.1) rfl (by decide) [115, 102, 100] 3 1 l.length 0 (mvL ⟨#[115]⟩ (slideC l) l.length 0) (by omega) (by omega)
  rw [show ((0 : Nat) : Int) = 0 from rfl, w2] at e2
  rw [e2, spec_lsMoves.l0.v_eq, if_pos (by omega), if_pos (by omega), if_pos (by show (2 : Int) < 3; omega), r2]
  have e3 := spec_lsMoves.ok_l n l h.2.2.1 100 ⟨#[100]⟩ (dropC l) (fun a => (spec_lsMoves.can n l hg a).2.2) rfl (by decide) [115, 102, 100] 3 2 l.length 0 (mvL ⟨#[115]⟩ (slideC l) l.length 0 ++ mvL ⟨#[102]⟩ (flipC l) l.length 0) (by omega) (by rw [List.length_append]; omega)
  rw [show ((0 : Nat) : Int) = 0 from rfl, w3] at e3
  rw [e3, spec_lsMoves.l0.v_eq, if_neg (by omega)]
  rfl

theorem FnExactMovesOn : laws_FnExactMovesOn.Pure := by
  intro n l _ _ hb _
  refine laws_FnExactMovesOn.f.ends n l ?_
  rw [laws_FnExactMovesOn.f.v_eq]
  by_cases h : l.length ≤ 1048576
  · obtain ⟨r, b, hs, hi, hr⟩ : ∃ r b, spec_MovesOn.f.v n l = some (r, b) ∧ impl_MovesOn.f n l = some (r, b) ∧ r.length ≤ 1000 := by
      rw [spec_MovesOn.f.v_eq, impl_MovesOn.ok, spec_laGood.ok, Option.bind_some]
      by_cases hg : good n l = true
      · have h2 := allMoves_length l
        have h3 := good_iff.1 hg
        rw [if_pos hg, if_pos hg, spec_lsMoves.ok n l hg]
        exact ⟨_, _, rfl, rfl, by omega⟩
      · rw [if_neg hg, if_neg hg]
        exact ⟨_, _, rfl, rfl, by simp⟩
    have e0 := laws_toLadder.ok n l h
    have e1 := laws_eqLadder.ok n l (by omega)
    have e2 := laws_eqStringS.ok r hr
    have e3 := laws_markIntS.ok l 1 (by omega) (by omega) (by omega)
    have e4 := laws_markStringS.ok r hr
    have e5 := laws_heldStringS.ok r.length hr
    have n0 : ¬ ((1048576 : Int) - (l.length : Int) < 0) := by omega
    have n1 : ¬ ((1 : Int) + (l.length : Int) < 0) := by omega
    have n2 : ¬ ((1 : Int) + (r.length : Int) < 0) := by omega
    simp only [laws_szLadder.ok n l h, e0, e1, e2, e3, e4, e5, hs, hi, if_neg n0, if_neg n1, if_neg n2, laws_markLadder.f.v_eq, laws_FnExactMovesOn.j0.v_eq, laws_FnExactMovesOn.j1.v_eq, laws_FnExactMovesOn.j2.v_eq, Option.bind_some, bne_self_eq_false, Bool.false_eq_true, if_false, if_true]
  · rw [laws_szLadder.no n l h hb, Option.bind_some, if_pos (by omega)]

end Go.Proofs.YtldcjlpbodpmbaaDoor.Pure
