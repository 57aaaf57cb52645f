/- Plain laws of this session on all words that slides make of one: each rung that can be taken first, in order; they are those that are reached by slides, and they are listed in order. No program in sight. -/
import Derived.Test.YtnddmmjofpfmfaaSlides
namespace Go.Proofs.YtnddmmjofpfmfaaL
open Go.RowKit Go.Proofs.YtnddmmjofpfmfaaW.PrintWords
set_option linter.unusedVariables false
set_option linter.unusedSimpArgs false

theorem farI_comm (a b : Int) : farI a b = farI b a := by unfold farI; exact Bool.or_comm _ _
theorem farI_ne {a b : Int} (h : farI a b = true) : a ≠ b := by unfold farI at h; simp at h; omega
/-- Can a rung be brought to the top? -/
def frB : List Int → Int → Bool
  | [], _ => false
  | x :: l, r => if x = r then true else farI r x && frB l r
theorem frB_mem : ∀ {l : List Int} {r : Int}, frB l r = true → r ∈ l
  | [], _, h => by cases h
  | x :: l, r, h => by
    unfold frB at h
    by_cases e : x = r
    · subst e; exact List.mem_cons_self
    · rw [if_neg e, Bool.and_eq_true] at h
      exact List.mem_cons_of_mem _ (frB_mem h.2)
theorem frB_split (r : Int) : ∀ (p q : List Int), p.all (farI r) = true → frB (p ++ r :: q) r = true ∧ (p ++ r :: q).erase r = p ++ q
  | [], q, _ => ⟨by rw [List.nil_append, frB, if_pos rfl], by simp⟩
  | x :: p, q, h => by
    rw [List.all_cons, Bool.and_eq_true] at h
    have ih := frB_split r p q h.2
    have hx : x ≠ r := fun e => farI_ne h.1 e.symm
    refine ⟨by rw [List.cons_append, frB, if_neg hx, h.1, ih.1]; rfl, ?_⟩
    rw [List.cons_append, List.erase_cons_tail (by simpa using hx), ih.2]; rfl
theorem frB_iff : ∀ (l : List Int) (r : Int), frB l r = true ↔ ∃ p q, l = p ++ r :: q ∧ p.all (farI r) = true
  | [], r => ⟨fun h => (by cases h), by rintro ⟨p, q, h, _⟩; cases p <;> cases h⟩
  | x :: l, r => by
    constructor
    · intro h
      unfold frB at h
      by_cases e : x = r
      · subst e; exact ⟨[], l, rfl, rfl⟩
      · rw [if_neg e, Bool.and_eq_true] at h
        obtain ⟨p, q, rfl, hp⟩ := (frB_iff l r).1 h.2
        exact ⟨x :: p, q, rfl, by rw [List.all_cons, h.1, hp]; rfl⟩
    · rintro ⟨p, q, h, hp⟩
      rw [h]; exact (frB_split r p q hp).1
theorem cut_rd (l : List Int) (i : Nat) (hi : i < l.length) : l = l.take i ++ rd l (i : Int) :: l.drop (i + 1) := by
  rw [← drop_rd l i hi, List.take_append_drop]
theorem freeL_fr (l : List Int) (i : Nat) (hi : i < l.length) (h : freeL l i = true) : frB l (rd l (i : Int)) = true ∧ woL l (i : Int) = l.erase (rd l (i : Int)) := by
  have e := cut_rd l i hi
  have hs := frB_split (rd l (i : Int)) (l.take i) (l.drop (i + 1)) h
  rw [← e] at hs
  refine ⟨hs.1, ?_⟩
  rw [hs.2]; unfold woL; rw [Int.toNat_natCast]
theorem fr_freeL (l : List Int) (r : Int) (h : frB l r = true) : ∃ i : Nat, i < l.length ∧ rd l (i : Int) = r ∧ freeL l i = true := by
  obtain ⟨p, q, rfl, hp⟩ := (frB_iff l r).1 h
  have hl : p.length < (p ++ r :: q).length := by simp
  have hr : rd (p ++ r :: q) (p.length : Int) = r := by rw [rd_lt _ _ hl]; simp
  refine ⟨p.length, hl, hr, ?_⟩
  unfold freeL
  rw [hr, List.take_left]; exact hp
/-- One slide. -/
def Sl (x y : List Int) : Prop := ∃ u a b v, x = u ++ a :: b :: v ∧ y = u ++ b :: a :: v ∧ farI a b = true
/-- Slides behind each other. -/
inductive Rch (l : List Int) : List Int → Prop
  | refl : Rch l l
  | step {x y : List Int} : Rch l x → Sl x y → Rch l y
theorem Sl.cons {x y : List Int} (c : Int) (h : Sl x y) : Sl (c :: x) (c :: y) := by
  obtain ⟨u, a, b, v, rfl, rfl, h⟩ := h
  exact ⟨c :: u, a, b, v, rfl, rfl, h⟩
theorem Sl.symm {x y : List Int} (h : Sl x y) : Sl y x := by
  obtain ⟨u, a, b, v, rfl, rfl, h⟩ := h
  exact ⟨u, b, a, v, rfl, rfl, by rw [farI_comm]; exact h⟩
theorem Sl.length {x y : List Int} (h : Sl x y) : y.length = x.length := by
  obtain ⟨u, a, b, v, rfl, rfl, h⟩ := h
  simp
theorem Sl.mem {x y : List Int} (h : Sl x y) (z : Int) (hz : z ∈ y) : z ∈ x := by
  obtain ⟨u, a, b, v, rfl, rfl, h⟩ := h
  simp only [List.mem_append, List.mem_cons] at hz ⊢
  rcases hz with h | h | h | h <;> simp [h]
theorem Rch.cons {l x : List Int} (c : Int) (h : Rch l x) : Rch (c :: l) (c :: x) := by
  induction h with
  | refl => exact .refl
  | step _ hs ih => exact .step ih (hs.cons c)
theorem Rch.trans {l x y : List Int} (h : Rch l x) (h2 : Rch x y) : Rch l y := by
  induction h2 with
  | refl => exact h
  | step _ hs ih => exact .step ih hs
theorem Rch.symm {l x : List Int} (h : Rch l x) : Rch x l := by
  induction h with
  | refl => exact .refl
  | step _ hs ih => exact (Rch.step .refl hs.symm).trans ih
theorem Rch.length {l x : List Int} (h : Rch l x) : x.length = l.length := by
  induction h with
  | refl => rfl
  | step _ hs ih => rw [hs.length, ih]
theorem Rch.mem {l x : List Int} (h : Rch l x) (z : Int) (hz : z ∈ x) : z ∈ l := by
  induction h with
  | refl => exact hz
  | step _ hs ih => exact ih (hs.mem z hz)
theorem fr_reach : ∀ (l : List Int) (r : Int), frB l r = true → Rch l (r :: l.erase r)
  | [], _, h => by cases h
  | x :: l, r, h => by
    unfold frB at h
    by_cases e : x = r
    · subst e; rw [List.erase_cons_head]; exact .refl
    · rw [if_neg e, Bool.and_eq_true] at h
      rw [List.erase_cons_tail (by simpa using e)]
      exact .step ((fr_reach l r h.2).cons x) ⟨[], x, r, l.erase r, rfl, rfl, by rw [farI_comm]; exact h.1⟩
def sevn : List Int := [0, 1, 2, 3, 4, 5, 6]
theorem sevn_mem (x : Int) : x ∈ sevn ↔ 0 ≤ x ∧ x ≤ 6 := by unfold sevn; simp; omega
theorem sevn_lt : sevn.Pairwise (· < ·) := by unfold sevn; decide
/-- All words that slides make, in order. -/
def exts : Nat → List Int → List (List Int)
  | 0, _ => [[]]
  | d + 1, l => (sevn.filter (frB l)).flatMap fun r => (exts d (l.erase r)).map (r :: ·)
theorem mem_exts (d : Nat) (l x : List Int) : x ∈ exts (d + 1) l ↔ ∃ r y, x = r :: y ∧ (0 ≤ r ∧ r ≤ 6) ∧ frB l r = true ∧ y ∈ exts d (l.erase r) := by
  rw [exts, List.mem_flatMap]
  constructor
  · rintro ⟨r, hr, hx⟩
    rw [List.mem_filter] at hr
    obtain ⟨y, hy, rfl⟩ := List.mem_map.1 hx
    exact ⟨r, y, rfl, (sevn_mem r).1 hr.1, hr.2, hy⟩
  · rintro ⟨r, y, rfl, hr, hf, hy⟩
    exact ⟨r, List.mem_filter.2 ⟨(sevn_mem r).2 hr, hf⟩, List.mem_map.2 ⟨y, hy, rfl⟩⟩
theorem erase_len {l : List Int} {r : Int} {d : Nat} (h : l.length = d + 1) (hf : frB l r = true) : (l.erase r).length = d := by
  rw [List.length_erase_of_mem (frB_mem hf)]; omega
theorem exts_reach : ∀ (d : Nat) (l x : List Int), l.length = d → x ∈ exts d l → Rch l x
  | 0, l, x, h, hx => by
    obtain rfl : l = [] := List.eq_nil_of_length_eq_zero h
    obtain rfl : x = [] := by simpa [exts] using hx
    exact .refl
  | d + 1, l, x, h, hx => by
    obtain ⟨r, y, rfl, hr, hf, hy⟩ := (mem_exts d l x).1 hx
    exact (fr_reach l r hf).trans ((exts_reach d (l.erase r) y (erase_len h hf) hy).cons r)
theorem exts_self : ∀ (l : List Int), (∀ x ∈ l, 0 ≤ x ∧ x ≤ 6) → l ∈ exts l.length l
  | [], _ => by simp [exts]
  | a :: l, h => (mem_exts _ _ _).2 ⟨a, l, rfl, h a (by simp), by rw [frB, if_pos rfl], by rw [List.erase_cons_head]; exact exts_self l (fun x hx => h x (by simp [hx]))⟩
theorem fr_back {a b : Int} (hab : farI a b = true) : ∀ (l : List Int), frB l a = true → frB (l.erase a) b = true → frB l b = true
  | [], h, _ => by cases h
  | x :: l, h, h2 => by
    by_cases e : x = a
    · subst e
      rw [List.erase_cons_head] at h2
      rw [frB, if_neg (farI_ne hab), h2, farI_comm, hab]; rfl
    · rw [List.erase_cons_tail (by simpa using e)] at h2
      unfold frB at h h2 ⊢
      rw [if_neg e, Bool.and_eq_true] at h
      by_cases e2 : x = b
      · rw [if_pos e2]
      · rw [if_neg e2, Bool.and_eq_true] at h2
        rw [if_neg e2, h2.1, fr_back hab l h.2 h2.2]; rfl
theorem fr_on {a b : Int} (hab : farI a b = true) : ∀ (l : List Int), frB l a = true → frB l b = true → frB (l.erase b) a = true
  | [], h, _ => by cases h
  | x :: l, h, h2 => by
    have hne := farI_ne hab
    by_cases e : x = b
    · subst e
      rw [List.erase_cons_head]
      unfold frB at h
      rw [if_neg (Ne.symm hne), Bool.and_eq_true] at h
      exact h.2
    · rw [List.erase_cons_tail (by simpa using e)]
      unfold frB at h h2 ⊢
      rw [if_neg e, Bool.and_eq_true] at h2
      by_cases e2 : x = a
      · rw [if_pos e2]
      · rw [if_neg e2, Bool.and_eq_true] at h
        rw [if_neg e2, h.1, fr_on hab l h.2 h2.2]; rfl
theorem exts_closed : ∀ (d : Nat) (l x y : List Int), x ∈ exts d l → Sl x y → y ∈ exts d l
  | 0, l, x, y, hx, hs => by
    obtain rfl : x = [] := by simpa [exts] using hx
    obtain ⟨u, a, b, v, h, _, _⟩ := hs
    cases u <;> cases h
  | d + 1, l, x, y, hx, hs => by
    obtain ⟨r, z, rfl, hr, hf, hz⟩ := (mem_exts d l x).1 hx
    obtain ⟨u, a, b, v, h, rfl, hab⟩ := hs
    cases u with
    | cons c u =>
      obtain ⟨rfl, rfl⟩ := List.cons.inj h
      exact (mem_exts d l _).2 ⟨r, u ++ b :: a :: v, rfl, hr, hf, exts_closed d _ _ _ hz ⟨u, a, b, v, rfl, rfl, hab⟩⟩
    | nil =>
      obtain ⟨rfl, rfl⟩ := List.cons.inj h
      cases d with
      | zero => simp [exts] at hz
      | succ d =>
        obtain ⟨b', v', e, hb, hf2, hv⟩ := (mem_exts d _ _).1 hz
        obtain ⟨rfl, rfl⟩ := List.cons.inj e
        have hb2 := fr_back hab l hf hf2
        refine (mem_exts (d + 1) l _).2 ⟨b, r :: v, rfl, hb, hb2, (mem_exts d _ _).2 ⟨r, v, rfl, hr, fr_on hab l hf hb2, ?_⟩⟩
        rw [List.erase_comm]; exact hv
theorem exts_iff (l x : List Int) (hl : ∀ z ∈ l, 0 ≤ z ∧ z ≤ 6) : x ∈ exts l.length l ↔ Rch l x := by
  refine ⟨exts_reach _ l x rfl, fun h => ?_⟩
  induction h with
  | refl => exact exts_self l hl
  | step _ hs ih => exact exts_closed _ l _ _ ih hs
theorem exts_len : ∀ (d : Nat) (l x : List Int), x ∈ exts d l → x.length = d
  | 0, l, x, hx => by
    obtain rfl : x = [] := by simpa [exts] using hx
    rfl
  | d + 1, l, x, hx => by
    obtain ⟨r, z, rfl, hr, hf, hz⟩ := (mem_exts d l x).1 hx
    rw [List.length_cons, exts_len d _ _ hz]
theorem lexL_irr : ∀ a : List Int, lexL a a = false
  | [] => rfl
  | x :: a => by rw [lexL, if_pos rfl]; exact lexL_irr a
theorem lexL_trans : ∀ (a b c : List Int), lexL a b = true → lexL b c = true → lexL a c = true
  | [], [], _, h, _ => by cases h
  | [], _ :: _, [], _, h => by cases h
  | [], _ :: _, _ :: _, _, _ => rfl
  | _ :: _, [], _, h, _ => by cases h
  | _ :: _, _ :: _, [], _, h => by cases h
  | x :: a, y :: b, z :: c, h, h2 => by
    rw [lexL] at h h2 ⊢
    by_cases e : x = y
    · subst e
      rw [if_pos rfl] at h
      by_cases e2 : x = z
      · rw [if_pos e2] at h2 ⊢; exact lexL_trans a b c h h2
      · rw [if_neg e2] at h2 ⊢; exact h2
    · rw [if_neg e] at h
      have h3 := of_decide_eq_true h
      by_cases e2 : y = z
      · subst e2; rw [if_neg e]; exact h
      · rw [if_neg e2] at h2
        have h4 := of_decide_eq_true h2
        rw [if_neg (show ¬ x = z by omega)]
        exact decide_eq_true (by omega)
theorem lexL_or : ∀ (a b : List Int), a = b ∨ lexL a b = true ∨ lexL b a = true := fun a b => by
  have := lexL_same a b
  by_cases h : a = b
  · exact .inl h
  · rw [decide_eq_false h] at this
    by_cases h2 : lexL a b = true
    · exact .inr (.inl h2)
    · rw [if_neg h2] at this
      exact .inr (.inr (by simpa using this))
def SortL (A : List (List Int)) : Prop := A.Pairwise fun x y => lexL x y = true
/-- Two lists in order with the same words are the same. -/
theorem sort_ext : ∀ (A B : List (List Int)), SortL A → SortL B → (∀ x, x ∈ A ↔ x ∈ B) → A = B
  | [], [], _, _, _ => rfl
  | [], b :: B, _, _, h => by have := (h b).2 (by simp); cases this
  | a :: A, [], _, _, h => by have := (h a).1 (by simp); cases this
  | a :: A, b :: B, hA, hB, h => by
    unfold SortL at hA hB
    rw [List.pairwise_cons] at hA hB
    have e : a = b := by
      rcases List.mem_cons.1 ((h a).1 (by simp)) with e | h1
      · exact e
      · rcases List.mem_cons.1 ((h b).2 (by simp)) with e | h2
        · exact e.symm
        · have := lexL_trans _ _ _ (hA.1 b h2) (hB.1 a h1)
          rw [lexL_irr] at this; cases this
    subst e
    rw [sort_ext A B hA.2 hB.2 fun x => ⟨fun hx => ?_, fun hx => ?_⟩]
    · rcases List.mem_cons.1 ((h x).1 (by simp [hx])) with rfl | h1
      · have := hA.1 x hx; rw [lexL_irr] at this; cases this
      · exact h1
    · rcases List.mem_cons.1 ((h x).2 (by simp [hx])) with rfl | h1
      · have := hB.1 x hx; rw [lexL_irr] at this; cases this
      · exact h1
theorem exts_sort : ∀ (d : Nat) (l : List Int), SortL (exts d l)
  | 0, l => by unfold SortL exts; exact List.pairwise_singleton _ _
  | d + 1, l => by
    unfold SortL
    rw [exts, List.pairwise_flatMap]
    refine ⟨fun r hr => ?_, ?_⟩
    · rw [List.pairwise_map]
      refine (exts_sort d (l.erase r)).imp fun h => ?_
      rw [lexL, if_pos rfl]; exact h
    · refine (sevn_lt.filter (frB l)).imp fun {a b} hab => ?_
      intro x hx y hy
      obtain ⟨x', _, rfl⟩ := List.mem_map.1 hx
      obtain ⟨y', _, rfl⟩ := List.mem_map.1 hy
      rw [lexL, if_neg (by omega)]
      exact decide_eq_true hab
theorem SortL.nodup {A : List (List Int)} (h : SortL A) : A.Nodup := by
  refine List.nodup_iff_pairwise_ne.2 (List.Pairwise.imp (fun {a b} hab => ?_) h)
  intro e; subst e; rw [lexL_irr] at hab; cases hab
/-- Different words of a list are not more than the list has. -/
theorem sub_length : ∀ (A B : List (List Int)), A.Nodup → (∀ x ∈ A, x ∈ B) → A.length ≤ B.length
  | [], B, _, _ => Nat.zero_le _
  | a :: A, B, hn, h => by
    rw [List.nodup_cons] at hn
    have hm := h a (by simp)
    have := sub_length A (B.erase a) hn.2 (fun x hx => (List.mem_erase_of_ne (fun e => hn.1 (by rw [← e]; exact hx))).2 (h x (by simp [hx])))
    rw [List.length_erase_of_mem hm] at this
    have hp := List.length_pos_of_mem hm
    rw [List.length_cons]; omega
/-- Two rows of numbers that go up, with the same numbers, are the same. -/
theorem up_ext : ∀ (A B : List Int), A.Pairwise (· < ·) → B.Pairwise (· < ·) → (∀ x, x ∈ A ↔ x ∈ B) → A = B
  | [], [], _, _, _ => rfl
  | [], b :: B, _, _, h => by have := (h b).2 (by simp); cases this
  | a :: A, [], _, _, h => by have := (h a).1 (by simp); cases this
  | a :: A, b :: B, hA, hB, h => by
    rw [List.pairwise_cons] at hA hB
    have e : a = b := by
      rcases List.mem_cons.1 ((h a).1 (by simp)) with e | h1
      · exact e
      · rcases List.mem_cons.1 ((h b).2 (by simp)) with e | h2
        · exact e.symm
        · have h3 := hA.1 b h2
          have h4 := hB.1 a h1
          omega
    subst e
    rw [up_ext A B hA.2 hB.2 fun x => ⟨fun hx => ?_, fun hx => ?_⟩]
    · rcases List.mem_cons.1 ((h x).1 (by simp [hx])) with rfl | h1
      · have := hA.1 x hx; omega
      · exact h1
    · rcases List.mem_cons.1 ((h x).2 (by simp [hx])) with rfl | h1
      · have := hB.1 x hx; omega
      · exact h1
/-- The places that can be taken first, in order of their rungs. -/
structure IsFirsts (l t : List Int) : Prop where
  mem : ∀ i : Int, i ∈ t ↔ 0 ≤ i ∧ i < l.length ∧ freeL l i.toNat = true
  up : t.Pairwise fun i j => rd l i < rd l j
theorem IsFirsts.rungs {l t : List Int} (h : IsFirsts l t) (hl : ∀ z ∈ l, 0 ≤ z ∧ z ≤ 6) : t.map (rd l) = sevn.filter (frB l) := by
  refine up_ext _ _ (List.pairwise_map.2 h.up) (sevn_lt.filter _) fun x => ?_
  rw [List.mem_map, List.mem_filter, sevn_mem]
  constructor
  · rintro ⟨i, hi, rfl⟩
    obtain ⟨h0, h1, h2⟩ := (h.mem i).1 hi
    obtain ⟨k, rfl⟩ := Int.eq_ofNat_of_zero_le h0
    rw [Int.toNat_natCast] at h2
    exact ⟨hl _ (rd_mem l k (by omega)), (freeL_fr l k (by omega) h2).1⟩
  · rintro ⟨_, h2⟩
    obtain ⟨i, hi, e, hf⟩ := fr_freeL l x h2
    exact ⟨(i : Int), (h.mem _).2 ⟨by omega, by omega, by rw [Int.toNat_natCast]; exact hf⟩, e⟩
/-- What a list of at most so many holds, when words are put behind others. -/
def slW (most : Nat) (out : List (List Int)) (done_ : List Int) (d : Nat) (l : List Int) : List (List Int) := (out ++ (exts d l).map (done_ ++ ·)).take (most + 1)
theorem take_more {α : Type} (A B : List α) (n : Nat) (h : n ≤ (A.take n).length) : (A ++ B).take n = A.take n := by
  rw [List.length_take] at h
  exact List.take_append_of_le_length (by omega)
end Go.Proofs.YtnddmmjofpfmfaaL
