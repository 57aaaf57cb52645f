/- Plain laws of this session on the cycles of an order: how they are found, what they tell of signs and powers. No program in sight. -/
import Derived.Test.YtnddmmjofpfmfaaPerms
namespace Go.Proofs.YtnddmmjofpfmfaaL
open Go.RowKit Go.Proofs.YtnddmmjofpfmfaaW.PrintWords
set_option linter.unusedVariables false
set_option linter.unusedSimpArgs false

theorem rdOf_cast {α : Type} (d : α) (xs : List α) (i : Nat) : rdOf d xs (i : Int) = xs.getD i d := rfl
theorem rdOf_lt {α : Type} (d : α) (xs : List α) (i : Nat) (h : i < xs.length) : rdOf d xs (i : Int) = xs[i] := by
  rw [rdOf_cast, List.getD_eq_getElem?_getD, List.getElem?_eq_getElem h]; rfl
theorem rdOf_set {α : Type} (d : α) (p : List α) (a : Nat) (v : α) (i : Nat) (ha : a < p.length) : rdOf d (p.set a v) (i : Int) = if a = i then v else rdOf d p (i : Int) := by
  rw [rdOf_cast, rdOf_cast, List.getD_eq_getElem?_getD, List.getElem?_set]
  by_cases h : a = i
  · rw [if_pos h, if_pos h, if_pos (by omega)]; rfl
  · rw [if_neg h, if_neg h, ← List.getD_eq_getElem?_getD]
/-- From a place on, as long as nobody was there. -/
def walkM (p : List Int) : Nat → List Bool → List Int → Int → Option (List Bool × List Int)
  | 0, _, _, _ => none
  | f + 1, seen, acc, j => if rdOf false seen j = true then some (seen, acc) else walkM p f (seen.set j.toNat true) (acc ++ [j]) (rd p j)
def cycM (p : List Int) : Nat → Nat → List Bool → List (List Int) → Option (List (List Int))
  | 0, _, _, C => some C
  | d + 1, i, seen, C => match walkM p 9 seen [] (i : Int) with
    | none => none
    | some (seen', c) => cycM p d (i + 1) seen' (if c.length > 0 then C ++ [c] else C)
def cyclesM (p : List Int) : Option (List (List Int)) := cycM p p.length 0 (List.replicate p.length false) []
theorem walkM_length (p : List Int) : ∀ (f : Nat) (seen : List Bool) (acc : List Int) (j : Int) (s : List Bool) (c : List Int), walkM p f seen acc j = some (s, c) → s.length = seen.length ∧ c.length ≤ acc.length + f
  | 0, _, _, _, _, _, h => by cases h
  | f + 1, seen, acc, j, s, c, h => by
    unfold walkM at h
    split at h
    · cases h; exact ⟨rfl, by omega⟩
    · obtain ⟨h1, h2⟩ := walkM_length p f _ _ _ s c h
      simp at h1 h2
      exact ⟨h1, by omega⟩
theorem nodup_bound : ∀ (n : Nat) (l : List Int), l.Nodup → (∀ x ∈ l, 0 ≤ x ∧ x < n) → l.length ≤ n
  | 0, l, _, h => by
    cases l with
    | nil => exact Nat.le_refl _
    | cons x r => have := h x (by simp); omega
  | n + 1, l, hn, h => by
    by_cases hm : (n : Int) ∈ l
    · have h1 := List.length_erase_of_mem hm
      have h2 := nodup_bound n (l.erase (n : Int)) (hn.erase _) (fun x hx => by
        obtain ⟨h3, h4⟩ := hn.mem_erase_iff.1 hx
        have := h x h4
        omega)
      have h5 : 0 < l.length := List.length_pos_of_mem hm
      omega
    · have := nodup_bound n l hn (fun x hx => by
        have h1 := h x hx
        have h2 : x ≠ (n : Int) := fun e => hm (e ▸ hx)
        omega)
      omega
theorem rd_inj {p : List Int} (hp : p.Nodup) (x y : Int) (hx : 0 ≤ x ∧ x < p.length) (hy : 0 ≤ y ∧ y < p.length) (h : rd p x = rd p y) : x = y := by
  obtain ⟨i, rfl⟩ := Int.eq_ofNat_of_zero_le hx.1
  obtain ⟨j, rfl⟩ := Int.eq_ofNat_of_zero_le hy.1
  rw [rd_lt p i (by omega), rd_lt p j (by omega)] at h
  have hw := List.pairwise_iff_getElem.1 hp
  rcases Nat.lt_trichotomy i j with h1 | h1 | h1
  · exact absurd h (hw i j (by omega) (by omega) h1)
  · rw [h1]
  · exact absurd h.symm (hw j i (by omega) (by omega) h1)
theorem follows_snoc (p : List Int) : ∀ (l : List Int) (j : Int), follows p j l → follows p (rd p j) (l ++ [j])
  | [], _, h => h.elim
  | [x], j, h => by
    unfold follows at h
    exact ⟨h, rfl⟩
  | x :: y :: r, j, h => by
    unfold follows at h
    exact ⟨h.1, follows_snoc p (y :: r) j h.2⟩
theorem follows_last (p : List Int) : ∀ (l : List Int) (f : Int), follows p f l → ∃ a x, l = a ++ [x] ∧ rd p x = f
  | [], _, h => h.elim
  | [x], f, h => ⟨[], x, rfl, h⟩
  | x :: y :: r, f, h => by
    unfold follows at h
    obtain ⟨a, z, e, hz⟩ := follows_last p (y :: r) f h.2
    exact ⟨x :: a, z, by rw [e]; rfl, hz⟩
theorem follows_pred (p : List Int) : ∀ (a : Int) (r : List Int) (f y : Int), follows p f (a :: r) → y ∈ r → ∃ l1 x l2, a :: r = l1 ++ x :: y :: l2 ∧ rd p x = y
  | a, [], _, y, _, hy => by cases hy
  | a, b :: r, f, y, h, hy => by
    unfold follows at h
    rcases List.mem_cons.1 hy with rfl | hy
    · exact ⟨[], a, r, rfl, h.1⟩
    · obtain ⟨l1, x, l2, e, hx⟩ := follows_pred p b r f y h.2 hy
      exact ⟨a :: l1, x, l2, by rw [e]; rfl, hx⟩
theorem cyc_pred (p : List Int) (c : List Int) (h : isCyc p c) (y : Int) (hy : y ∈ c) : ∃ x ∈ c, rd p x = y := by
  match c, h, hy with
  | a :: r, h, hy =>
    rcases List.mem_cons.1 hy with rfl | hy
    · obtain ⟨l, x, e, hx⟩ := follows_last p _ _ h
      exact ⟨x, by rw [e]; simp, hx⟩
    · obtain ⟨l1, x, l2, e, hx⟩ := follows_pred p a r a y h hy
      exact ⟨x, by rw [e]; simp, hx⟩
structure CInv (p : List Int) (seen : List Bool) (C : List (List Int)) (i : Nat) : Prop where
  len : seen.length = p.length
  at_ : ∀ k : Nat, k < p.length → (rdOf false seen (k : Int) = true ↔ (k : Int) ∈ C.flatten)
  cyc : ∀ c ∈ C, isCyc p c
  nodup : C.flatten.Nodup
  lt : ∀ x ∈ C.flatten, 0 ≤ x ∧ x < p.length
  done_ : ∀ k : Nat, k < i → (k : Int) ∈ C.flatten
/-- A walk from a place where nobody was ends where it began. -/
theorem walk_ok (p : List Int) (hp : p.Nodup) (hr : ∀ x ∈ p, 0 ≤ x ∧ x < p.length) (C : List (List Int)) (hc : ∀ c ∈ C, isCyc p c) (hlt : ∀ x ∈ C.flatten, 0 ≤ x ∧ x < p.length) (i : Int) (hi : i ∉ C.flatten) :
    ∀ (f : Nat) (seen : List Bool) (acc : List Int) (j : Int), p.length + 1 ≤ f + acc.length → seen.length = p.length → (∀ k : Nat, k < p.length → (rdOf false seen (k : Int) = true ↔ (k : Int) ∈ C.flatten ∨ (k : Int) ∈ acc)) → acc.Nodup → (∀ x ∈ acc, x ∉ C.flatten ∧ 0 ≤ x ∧ x < p.length) → (0 ≤ j ∧ j < p.length) → ((acc = [] ∧ j = i) ∨ ∃ r, acc = i :: r ∧ follows p j acc) →
    ∃ s c, walkM p f seen acc j = some (s, c) ∧ isCyc p c ∧ s.length = p.length ∧ (∀ k : Nat, k < p.length → (rdOf false s (k : Int) = true ↔ (k : Int) ∈ C.flatten ∨ (k : Int) ∈ c)) ∧ c.Nodup ∧ (∀ x ∈ c, x ∉ C.flatten ∧ 0 ≤ x ∧ x < p.length) ∧ i ∈ c := by
  intro f
  induction f with
  | zero =>
    intro seen acc j hf _ _ hn hx _ _
    have := nodup_bound p.length acc hn (fun x hxx => (hx x hxx).2)
    omega
  | succ f ih =>
    intro seen acc j hf hl hs hn hx hj hpath
    obtain ⟨k, rfl⟩ := Int.eq_ofNat_of_zero_le hj.1
    have hk : k < p.length := by omega
    unfold walkM
    by_cases hsk : rdOf false seen (k : Int) = true
    · rw [if_pos hsk]
      have hmem := (hs k hk).1 hsk
      rcases hpath with ⟨rfl, e⟩ | ⟨r, rfl, hfol⟩
      · rcases hmem with h | h
        · exact absurd (e ▸ h) hi
        · cases h
      · obtain ⟨l, z, el, hz⟩ := follows_last p _ _ hfol
        have hzm : z ∈ i :: r := by rw [el]; simp
        have hnot : ¬ ((k : Int) ∈ C.flatten) := by
          intro h
          obtain ⟨c, hcC, hkc⟩ := List.mem_flatten.1 h
          obtain ⟨x, hxc, hxk⟩ := cyc_pred p c (hc c hcC) _ hkc
          have hxf : x ∈ C.flatten := List.mem_flatten.2 ⟨c, hcC, hxc⟩
          have : x = z := rd_inj hp x z (hlt x hxf) (hx z hzm).2 (by rw [hxk, hz])
          exact (hx z hzm).1 (this ▸ hxf)
        have hka : (k : Int) ∈ i :: r := hmem.resolve_left hnot
        have hki : (k : Int) = i := by
          rcases List.mem_cons.1 hka with h | h
          · exact h
          · exfalso
            obtain ⟨l1, x, l2, e, hxk⟩ := follows_pred p i r _ _ hfol h
            have hxm : x ∈ i :: r := by rw [e]; simp
            have hxz : x = z := rd_inj hp x z (hx x hxm).2 (hx z hzm).2 (by rw [hxk, hz])
            have hzl : z ∈ (k : Int) :: l2 := by
              have h1 : l ++ [z] = l1 ++ x :: (k : Int) :: l2 := el.symm.trans e
              have h2 := congrArg List.getLast? h1
              rw [show l1 ++ x :: (k : Int) :: l2 = (l1 ++ [x]) ++ ((k : Int) :: l2) by simp, List.getLast?_concat, List.getLast?_append, List.getLast?_eq_some_getLast (List.cons_ne_nil (k : Int) l2), Option.some_or] at h2
              rw [Option.some.inj h2]
              exact List.getLast_mem _
            rw [e] at hn
            have h4 := (List.nodup_append.1 hn).2.1
            exact (List.nodup_cons.1 h4).1 (hxz ▸ hzl)
        rw [hki] at hfol
        exact ⟨seen, i :: r, rfl, hfol, hl, hs, hn, hx, by simp⟩
    · rw [if_neg hsk, toNat_cast]
      have hmem : ¬ ((k : Int) ∈ C.flatten ∨ (k : Int) ∈ acc) := fun h => hsk ((hs k hk).2 h)
      have hnj := hr _ (rd_mem p k hk)
      refine ih (seen.set k true) (acc ++ [(k : Int)]) (rd p (k : Int)) (by simp; omega) (by simpa using hl) (fun q hq => ?_) ?_ (fun x hxx => ?_) hnj ?_
      · rw [rdOf_set false seen k true q (by omega)]
        by_cases e : k = q
        · subst e; simp
        · rw [if_neg e, hs q hq, List.mem_append, List.mem_singleton]
          have : ¬ ((q : Int) = (k : Int)) := by omega
          simp [this]
      · rw [List.nodup_append]
        exact ⟨hn, by simp, fun a ha b hb e => hmem (Or.inr (by simp only [List.mem_singleton] at hb; subst hb; subst e; exact ha))⟩
      · rcases List.mem_append.1 hxx with h | h
        · exact hx x h
        · simp only [List.mem_singleton] at h
          subst h
          exact ⟨fun h => hmem (Or.inl h), hj⟩
      · rcases hpath with ⟨rfl, e⟩ | ⟨r, rfl, hfol⟩
        · exact Or.inr ⟨[], by rw [List.nil_append, e], rfl⟩
        · exact Or.inr ⟨r ++ [(k : Int)], rfl, follows_snoc p _ _ hfol⟩
theorem cycM_ok (p : List Int) (hp : p.Nodup) (h8 : p.length ≤ 8) (hr : ∀ x ∈ p, 0 ≤ x ∧ x < p.length) : ∀ (d i : Nat) (seen : List Bool) (C : List (List Int)), i + d = p.length → CInv p seen C i → ∃ R, cycM p d i seen C = some R ∧ IsDec p R := by
  intro d
  induction d with
  | zero =>
    intro i seen C hd hI
    exact ⟨C, rfl, hI.cyc, hI.nodup, fun k hk => hI.done_ k (by omega), hI.lt⟩
  | succ d ih =>
    intro i seen C hd hI
    unfold cycM
    have hi : i < p.length := by omega
    by_cases hs : rdOf false seen (i : Int) = true
    · have e : walkM p 9 seen [] (i : Int) = some (seen, []) := by unfold walkM; rw [if_pos hs]
      rw [e]
      refine ih (i + 1) seen C (by omega) ⟨hI.len, hI.at_, hI.cyc, hI.nodup, hI.lt, fun k hk => ?_⟩
      rcases Nat.lt_or_ge k i with h | h
      · exact hI.done_ k h
      · obtain rfl : k = i := by omega
        exact (hI.at_ k hi).1 hs
    · have hni : (i : Int) ∉ C.flatten := fun h => hs ((hI.at_ i hi).2 h)
      obtain ⟨s, c, hw, hcyc, hl, hat, hn, hx, hm⟩ := walk_ok p hp hr C hI.cyc hI.lt (i : Int) hni 9 seen [] (i : Int) (by simp; omega) hI.len (fun k hk => by rw [hI.at_ k hk]; simp) List.nodup_nil (by simp) ⟨by omega, by omega⟩ (Or.inl ⟨rfl, rfl⟩)
      rw [hw]
      have hpos : c.length > 0 := List.length_pos_of_mem hm
      show ∃ R, cycM p d (i + 1) s (if c.length > 0 then C ++ [c] else C) = some R ∧ IsDec p R
      rw [if_pos hpos]
      have hfl : (C ++ [c]).flatten = C.flatten ++ c := by simp
      refine ih (i + 1) s (C ++ [c]) (by omega) ⟨hl, fun k hk => by rw [hat k hk, hfl, List.mem_append], fun c' hc' => ?_, ?_, fun x hxx => ?_, fun k hk => ?_⟩
      · rcases List.mem_append.1 hc' with h | h
        · exact hI.cyc c' h
        · simp only [List.mem_singleton] at h
          subst h; exact hcyc
      · rw [hfl, List.nodup_append]
        exact ⟨hI.nodup, hn, fun a ha b hb e => (hx b hb).1 (e ▸ ha)⟩
      · rw [hfl] at hxx
        rcases List.mem_append.1 hxx with h | h
        · exact hI.lt x h
        · exact (hx x h).2
      · rw [hfl]
        rcases Nat.lt_or_ge k i with h | h
        · exact List.mem_append_left _ (hI.done_ k h)
        · obtain rfl : k = i := by omega
          exact List.mem_append_right _ hm
theorem cyclesM_ok (p : List Int) (h : isOrd p = true) : ∃ C, cyclesM p = some C ∧ IsDec p C := by
  obtain ⟨h1, h2⟩ := isOrd_all h
  refine cycM_ok p h2 (isOrd_len h).2 h1 p.length 0 _ [] (by omega) ⟨by simp, fun k hk => ?_, by simp, by simp, by simp, by simp⟩
  rw [rdOf_cast, List.getD_eq_getElem?_getD, List.getElem?_replicate, if_pos hk]; simp
theorem cycM_length (p : List Int) : ∀ (d i : Nat) (seen : List Bool) (C R : List (List Int)), cycM p d i seen C = some R → R.length ≤ C.length + d ∧ ((∀ c ∈ C, c.length ≤ 9) → ∀ c ∈ R, c.length ≤ 9)
  | 0, _, _, C, R, h => by cases h; exact ⟨by omega, fun h => h⟩
  | d + 1, i, seen, C, R, h => by
    unfold cycM at h
    split at h
    · cases h
    · rename_i s c hw
      obtain ⟨h1, h2⟩ := cycM_length p d (i + 1) s _ R h
      have h3 := (walkM_length p 9 seen [] _ s c hw).2
      refine ⟨?_, fun hC => h2 (fun c' hc' => ?_)⟩
      · split at h1
        · simp at h1; omega
        · omega
      · split at hc'
        · rcases List.mem_append.1 hc' with h4 | h4
          · exact hC c' h4
          · simp only [List.mem_singleton] at h4
            subst h4; simpa using h3
        · exact hC c' hc'
theorem cyclesM_length {p : List Int} {C : List (List Int)} (h : cyclesM p = some C) : C.length ≤ p.length ∧ ∀ c ∈ C, c.length ≤ 9 := by
  obtain ⟨h1, h2⟩ := cycM_length p _ _ _ _ _ h
  exact ⟨by simpa using h1, h2 (by simp)⟩
end Go.Proofs.YtnddmmjofpfmfaaL
