/- Plain laws of this session on the rungs that can be taken first, and on the word that takes the least of them each time. No program in sight. -/
import Derived.Test.YtnddmmjofpfmfaaLadders
import Derived.Test.YtnddmmjofpfmfaaCycles
namespace Go.Proofs.YtnddmmjofpfmfaaL
open Go.RowKit Go.Proofs.YtnddmmjofpfmfaaW.PrintWords
set_option linter.unusedVariables false
set_option linter.unusedSimpArgs false

/-- Are two rungs apart? -/
def farI (r x : Int) : Bool := decide (2 ≤ x - r) || decide (2 ≤ r - x)
/-- Can the rung be taken first? -/
def freeL (l : List Int) (i : Nat) : Bool := (l.take i).all (farI (rd l (i : Int)))
/-- Of so many: the place of the least that can be taken first. -/
def bestL (l : List Int) : Nat → Int
  | 0 => -1
  | i + 1 => if freeL l i = true then (if bestL l i < 0 then (i : Int) else if rd l (i : Int) < rd l (bestL l i) then (i : Int) else bestL l i) else bestL l i
theorem bestL_range (l : List Int) : ∀ n : Nat, -1 ≤ bestL l n ∧ bestL l n < n
  | 0 => by unfold bestL; omega
  | n + 1 => by
    have := bestL_range l n
    unfold bestL
    repeat' split
    all_goals omega
theorem bestL_zero (l : List Int) : freeL l 0 = true := by unfold freeL; rw [List.take_zero]; rfl
theorem bestL_pos (l : List Int) : ∀ n : Nat, 0 < n → 0 ≤ bestL l n
  | 0, h => by omega
  | 1, _ => by
    unfold bestL
    rw [if_pos (bestL_zero l), if_pos (show bestL l 0 < 0 by unfold bestL; omega)]
    omega
  | n + 2, _ => by
    have := bestL_pos l (n + 1) (by omega)
    rw [bestL]
    repeat' split
    all_goals omega
theorem bestL_free (l : List Int) : ∀ n : Nat, 0 ≤ bestL l n → freeL l (bestL l n).toNat = true
  | 0, h => by unfold bestL at h; omega
  | n + 1, h => by
    have ih := bestL_free l n
    unfold bestL at h ⊢
    split
    · rename_i hf
      rw [if_pos hf] at h
      split
      · rw [Int.toNat_natCast]; exact hf
      · rename_i h1
        split
        · rw [Int.toNat_natCast]; exact hf
        · exact ih (by omega)
    · rename_i hf
      rw [if_neg hf] at h
      exact ih h
theorem bestL_least (l : List Int) : ∀ (n j : Nat), j < n → freeL l j = true → rd l (bestL l n) ≤ rd l (j : Int)
  | 0, _, h, _ => by omega
  | n + 1, j, h, hf => by
    have ih := bestL_least l n j
    unfold bestL
    by_cases hn : freeL l n = true
    · rw [if_pos hn]
      by_cases e : j = n
      · subst e
        split
        · exact Int.le_refl _
        · split <;> omega
      · have := ih (by omega) hf
        rw [if_neg (show ¬ bestL l n < 0 by have := bestL_pos l n (by omega); omega)]
        split <;> omega
    · rw [if_neg hn]
      have : j ≠ n := fun e => hn (e ▸ hf)
      exact ih (by omega) hf
theorem free_far (l : List Int) (i j : Nat) (hij : i < j) (hj : j < l.length) (hf : freeL l j = true) : rd l (i : Int) ≠ rd l (j : Int) := by
  have h1 : rd l (i : Int) ∈ l.take j := by
    rw [rd_lt l i (by omega)]
    exact List.mem_take_iff_getElem.2 ⟨i, by omega, rfl⟩
  have h2 := List.all_eq_true.1 hf _ h1
  unfold farI at h2
  simp at h2
  omega
theorem free_same (l : List Int) (i j : Nat) (hi : i < l.length) (hj : j < l.length) (fi : freeL l i = true) (fj : freeL l j = true) (h : rd l (i : Int) = rd l (j : Int)) : i = j := by
  rcases Nat.lt_trichotomy i j with h1 | h1 | h1
  · exact absurd h (free_far l i j h1 hj fj)
  · exact h1
  · exact absurd h.symm (free_far l j i h1 hi fi)
/-- The least of those that can be taken first is told by being so. -/
theorem bestL_only (l : List Int) (i : Nat) (hi : i < l.length) (fi : freeL l i = true) (hl : ∀ j, j < l.length → freeL l j = true → rd l (i : Int) ≤ rd l (j : Int)) : bestL l l.length = (i : Int) := by
  have h0 := bestL_pos l l.length (by omega)
  have h1 := bestL_range l l.length
  obtain ⟨b, hb⟩ : ∃ b : Nat, bestL l l.length = (b : Int) := ⟨(bestL l l.length).toNat, by omega⟩
  have h2 := bestL_free l l.length h0
  have h3 := bestL_least l l.length i hi fi
  rw [hb] at h1 h2 h3 ⊢
  rw [Int.toNat_natCast] at h2
  have h4 := hl b (by omega) h2
  rw [free_same l b i (by omega) hi h2 fi (by omega)]
/-- The word that takes the least each time. -/
def nfGo : Nat → List Int → List Int
  | 0, _ => []
  | d + 1, l => rd l (bestL l l.length) :: nfGo d (woL l (bestL l l.length))
def nfL (l : List Int) : List Int := nfGo l.length l
theorem nfGo_length : ∀ (d : Nat) (l : List Int), (nfGo d l).length = d
  | 0, _ => rfl
  | d + 1, l => by rw [nfGo, List.length_cons, nfGo_length d]
theorem nfL_length (l : List Int) : (nfL l).length = l.length := nfGo_length _ _
theorem woL_len (l : List Int) (i : Int) (h0 : 0 ≤ i) (h1 : i < l.length) : (woL l i).length + 1 = l.length := by
  unfold woL
  rw [List.length_append, List.length_take, List.length_drop]
  omega
theorem woL_mem (l : List Int) (i x : Int) (h : x ∈ woL l i) : x ∈ l := by
  unfold woL at h
  rcases List.mem_append.1 h with h | h
  · exact List.mem_of_mem_take h
  · exact List.mem_of_mem_drop h
/-- At most so many can be taken first. -/
theorem free_few (l : List Int) (m : Nat) (hm : ∀ x ∈ l, 0 ≤ x ∧ x < m) (os : List Nat) (hn : os.Nodup) (ho : ∀ i ∈ os, i < l.length ∧ freeL l i = true) : os.length ≤ m := by
  have h1 : (os.map fun i : Nat => rd l (i : Int)).length ≤ m := by
    refine nodup_bound m _ ?_ ?_
    · refine List.pairwise_map.2 (List.Pairwise.imp_of_mem ?_ hn)
      intro a b ha hb hab e
      exact hab (free_same l a b (ho a ha).1 (ho b hb).1 (ho a ha).2 (ho b hb).2 e)
    · intro x hx
      obtain ⟨i, hi, rfl⟩ := List.mem_map.1 hx
      exact hm _ (rd_mem l i (ho i hi).1)
  simpa using h1

/-- Is the one word ahead of the other? -/
def lexL : List Int → List Int → Bool
  | [], b => decide (0 < b.length)
  | _ :: _, [] => false
  | x :: a, y :: b => if x = y then lexL a b else decide (x < y)
theorem lexL_same : ∀ (a b : List Int), (if lexL a b = true then false else !(lexL b a)) = decide (a = b)
  | [], [] => rfl
  | [], _ :: _ => rfl
  | _ :: _, [] => rfl
  | x :: a, y :: b => by
    have ih := lexL_same a b
    by_cases h : x = y
    · subst h
      rw [lexL, lexL, if_pos rfl, if_pos rfl, ih]
      rw [decide_eq_decide, List.cons.injEq]
      exact ⟨fun z => ⟨rfl, z⟩, fun z => z.2⟩
    · rw [lexL, lexL, if_neg h, if_neg (Ne.symm h), decide_eq_false (show ¬ x :: a = y :: b from fun z => h (List.cons.inj z).1)]
      by_cases h2 : x < y
      · rw [if_pos (decide_eq_true h2)]
      · rw [if_neg (show ¬ decide (x < y) = true by simpa using h2), decide_eq_true (show y < x by omega)]; rfl

end Go.Proofs.YtnddmmjofpfmfaaL
