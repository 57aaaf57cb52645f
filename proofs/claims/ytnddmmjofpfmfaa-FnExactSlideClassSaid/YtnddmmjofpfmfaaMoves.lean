/- Plain laws of this session on the three moves of a ladder's rungs. No program in sight. -/
import Derived.Test.YtnddmmjofpfmfaaLadders
import Derived.Test.YtnddmmjofpfmfaaPerms
namespace Go.Proofs.YtnddmmjofpfmfaaL
open Go.RowKit Go.Proofs.YtnddmmjofpfmfaaW.PrintWords
set_option linter.unusedVariables false
set_option linter.unusedSimpArgs false

def slideC (l : List Int) (a : Int) : Bool := decide (0 ≤ a ∧ a + 1 < l.length ∧ (rd l a - rd l (a + 1) ≥ 2 ∨ rd l (a + 1) - rd l a ≥ 2))
def slideL (l : List Int) (a : Int) : List Int := swp l a.toNat (a.toNat + 1)
def slideM (l : List Int) (a : Int) : List Int × Bool := if slideC l a = true then (slideL l a, true) else ([], false)
def dropC (l : List Int) (a : Int) : Bool := decide (0 ≤ a ∧ a + 1 < l.length ∧ rd l a = rd l (a + 1))
def dropL (l : List Int) (a : Int) : List Int := l.take a.toNat ++ l.drop (a.toNat + 2)
def dropM (l : List Int) (a : Int) : List Int × Bool := if dropC l a = true then (dropL l a, true) else ([], false)
def flipC (l : List Int) (a : Int) : Bool := decide (0 ≤ a ∧ a + 2 < l.length ∧ rd l a = rd l (a + 2) ∧ (rd l a - rd l (a + 1) = 1 ∨ rd l (a + 1) - rd l a = 1))
def flipL (l : List Int) (a : Int) : List Int := ((l.set a.toNat (rd l (a + 1))).set (a.toNat + 1) (rd l a)).set (a.toNat + 2) (rd l (a + 1))
def flipM (l : List Int) (a : Int) : List Int × Bool := if flipC l a = true then (flipL l a, true) else ([], false)
theorem slideL_length (l : List Int) (a : Int) : (slideL l a).length = l.length := swp_length _ _ _
theorem flipL_length (l : List Int) (a : Int) : (flipL l a).length = l.length := by simp [flipL]
theorem dropL_length (l : List Int) (a : Int) : (dropL l a).length ≤ l.length := by
  unfold dropL; rw [List.length_append, List.length_take, List.length_drop]; omega
theorem small_rd {l : List Int} (h : ∀ x ∈ l, 0 ≤ x ∧ x ≤ 1000) (a : Int) (h0 : 0 ≤ a) (h1 : a < l.length) : 0 ≤ rd l a ∧ rd l a ≤ 1000 := by
  have := rd_mem l a.toNat (by omega)
  rw [Int.toNat_of_nonneg h0] at this
  exact h _ this
theorem good_small {n : Int} {l : List Int} (h : good n l = true) : ∀ x ∈ l, 0 ≤ x ∧ x ≤ 1000 := fun x hx => by
  have g := good_iff.1 h
  have := g.2.2.2 x hx
  omega
/-- Three rungs laid over three, told by the cut and by the places. -/
theorem flipL_eq (l : List Int) (i : Nat) (h : i + 2 < l.length) : l.take i ++ [rd l ((i : Int) + 1), rd l (i : Int), rd l ((i : Int) + 1)] ++ l.drop (i + 3) = flipL l (i : Int) := by
  unfold flipL
  rw [toNat_cast]
  refine List.ext_getElem (by simp; omega) (fun q h1 h2 => ?_)
  rw [List.getElem_set, List.getElem_set, List.getElem_set]
  rcases Nat.lt_or_ge q i with c | c
  · rw [if_neg (by omega), if_neg (by omega), if_neg (by omega), List.getElem_append_left (by simp; omega), List.getElem_append_left (by rw [List.length_take]; omega), List.getElem_take]
  · rcases Nat.lt_or_ge q (i + 3) with d | d
    · have e : q = i ∨ q = i + 1 ∨ q = i + 2 := by omega
      have hl : (l.take i).length = i := by rw [List.length_take]; omega
      rw [List.getElem_append_left (by simp; omega), List.getElem_append_right (by omega)]
      rcases e with rfl | rfl | rfl
      · rw [if_neg (by omega), if_neg (by omega), if_pos rfl]; simp [hl]
      · rw [if_neg (by omega), if_pos rfl]; simp [hl]
      · rw [if_pos rfl]; simp [hl]
    · have hl : (l.take i ++ [rd l ((i : Int) + 1), rd l (i : Int), rd l ((i : Int) + 1)]).length = i + 3 := by simp; omega
      rw [if_neg (by omega), if_neg (by omega), if_neg (by omega), List.getElem_append_right (by omega), List.getElem_drop]
      simp only [hl]
      congr 1; omega
/-- A rung more. -/
def addL (l : List Int) (a x : Int) : List Int := l.take a.toNat ++ [x] ++ l.drop a.toNat
theorem addL_length (l : List Int) (a x : Int) (h0 : 0 ≤ a) (h1 : a ≤ l.length) : (addL l a x).length = l.length + 1 := by
  unfold addL; simp; omega
theorem addL_good {n : Int} {l : List Int} {a x : Int} (h : good n (addL l a x) = true) : 0 ≤ x ∧ x ≤ n - 2 :=
  (good_iff.1 h).2.2.2 x (by unfold addL; simp)
end Go.Proofs.YtnddmmjofpfmfaaL
