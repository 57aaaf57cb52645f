/- Plain laws of this session: the inversions of an order, as lists of places. No program in sight. -/
import Derived.Test.YtnddmmjofpfmfaaPlain
namespace Go.Proofs.YtnddmmjofpfmfaaL
open Go.RowKit Go.Proofs.YtnddmmjofpfmfaaW.PrintWords
set_option linter.unusedVariables false
set_option linter.unusedSimpArgs false

/-- The inversions i, j with this i and j from a place on. -/
def invRow (p : List Int) (i : Nat) : Nat → Nat → List (List Int)
  | _, 0 => []
  | j, d + 1 => if rd p (i : Int) > rd p (j : Int) then [(i : Int), (j : Int)] :: invRow p i (j + 1) d else invRow p i (j + 1) d
/-- The inversions from a place i on. -/
def invFrom (p : List Int) : Nat → Nat → List (List Int)
  | _, 0 => []
  | i, d + 1 => invRow p i (i + 1) (p.length - (i + 1)) ++ invFrom p (i + 1) d
def invs (p : List Int) : List (List Int) := invFrom p 0 p.length
theorem invRow_length (p : List Int) (i : Nat) : ∀ d j, (invRow p i j d).length ≤ d
  | 0, _ => Nat.le_refl _
  | d + 1, j => by
    unfold invRow
    have := invRow_length p i d (j + 1)
    split
    · simp; omega
    · omega
theorem invFrom_length (p : List Int) : ∀ d i, (invFrom p i d).length ≤ d * p.length
  | 0, _ => by simp [invFrom]
  | d + 1, i => by
    unfold invFrom
    have h1 := invRow_length p i (p.length - (i + 1)) (i + 1)
    have h2 := invFrom_length p d (i + 1)
    rw [List.length_append, Nat.succ_mul]
    omega
theorem invs_length (p : List Int) (h : p.length ≤ 8) : (invs p).length ≤ 64 := by
  have := invFrom_length p p.length 0
  unfold invs
  have h2 : p.length * p.length ≤ 8 * 8 := Nat.mul_le_mul h h
  omega
/-- Each is two places of the order, the first one less. -/
theorem invRow_two (p : List Int) (i : Nat) : ∀ d j, i < j → j + d = p.length → ∀ x ∈ invRow p i j d, ∃ a b : Nat, x = [(a : Int), (b : Int)] ∧ a < b ∧ b < p.length
  | 0, _, _, _, x, hx => by simp [invRow] at hx
  | d + 1, j, hij, hj, x, hx => by
    unfold invRow at hx
    split at hx
    · rcases List.mem_cons.1 hx with rfl | hx
      · exact ⟨i, j, rfl, hij, by omega⟩
      · exact invRow_two p i d (j + 1) (by omega) (by omega) x hx
    · exact invRow_two p i d (j + 1) (by omega) (by omega) x hx
theorem invFrom_two (p : List Int) : ∀ d i, i + d = p.length → ∀ x ∈ invFrom p i d, ∃ a b : Nat, x = [(a : Int), (b : Int)] ∧ a < b ∧ b < p.length
  | 0, _, _, x, hx => by simp [invFrom] at hx
  | d + 1, i, hi, x, hx => by
    unfold invFrom at hx
    rcases List.mem_append.1 hx with hx | hx
    · exact invRow_two p i _ _ (by omega) (by omega) x hx
    · exact invFrom_two p d (i + 1) (by omega) x hx
theorem invs_two (p : List Int) : ∀ x ∈ invs p, ∃ a b : Nat, x = [(a : Int), (b : Int)] ∧ a < b ∧ b < p.length := invFrom_two p p.length 0 (by omega)
end Go.Proofs.YtnddmmjofpfmfaaL
