/- Plain laws of this session on all orders of so many numbers and on counts told by lengths. No program in sight. -/
import Derived.Test.YtnddmmjofpfmfaaCounts
namespace Go.Proofs.YtnddmmjofpfmfaaL
open Go.RowKit Go.Proofs.YtnddmmjofpfmfaaW.PrintWords
set_option linter.unusedVariables false
set_option linter.unusedSimpArgs false

/-- One order counted: the place of its inversions is raised by its least ladders. -/
def tally (xs p : List Int) : List Int := xs.set (invC p) (wrap64 (rd xs ((invC p : Nat) : Int) + ((cntF 16 p : Nat) : Int)))
theorem tally_length (xs p : List Int) : (tally xs p).length = xs.length := List.length_set
theorem tallies_length : ∀ (ps : List (List Int)) (xs : List Int), (ps.foldl tally xs).length = xs.length
  | [], _ => rfl
  | p :: ps, xs => by rw [List.foldl_cons, tallies_length ps, tally_length]
/-- All orders that begin with some numbers and go on with the others. -/
def permsD : Nat → List Int → List Int → List (List Int)
  | 0, _, _ => []
  | d + 1, done, left => if left.length = 0 then [done] else (List.range left.length).flatMap fun (i : Nat) => permsD d (done ++ [rd left (i : Int)]) (woL left (i : Int))
/-- All rows of k different numbers below n. -/
def ordsB (n : Nat) : Nat → List (List Int)
  | 0 => [[]]
  | k + 1 => (ordsB n k).flatMap fun p => ((ident n).filter fun x => !decide (x ∈ p)).map fun x => p ++ [x]
def okP (n : Nat) (p : List Int) : Bool := isOrd p && (decide (p.length = n) && decide (invC p < n * (n - 1) / 2 + 1))
theorem okP_iff {n : Nat} {p : List Int} : okP n p = true ↔ isOrd p = true ∧ p.length = n ∧ invC p < n * (n - 1) / 2 + 1 := by simp [okP]
theorem perms_ords : ∀ n, n < 7 → 2 ≤ n → permsD (n + 1) [] (ident n) = ordsB n n := by decide +kernel
theorem ords_ok : ∀ n, n < 7 → 2 ≤ n → (ordsB n n).all (okP n) = true := by decide +kernel
theorem ords_small : ∀ n, n < 7 → ∀ k, k < 7 → (ordsB n k).length ≤ 720 ∧ ((ordsB n k).all fun p => decide (p.length = k)) = true ∧ (k ≤ n → 0 < (ordsB n k).length) := by decide +kernel
/-- How many least ladders there are of each length. -/
def byLen (n : Nat) : List Int := (ordsB n n).foldl tally (List.replicate (n * (n - 1) / 2 + 1) 0)
theorem byLen_length (n : Nat) : (byLen n).length = n * (n - 1) / 2 + 1 := by
  unfold byLen
  rw [tallies_length, List.length_replicate]
theorem byLen_short (n : Nat) (h : n ≤ 6) : (byLen n).length ≤ 16 := by
  rw [byLen_length]
  obtain rfl | rfl | rfl | rfl | rfl | rfl | rfl : n = 0 ∨ n = 1 ∨ n = 2 ∨ n = 3 ∨ n = 4 ∨ n = 5 ∨ n = 6 := by omega
  all_goals decide
/-- A sum, as the machine adds. -/
def sumW (xs : List Int) : Int := xs.foldl (fun s x => wrap64 (s + x)) 0
end Go.Proofs.YtnddmmjofpfmfaaL
