/- Plain laws of this session: rows marked with running numbers. No program in sight. -/
import Derived.Test.YtnddmmjofpfmfaaPlain
namespace Go.Proofs.YtnddmmjofpfmfaaL
open Go.RowKit Go.Proofs.YtnddmmjofpfmfaaW.PrintWords
set_option linter.unusedVariables false
set_option linter.unusedSimpArgs false

/-- Rows marked with numbers from k on. -/
def fromOns : Int → List (List Int) → List (List Int)
  | _, [] => []
  | k, x :: r => fromOn k x.length :: fromOns (k + x.length) r
def sumLen : List (List Int) → Nat
  | [] => 0
  | x :: r => x.length + sumLen r
theorem fromOns_length : ∀ (r : List (List Int)) (k : Int), (fromOns k r).length = r.length
  | [], _ => rfl
  | x :: r, k => by simp [fromOns, fromOns_length r]
theorem sumLen_le (m : Nat) : ∀ r : List (List Int), (∀ x ∈ r, x.length ≤ m) → sumLen r ≤ r.length * m
  | [], _ => Nat.zero_le _
  | x :: r, h => by
    have h1 := h x (by simp)
    have h2 := sumLen_le m r (fun y hy => h y (by simp [hy]))
    simp only [sumLen, List.length_cons, Nat.succ_mul]
    omega
end Go.Proofs.YtnddmmjofpfmfaaL
