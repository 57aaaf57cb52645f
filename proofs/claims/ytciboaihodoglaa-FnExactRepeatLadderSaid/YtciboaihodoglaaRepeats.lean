/- Plain laws of this session on a row that comes again so many times. No program in sight. -/
import Derived.Test.YtciboaihodoglaaLadders
namespace Go.Proofs.YtciboaihodoglaaL
open Go.RowKit Go.Proofs.YtciboaihodoglaaW.PrintWords
set_option linter.unusedVariables false
set_option linter.unusedSimpArgs false

def repL (l : List Int) (k : Nat) : List Int := (List.replicate k l).flatten
theorem repL_length (l : List Int) (k : Nat) : (repL l k).length = k * l.length := by
  unfold repL
  induction k with
  | zero => simp
  | succ k ih => rw [List.replicate_succ, List.flatten_cons, List.length_append, ih, Nat.succ_mul]; omega
theorem repL_succ (l : List Int) (k : Nat) : repL l (k + 1) = l ++ repL l k := by
  unfold repL
  rw [List.replicate_succ, List.flatten_cons]
/-- How many times at most. -/
theorem sixty (n : Nat) (hn : 0 < n) : 0 ≤ (60 : Int) / (n : Int) ∧ (60 : Int) / (n : Int) ≤ 60 ∧ (60 : Int) / (n : Int) * n ≤ 60 :=
  ⟨Int.ediv_nonneg (by decide) (by omega), Int.ediv_le_self _ (by decide), Int.ediv_mul_le _ (by omega)⟩
def canRep (l : List Int) (k : Int) : Bool := decide (0 ≤ k) && (decide (l.length = 0) || decide (k ≤ (60 : Int) / (l.length : Int)))
theorem repL_small (l : List Int) (k : Int) (h : canRep l k = true) : (if l.length = 0 then [] else repL l k.toNat).length ≤ 60 := by
  split
  · simp
  · rename_i hl
    unfold canRep at h
    simp only [Bool.and_eq_true, Bool.or_eq_true, decide_eq_true_eq] at h
    obtain ⟨h0, h1⟩ := h
    have h2 := sixty l.length (by omega)
    have h3 : k ≤ (60 : Int) / (l.length : Int) := by rcases h1 with h1 | h1 <;> omega
    rw [repL_length]
    have h4 : k * (l.length : Int) ≤ (60 : Int) / (l.length : Int) * l.length := Int.mul_le_mul_of_nonneg_right h3 (by omega)
    have h5 : ((k.toNat * l.length : Nat) : Int) = k * (l.length : Int) := by rw [Int.natCast_mul, Int.toNat_of_nonneg h0]
    omega

end Go.Proofs.YtciboaihodoglaaL
