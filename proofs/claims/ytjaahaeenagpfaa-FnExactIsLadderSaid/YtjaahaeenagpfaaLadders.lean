/- Plain laws of this session on ladders: which are ones; the ways down; results; meetings. No program in sight. -/
import Derived.Test.YtjaahaeenagpfaaOrders
namespace Go.Proofs.YtjaahaeenagpfaaL
open Go.RowKit Go.Proofs.YtjaahaeenagpfaaW.PrintWords
set_option linter.unusedVariables false

def inB (n : Int) (x : Int) : Bool := decide (0 ≤ x) && decide (x ≤ n - 2)
/-- Is it a ladder? -/
def good (n : Int) (l : List Int) : Bool := decide (2 ≤ n) && decide (n ≤ 8) && decide (l.length ≤ 60) && l.all (inB n)
theorem good_iff {n : Int} {l : List Int} : good n l = true ↔ 2 ≤ n ∧ n ≤ 8 ∧ l.length ≤ 60 ∧ ∀ x ∈ l, 0 ≤ x ∧ x ≤ n - 2 := by
  unfold good inB
  simp only [Bool.and_eq_true, decide_eq_true_eq, List.all_eq_true, and_assoc]
theorem good_rd {n : Int} {l : List Int} (h : good n l = true) (i : Nat) (hi : i < l.length) : 0 ≤ rd l (i : Int) ∧ rd l (i : Int) ≤ n - 2 := (good_iff.1 h).2.2.2 _ (rd_mem l i hi)
/-- The wire behind a rung. -/
def over (w r : Int) : Int := if w = r then r + 1 else if w = r + 1 then r else w
/-- The wires on which one is, at first and behind each rung. -/
def wayL (w : Int) : List Int → List Int
  | [] => [w]
  | r :: l => w :: wayL (over w r) l
/-- The wire at whose bottom one comes out. -/
def endL (w : Int) : List Int → Int
  | [] => w
  | r :: l => endL (over w r) l
theorem wayL_length (w : Int) (l : List Int) : (wayL w l).length = l.length + 1 := by
  induction l generalizing w with
  | nil => rfl
  | cons r l ih => simp [wayL, ih]
theorem wayL_last (w : Int) (l : List Int) : rd (wayL w l) (l.length : Int) = endL w l := by
  induction l generalizing w with
  | nil => rfl
  | cons r l ih =>
    rw [rd_cast, wayL, endL, List.length_cons, List.getD_cons_succ, ← rd_cast]
    exact ih _
theorem over_bounds {n w r : Int} (hw : 0 ≤ w ∧ w ≤ n - 1) (hr : 0 ≤ r ∧ r ≤ n - 2) : 0 ≤ over w r ∧ over w r ≤ n - 1 := by
  unfold over
  split
  · omega
  · split <;> omega
theorem endL_bounds {n : Int} : ∀ (l : List Int) (w : Int), 0 ≤ w ∧ w ≤ n - 1 → (∀ x ∈ l, 0 ≤ x ∧ x ≤ n - 2) → 0 ≤ endL w l ∧ endL w l ≤ n - 1
  | [], w, hw, _ => hw
  | r :: l, w, hw, hr => endL_bounds l _ (over_bounds hw (hr r (by simp))) (fun x hx => hr x (by simp [hx]))
theorem wayL_bounds {n : Int} : ∀ (l : List Int) (w : Int), 0 ≤ w ∧ w ≤ n - 1 → (∀ x ∈ l, 0 ≤ x ∧ x ≤ n - 2) → ∀ y ∈ wayL w l, 0 ≤ y ∧ y ≤ n - 1
  | [], w, hw, _, y, hy => by
    simp only [wayL, List.mem_singleton] at hy
    subst hy; exact hw
  | r :: l, w, hw, hr, y, hy => by
    simp only [wayL, List.mem_cons] at hy
    rcases hy with rfl | hy
    · exact hw
    · exact wayL_bounds l _ (over_bounds hw (hr r (by simp))) (fun x hx => hr x (by simp [hx])) y hy
/-- The result of rungs on so many wires. -/
def resGo (l : List Int) : Nat → Nat → List Int
  | 0, _ => []
  | d + 1, i => endL (i : Int) l :: resGo l d (i + 1)
def resL (n : Int) (l : List Int) : List Int := resGo l n.toNat 0
theorem resGo_length (l : List Int) : ∀ d i, (resGo l d i).length = d
  | 0, _ => rfl
  | d + 1, i => by simp [resGo, resGo_length l d]
theorem resL_length (n : Int) (l : List Int) : (resL n l).length = n.toNat := resGo_length l _ _
end Go.Proofs.YtjaahaeenagpfaaL
