/- Plain laws of this session on ladders: which are ones; the ways down; results; meetings. No program in sight. -/
import Derived.Test.YtnddmmjofpfmfaaOrders
namespace Go.Proofs.YtnddmmjofpfmfaaL
open Go.RowKit Go.Proofs.YtnddmmjofpfmfaaW.PrintWords
set_option linter.unusedVariables false
set_option linter.unusedSimpArgs false

def inB (n : Int) (x : Int) : Bool := decide (0 ≤ x) && decide (x ≤ n - 2)
/-- Is it a ladder? -/
def good (n : Int) (l : List Int) : Bool := decide (2 ≤ n) && decide (n ≤ 8) && decide (l.length ≤ 60) && l.all (inB n)
theorem good_iff {n : Int} {l : List Int} : good n l = true ↔ 2 ≤ n ∧ n ≤ 8 ∧ l.length ≤ 60 ∧ ∀ x ∈ l, 0 ≤ x ∧ x ≤ n - 2 := by
  unfold good inB
  simp only [Bool.and_eq_true, decide_eq_true_eq, List.all_eq_true, and_assoc]
theorem good_rd {n : Int} {l : List Int} (h : good n l = true) (i : Nat) (hi : i < l.length) : 0 ≤ rd l (i : Int) ∧ rd l (i : Int) ≤ n - 2 := (good_iff.1 h).2.2.2 _ (rd_mem l i hi)
/-- Is it a ladder, and a wire of it? -/
def hasW (n : Int) (l : List Int) (w : Int) : Bool := good n l && (decide (0 ≤ w) && decide (w ≤ n - 1))
theorem hasW_iff {n : Int} {l : List Int} {w : Int} : hasW n l w = true ↔ good n l = true ∧ 0 ≤ w ∧ w ≤ n - 1 := by
  unfold hasW
  simp only [Bool.and_eq_true, decide_eq_true_eq]
/-- The wire behind a rung. -/
def over (w r : Int) : Int := if w = r then r + 1 else if w = r + 1 then r else w
/-- The wires on which one is behind each rung. -/
def wayT (w : Int) : List Int → List Int
  | [] => []
  | r :: l => over w r :: wayT (over w r) l
def wayL (w : Int) (l : List Int) : List Int := w :: wayT w l
/-- The wire at whose bottom one comes out. -/
def endL (w : Int) : List Int → Int
  | [] => w
  | r :: l => endL (over w r) l
theorem wayT_length (w : Int) (l : List Int) : (wayT w l).length = l.length := by
  induction l generalizing w with
  | nil => rfl
  | cons r l ih => simp [wayT, ih]
theorem wayL_length (w : Int) (l : List Int) : (wayL w l).length = l.length + 1 := by simp [wayL, wayT_length]
theorem rd_cons_succ (x : Int) (l : List Int) (i : Nat) : rd (x :: l) ((i + 1 : Nat) : Int) = rd l (i : Int) := by
  rw [rd_cast, rd_cast, List.getD_cons_succ]
theorem rd_cons_zero (x : Int) (l : List Int) : rd (x :: l) ((0 : Nat) : Int) = x := rfl
/-- At each place: the wire behind so many rungs. -/
theorem wayL_rd (w : Int) (l : List Int) : ∀ i : Nat, i ≤ l.length → rd (wayL w l) (i : Int) = endL w (l.take i) := by
  induction l generalizing w with
  | nil => intro i hi; obtain rfl : i = 0 := by simpa using hi
           rfl
  | cons r l ih =>
    intro i hi
    cases i with
    | zero => rfl
    | succ i =>
      rw [wayL, rd_cons_succ, List.take_succ_cons, endL]
      exact ih (over w r) i (by simpa using hi)
theorem wayL_last (w : Int) (l : List Int) : rd (wayL w l) (l.length : Int) = endL w l := by
  rw [wayL_rd w l l.length (Nat.le_refl _), List.take_length]
theorem endL_append (w : Int) (a b : List Int) : endL w (a ++ b) = endL (endL w a) b := by
  induction a generalizing w with
  | nil => rfl
  | cons r a ih => exact ih _
theorem wayL_next (w : Int) (l : List Int) (i : Nat) (hi : i < l.length) : rd (wayL w l) ((i + 1 : Nat) : Int) = over (rd (wayL w l) (i : Int)) (rd l (i : Int)) := by
  rw [wayL_rd w l (i + 1) hi, wayL_rd w l i (by omega), take_rd l i hi, endL_append]
  rfl
theorem over_bounds {n w r : Int} (hw : 0 ≤ w ∧ w ≤ n - 1) (hr : 0 ≤ r ∧ r ≤ n - 2) : 0 ≤ over w r ∧ over w r ≤ n - 1 := by
  unfold over
  split
  · omega
  · split <;> omega
theorem endL_bounds {n : Int} : ∀ (l : List Int) (w : Int), 0 ≤ w ∧ w ≤ n - 1 → (∀ x ∈ l, 0 ≤ x ∧ x ≤ n - 2) → 0 ≤ endL w l ∧ endL w l ≤ n - 1
  | [], w, hw, _ => hw
  | r :: l, w, hw, hr => endL_bounds l _ (over_bounds hw (hr r (by simp))) (fun x hx => hr x (by simp [hx]))
/-- The result of rungs on so many wires. -/
def resGo (l : List Int) : Nat → Nat → List Int
  | 0, _ => []
  | d + 1, i => endL (i : Int) l :: resGo l d (i + 1)
def resL (n : Int) (l : List Int) : List Int := resGo l n.toNat 0
theorem resGo_length (l : List Int) : ∀ d i, (resGo l d i).length = d
  | 0, _ => rfl
  | d + 1, i => by simp [resGo, resGo_length l d]
theorem resL_length (n : Int) (l : List Int) : (resL n l).length = n.toNat := resGo_length l _ _
/-- The indices of the rungs that one goes over. -/
def usedGo (ws : List Int) : Nat → Nat → List Int
  | 0, _ => []
  | d + 1, i => if rd ws (i : Int) = rd ws ((i + 1 : Nat) : Int) then usedGo ws d (i + 1) else (i : Int) :: usedGo ws d (i + 1)
def usedL (w : Int) (l : List Int) : List Int := usedGo (wayL w l) l.length 0
theorem usedGo_length (ws : List Int) : ∀ d i, (usedGo ws d i).length ≤ d
  | 0, _ => Nat.le_refl _
  | d + 1, i => by
    unfold usedGo
    have := usedGo_length ws d (i + 1)
    split
    · omega
    · simp; omega
theorem usedL_length (w : Int) (l : List Int) : (usedL w l).length ≤ l.length := usedGo_length _ _ _
/-- At how many rungs two meet. -/
def meetGo (a b : Int) : List Int → Nat
  | [] => 0
  | r :: l => (if over a r = b ∧ over b r = a then 1 else 0) + meetGo (over a r) (over b r) l
theorem meetGo_le (l : List Int) : ∀ a b, meetGo a b l ≤ l.length := by
  induction l with
  | nil => intro a b; exact Nat.le_refl _
  | cons r l ih =>
    intro a b
    have := ih (over a r) (over b r)
    unfold meetGo
    rw [List.length_cons]
    split <;> omega
/-- The first two, from a place on, who meet more than once. -/
def twiceIn (l : List Int) (a : Nat) : Nat → Nat → Option (List Int)
  | 0, _ => none
  | d + 1, b => if meetGo (a : Int) (b : Int) l > 1 then some [(a : Int), (b : Int)] else twiceIn l a d (b + 1)
def twiceGo (l : List Int) (n : Nat) : Nat → Nat → Option (List Int)
  | 0, _ => none
  | d + 1, a => match twiceIn l a (n - (a + 1)) (a + 1) with
    | some r => some r
    | none => twiceGo l n d (a + 1)
def twiceL (n : Int) (l : List Int) : Option (List Int) := twiceGo l n.toNat n.toNat 0
theorem twiceIn_length (l : List Int) (a : Nat) : ∀ d b r, twiceIn l a d b = some r → r.length = 2
  | 0, _, _, h => by cases h
  | d + 1, b, r, h => by
    unfold twiceIn at h
    split at h
    · cases h; rfl
    · exact twiceIn_length l a d _ r h
theorem twiceGo_length (l : List Int) (n : Nat) : ∀ d a r, twiceGo l n d a = some r → r.length = 2
  | 0, _, _, h => by cases h
  | d + 1, a, r, h => by
    unfold twiceGo at h
    split at h
    · rename_i r' h'
      cases h
      exact twiceIn_length l a _ _ _ h'
    · exact twiceGo_length l n d _ r h
/-- How many rungs a ladder has more than a least one. -/
def needL (n : Int) (l : List Int) : Int := (l.length : Int) - ((invs (resL n l)).length : Int)
theorem needL_bounds {n : Int} {l : List Int} (h : good n l = true) : -64 ≤ needL n l ∧ needL n l ≤ 60 := by
  obtain ⟨h1, h2, h3, _⟩ := good_iff.1 h
  have := invs_length (resL n l) (by rw [resL_length]; omega)
  unfold needL
  omega
end Go.Proofs.YtnddmmjofpfmfaaL
