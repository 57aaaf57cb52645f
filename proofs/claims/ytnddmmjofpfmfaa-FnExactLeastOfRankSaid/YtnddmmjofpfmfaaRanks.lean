/- Plain laws of this session on the least ladder of a rank. No program in sight. -/
import Derived.Test.YtnddmmjofpfmfaaCounts
namespace Go.Proofs.YtnddmmjofpfmfaaL
open Go.RowKit Go.Proofs.YtnddmmjofpfmfaaW.PrintWords
set_option linter.unusedVariables false
set_option linter.unusedSimpArgs false

theorem cntF_stable : ∀ (d : Nat) (p : List Int), invC p < d → cntF d p = cntF (d + 1) p
  | 0, p, h => by omega
  | d + 1, p, h => by
    rw [cntF, cntF]
    split
    · rfl
    · congr 1
      apply List.map_congr_left
      intro x hx
      obtain ⟨j, rfl, hj, hr⟩ := desc_mem hx
      have := invC_fall p j hj hr
      rw [toNat_cast]
      exact cntF_stable d _ (by omega)
def cnt16 (p : List Int) (x : Int) : Nat := cntF 16 (swp p x.toNat (x.toNat + 1))
/-- All least ladders of a result: those that begin with each fall. -/
theorem cntF_sum {p : List Int} (h : invC p ≤ 15) (hd : desc p ≠ []) : cntF 16 p = ((desc p).map (cnt16 p)).sum := by
  have e : ∀ d, invC p ≤ d → ((desc p).map fun x => cntF d (swp p x.toNat (x.toNat + 1))) = (desc p).map fun x => cntF (d + 1) (swp p x.toNat (x.toNat + 1)) := fun d hdd => by
    apply List.map_congr_left
    intro x hx
    obtain ⟨j, rfl, hj, hr⟩ := desc_mem hx
    have := invC_fall p j hj hr
    rw [toNat_cast]
    exact cntF_stable d _ (by omega)
  have e2 : ∀ d, cntF (d + 1) p = ((desc p).map fun x => cntF d (swp p x.toNat (x.toNat + 1))).sum := fun d => by rw [cntF, if_neg (by rw [List.length_eq_zero_iff]; exact hd)]
  exact (e2 15).trans (congrArg List.sum (e 15 h))
/-- The first rung of the ladder of a rank, and the rank among those that begin so. -/
def pickL (p : List Int) : List Int → Nat → Option (Int × Nat)
  | [], _ => none
  | x :: ds, r => if r < cnt16 p x then some (x, r) else pickL p ds (r - cnt16 p x)
theorem pickL_some (p : List Int) : ∀ (ds : List Int) (r : Nat), r < (ds.map (cnt16 p)).sum → ∃ x r', pickL p ds r = some (x, r') ∧ x ∈ ds ∧ r' < cnt16 p x
  | [], r, h => by simp at h
  | x :: ds, r, h => by
    rw [List.map_cons, List.sum_cons] at h
    unfold pickL
    by_cases e : r < cnt16 p x
    · rw [if_pos e]; exact ⟨x, r, rfl, by simp, e⟩
    · rw [if_neg e]
      obtain ⟨y, r', h1, h2, h3⟩ := pickL_some p ds (r - cnt16 p x) (by omega)
      exact ⟨y, r', h1, by simp [h2], h3⟩
def lorF : Nat → List Int → Nat → List Int
  | 0, _, _ => []
  | k + 1, p, r => match pickL p (desc p) r with
    | none => []
    | some (x, r') => x :: lorF k (swp p x.toNat (x.toNat + 1)) r'
theorem lorF_length : ∀ k p r, (lorF k p r).length ≤ k
  | 0, _, _ => Nat.le_refl _
  | k + 1, p, r => by
    rw [lorF]
    split
    · exact Nat.zero_le _
    · have := lorF_length k (swp p (‹Int›).toNat ((‹Int›).toNat + 1)) ‹Nat›
      simp only [List.length_cons]; omega
theorem cnt16_le (p : List Int) (x : Int) (h : p.length ≤ 8) : cnt16 p x ≤ 8 ^ 16 := cntF_le 16 _ (by rw [swp_length]; exact h)
/-- The order falls somewhere, or each number is at its place. -/
theorem desc_nil_inv {p : List Int} (h : desc p = []) (hn : isOrd p = true) : invC p = 0 := by
  have ha := isOrd_all hn
  have hp : p.Pairwise (· ≤ ·) := by
    have hd : ∀ i : Nat, i + 1 < p.length → rd p (i : Int) ≤ rd p ((i + 1 : Nat) : Int) := fun i hi => by
      refine Int.not_lt.1 (fun e => ?_)
      have := (desc_iff p i hi).2 e
      rw [h] at this; cases this
    have hm : ∀ (d i : Nat), i + d < p.length → rd p (i : Int) ≤ rd p ((i + d : Nat) : Int) := by
      intro d
      induction d with
      | zero => intro i _; exact Int.le_refl _
      | succ d ih =>
        intro i hi
        have h1 := ih i (by omega)
        have h2 := hd (i + d) (by omega)
        exact Int.le_trans h1 h2
    rw [List.pairwise_iff_getElem]
    intro i j hi hj hij
    have := hm (j - i) i (by omega)
    rw [show i + (j - i) = j by omega, rd_lt p i hi, rd_lt p j hj] at this
    exact this
  exact invC_sorted p hp
def lorM (p : List Int) (r : Int) : Int × List Int × Bool := if cntd p = true ∧ 0 ≤ r ∧ r < ((cntF 16 p : Nat) : Int) then ((p.length : Int), lorF (invC p) p r.toNat, true) else (0, [], false)
end Go.Proofs.YtnddmmjofpfmfaaL
