/- Plain laws of this session on all least ladders with a result. No program in sight. -/
import Derived.Test.YtnddmmjofpfmfaaCounts
import Derived.Test.YtnddmmjofpfmfaaCycles
namespace Go.Proofs.YtnddmmjofpfmfaaL
open Go.RowKit Go.Proofs.YtnddmmjofpfmfaaW.PrintWords
set_option linter.unusedVariables false
set_option linter.unusedSimpArgs false

/-- The rungs of all least ladders with a result, the falls taken one by one, in order. -/
def listF : Nat → List Int → List (List Int)
  | 0, _ => []
  | d + 1, p => if (desc p).length = 0 then [[]] else (desc p).flatMap fun x => (listF d (swp p x.toNat (x.toNat + 1))).map fun r => x :: r
theorem listF_length : ∀ (d : Nat) (p : List Int), (listF d p).length = cntF d p
  | 0, _ => rfl
  | d + 1, p => by
    unfold listF cntF
    split
    · rfl
    · rw [List.length_flatMap]
      congr 1
      apply List.map_congr_left
      intro x _
      rw [List.length_map, listF_length d]
theorem listF_short : ∀ (d : Nat) (p : List Int), ∀ l ∈ listF d p, l.length < d
  | 0, _ => fun l hl => by cases hl
  | d + 1, p => fun l hl => by
    unfold listF at hl
    split at hl
    · rw [List.mem_singleton] at hl
      rw [hl]
      exact Nat.succ_pos _
    · obtain ⟨x, _, hx⟩ := List.mem_flatMap.1 hl
      obtain ⟨r, hr, rfl⟩ := List.mem_map.1 hx
      have := listF_short d _ r hr
      rw [List.length_cons]; omega
theorem rd_adj {p : List Int} (h : isOrd p = true) (j : Nat) (hj : j + 1 < p.length) : rd p (j : Int) ≠ rd p ((j : Int) + 1) := fun e => by
  have := rd_inj (isOrd_all h).2 (j : Int) ((j : Int) + 1) ⟨by omega, by omega⟩ ⟨by omega, by omega⟩ e
  omega
theorem cnt_part {d : Nat} {p : List Int} {x : Int} (hx : x ∈ desc p) : cntF d (swp p x.toNat (x.toNat + 1)) ≤ cntF (d + 1) p := by
  have h0 : ¬ (desc p).length = 0 := fun e => by rw [List.length_eq_zero_iff.1 e] at hx; cases hx
  have h1 : ∀ (l : List Nat) (y : Nat), y ∈ l → y ≤ l.sum := by
    intro l
    induction l with
    | nil => intro y hy; cases hy
    | cons a l ih =>
      intro y hy
      rw [List.sum_cons]
      rcases List.mem_cons.1 hy with rfl | hy
      · omega
      · have := ih y hy; omega
  have h2 : cntF (d + 1) p = ((desc p).map fun x => cntF d (swp p x.toNat (x.toNat + 1))).sum := by
    rw [cntF, if_neg h0]
  rw [h2]
  exact h1 _ _ (List.mem_map.2 ⟨x, hx, rfl⟩)
theorem mem_desc {p : List Int} {j : Nat} (hj : j + 1 < p.length) (h : rd p (j : Int) > rd p ((j : Int) + 1)) : (j : Int) ∈ desc p := by
  have go : ∀ d i, i ≤ j → j < i + d → (j : Int) ∈ descGo p d i := by
    intro d
    induction d with
    | zero => intro i h1 h2; omega
    | succ d ih =>
      intro i h1 h2
      unfold descGo
      by_cases e : i = j
      · subst e; rw [if_pos h]; exact List.mem_cons_self
      · have := ih (i + 1) (by omega) (by omega)
        split
        · exact List.mem_cons_of_mem _ this
        · exact this
  exact go _ 0 (by omega) (by omega)
end Go.Proofs.YtnddmmjofpfmfaaL
