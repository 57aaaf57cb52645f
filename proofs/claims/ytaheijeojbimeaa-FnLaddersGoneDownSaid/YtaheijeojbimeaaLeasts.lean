/- Plain laws of this session on least ladders: the first fall exchanged as long as there is one. No program in sight. -/
import Derived.Test.YtaheijeojbimeaaPerms
namespace Go.Proofs.YtaheijeojbimeaaL
open Go.RowKit Go.Proofs.YtaheijeojbimeaaW.PrintWords
set_option linter.unusedVariables false
set_option linter.unusedSimpArgs false

theorem invC_fall (p : List Int) (j : Nat) (hj : j + 1 < p.length) (h : rd p (j : Int) > rd p ((j : Int) + 1)) : invC p = invC (swp p j (j + 1)) + 1 := by
  have h' : rd p (j : Int) > rd p ((j + 1 : Nat) : Int) := h
  have e1 := split_two p j (j + 1) (by omega) hj
  have e2 := swp_split p j (j + 1) (by omega) hj
  simp only [Nat.sub_self, List.take_zero, List.nil_append] at e1 e2
  have := invC_swap (p.take j) (rd p (j : Int)) (rd p ((j + 1 : Nat) : Int)) (p.drop (j + 1 + 1))
  rw [← e1, ← e2, if_neg (by omega), if_pos (by omega)] at this
  omega
/-- The first least ladder's rungs, with so many rounds at most. -/
def leastF : Nat → List Int → List Int
  | 0, _ => []
  | k + 1, p => match desc p with
    | [] => []
    | a :: _ => a :: leastF k (swp p a.toNat (a.toNat + 1))
def leastL (p : List Int) : List Int := leastF (invC p) p
theorem leastF_length : ∀ k p, (leastF k p).length ≤ k
  | 0, _ => Nat.le_refl _
  | k + 1, p => by
    rw [leastF]
    split
    · exact Nat.zero_le _
    · have := leastF_length k (swp p (‹Int›).toNat ((‹Int›).toNat + 1))
      simp only [List.length_cons]; omega
theorem desc_head {p : List Int} {a : Int} {r : List Int} (h : desc p = a :: r) : ∃ j : Nat, a = (j : Int) ∧ j + 1 < p.length ∧ rd p (j : Int) > rd p ((j : Int) + 1) ∧ invC p = invC (swp p j (j + 1)) + 1 := by
  obtain ⟨j, e, hj, hr⟩ := desc_mem (p := p) (x := a) (by rw [h]; exact List.mem_cons_self)
  exact ⟨j, e, hj, hr, invC_fall p j hj hr⟩
theorem leastL_nil {p : List Int} (h : desc p = []) : leastL p = [] := by
  unfold leastL
  cases e : invC p with
  | zero => rfl
  | succ k => rw [leastF, h]
theorem leastL_cons {p : List Int} {a : Int} {r : List Int} (h : desc p = a :: r) : leastL p = a :: leastL (swp p a.toNat (a.toNat + 1)) := by
  obtain ⟨j, rfl, hj, hr, hc⟩ := desc_head h
  unfold leastL
  rw [hc, leastF, h]
  simp only [toNat_cast]
theorem invC_le (p : List Int) (h : p.length ≤ 8) : invC p ≤ 64 := by
  have := invs_length p h
  rw [invs_invC] at this; exact this
theorem leastL_length (p : List Int) (h : p.length ≤ 8) : (leastL p).length ≤ 64 := Nat.le_trans (leastF_length _ _) (invC_le p h)
theorem upFrom_snoc : ∀ d i, upFrom (d + 1) i = upFrom d i ++ [((i + d : Nat) : Int)]
  | 0, i => rfl
  | d + 1, i => by
    rw [upFrom, upFrom_snoc d (i + 1), upFrom, show i + 1 + d = i + (d + 1) by omega]; rfl
theorem ident_succ (n : Nat) : ident (n + 1) = ident n ++ [(n : Int)] := by
  have := upFrom_snoc n 0
  rwa [Nat.zero_add] at this
end Go.Proofs.YtaheijeojbimeaaL
