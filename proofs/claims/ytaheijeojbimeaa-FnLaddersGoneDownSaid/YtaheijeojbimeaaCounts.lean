/- Plain laws of this session on counting least ladders, and on the ranks of orders. No program in sight. -/
import Derived.Test.YtaheijeojbimeaaCodes
import Derived.Test.YtaheijeojbimeaaLeasts
import Derived.Test.YtaheijeojbimeaaLadders
namespace Go.Proofs.YtaheijeojbimeaaL
open Go.RowKit Go.Proofs.YtaheijeojbimeaaW.PrintWords
set_option linter.unusedVariables false
set_option linter.unusedSimpArgs false

/-- How many least ladders have a result: the falls taken one by one, so many rounds at most. -/
def cntF : Nat → List Int → Nat
  | 0, _ => 0
  | d + 1, p => if (desc p).length = 0 then 1 else ((desc p).map fun x => cntF d (swp p x.toNat (x.toNat + 1))).sum
theorem sum_le (m : Nat) : ∀ l : List Nat, (∀ x ∈ l, x ≤ m) → l.sum ≤ l.length * m
  | [], _ => Nat.zero_le _
  | x :: r, h => by
    have h1 := h x (by simp)
    have h2 := sum_le m r (fun y hy => h y (by simp [hy]))
    simp only [List.sum_cons, List.length_cons, Nat.succ_mul]
    omega
theorem cntF_le : ∀ (d : Nat) (p : List Int), p.length ≤ 8 → cntF d p ≤ 8 ^ d
  | 0, _, _ => Nat.zero_le _
  | d + 1, p, h => by
    rw [cntF]
    split
    · exact Nat.one_le_pow _ _ (by decide)
    · refine Nat.le_trans (sum_le (8 ^ d) _ ?_) ?_
      · intro x hx
        obtain ⟨y, _, rfl⟩ := List.mem_map.1 hx
        exact cntF_le d _ (by rw [swp_length]; exact h)
      · rw [List.length_map, Nat.pow_succ, Nat.mul_comm (8 ^ d)]
        exact Nat.mul_le_mul_right _ (Nat.le_trans (desc_length p) h)
theorem fewer_len (x : Int) : ∀ l : List Int, fewer x l ≤ l.length := fewer_le x
theorem invC_tri : ∀ p : List Int, 2 * invC p ≤ p.length * (p.length - 1)
  | [] => Nat.le_refl _
  | x :: r => by
    have h1 := invC_tri r
    have h2 := fewer_len x r
    rw [invC, List.length_cons, Nat.add_sub_cancel]
    have h3 : (r.length + 1) * r.length = r.length * (r.length - 1) + 2 * r.length := by
      cases r.length with
      | zero => rfl
      | succ n => rw [Nat.add_sub_cancel, Nat.mul_comm (n + 1) n, ← Nat.add_mul]
    omega
theorem invC_six {p : List Int} (h : p.length ≤ 6) : invC p ≤ 15 := by
  have h1 := invC_tri p
  have h2 : p.length * (p.length - 1) ≤ 6 * 5 := Nat.mul_le_mul h (by omega)
  omega
theorem isOrd_swp {p : List Int} (h : isOrd p = true) (j : Nat) (hj : j + 1 < p.length) : isOrd (swp p j (j + 1)) = true := by
  have hl := isOrd_len h
  exact isOrd_of_perm hl.1 hl.2 ((swp_perm p j (j + 1) (by omega) hj).trans (isOrd_perm h))
/-- The rank of an order among all of its length. -/
def rkGo : Int → List Int → Int
  | acc, [] => acc
  | acc, x :: r => rkGo (acc * ((r.length : Int) + 1) + ((fewer x r : Nat) : Int)) r
def rankL (p : List Int) : Int := rkGo 0 p
theorem div_one {a b c e m : Int} (hc : 0 ≤ c) (hc' : c ≤ m) (he : 0 ≤ e) (he' : e ≤ m) (h : a * (m + 1) + c = b * (m + 1) + e) : a = b ∧ c = e := by
  have h1 : (a * (m + 1) + c) / (m + 1) = a := by
    rw [Int.add_comm, Int.add_mul_ediv_right _ _ (by omega), Int.ediv_eq_zero_of_lt hc (by omega), Int.zero_add]
  have h2 : (b * (m + 1) + e) / (m + 1) = b := by
    rw [Int.add_comm, Int.add_mul_ediv_right _ _ (by omega), Int.ediv_eq_zero_of_lt he (by omega), Int.zero_add]
  rw [h] at h1
  have h3 : a = b := h1.symm.trans h2
  subst h3
  exact ⟨rfl, by omega⟩
theorem rkGo_inj : ∀ (p q : List Int) (a b : Int), p.length = q.length → rkGo a p = rkGo b q → a = b ∧ codeR p = codeR q
  | [], [], a, b, _, h => ⟨h, rfl⟩
  | [], _ :: _, _, _, h, _ => by simp at h
  | _ :: _, [], _, _, h, _ => by simp at h
  | x :: p, y :: q, a, b, hl, h => by
    have hl' : p.length = q.length := by simpa using hl
    rw [rkGo, rkGo] at h
    obtain ⟨h1, h2⟩ := rkGo_inj p q _ _ hl' h
    rw [← hl'] at h1
    have h3 := fewer_len x p
    have h4 := fewer_len y q
    obtain ⟨h5, h6⟩ := div_one (by omega) (by omega) (by omega) (by omega) h1
    refine ⟨h5, ?_⟩
    rw [codeR, codeR, h2, h6]
theorem rank_inj {p q : List Int} (hp : isOrd p = true) (hq : isOrd q = true) (hl : p.length = q.length) (h : rankL p = rankL q) : p = q := by
  have h1 := (rkGo_inj p q 0 0 hl h).2
  have h2 : ocL (codeL p) = ocL (codeL q) := by rw [codeL_R, codeL_R, h1]
  rw [ocL_codeL hp, ocL_codeL hq] at h2
  exact Option.some.inj h2
/-- Is there an order of a length that is counted? -/
def cntd (p : List Int) : Bool := isOrd p && (decide (2 ≤ p.length) && decide (p.length ≤ 6))
theorem cntd_iff {p : List Int} : cntd p = true ↔ isOrd p = true ∧ 2 ≤ p.length ∧ p.length ≤ 6 := by simp [cntd]
def fct : Nat → Nat
  | 0 => 1
  | n + 1 => (n + 1) * fct n
theorem rkGo_lt : ∀ (p : List Int) (a : Int), 0 ≤ a → 0 ≤ rkGo a p ∧ rkGo a p < (a + 1) * ((fct p.length : Nat) : Int)
  | [], a, h => by rw [rkGo, List.length_nil, fct]; omega
  | x :: r, a, h => by
    have h3 := fewer_len x r
    have h0 : 0 ≤ a * ((r.length : Int) + 1) + ((fewer x r : Nat) : Int) := by
      have := Int.mul_nonneg h (show (0 : Int) ≤ (r.length : Int) + 1 by omega)
      omega
    obtain ⟨h1, h2⟩ := rkGo_lt r _ h0
    rw [rkGo]
    refine ⟨h1, Int.lt_of_lt_of_le h2 ?_⟩
    rw [List.length_cons, fct, Int.natCast_mul, ← Int.mul_assoc]
    refine Int.mul_le_mul_of_nonneg_right ?_ (Int.natCast_nonneg _)
    rw [Int.add_mul a 1, Int.one_mul]
    have : ((r.length + 1 : Nat) : Int) = (r.length : Int) + 1 := by omega
    rw [this]
    omega
theorem rank_lt (p : List Int) : 0 ≤ rankL p ∧ rankL p < ((fct p.length : Nat) : Int) := by
  have := rkGo_lt p 0 (Int.le_refl _)
  rw [Int.zero_add, Int.one_mul] at this
  exact this
theorem over_inj {w v r : Int} (h : over w r = over v r) : w = v := by
  unfold over at h
  split at h <;> split at h <;> (try split at h) <;> (try split at h) <;> omega
theorem endL_inj : ∀ (l : List Int) (w v : Int), endL w l = endL v l → w = v
  | [], _, _, h => h
  | r :: l, w, v, h => over_inj (endL_inj l _ _ h)
theorem resGo_map (l : List Int) : ∀ d i, resGo l d i = (upFrom d i).map fun w => endL w l
  | 0, _ => rfl
  | d + 1, i => by rw [resGo, upFrom, List.map_cons, resGo_map l d (i + 1)]
/-- The result of a ladder is an order. -/
theorem isOrd_resL {n : Int} {l : List Int} (h : good n l = true) : isOrd (resL n l) = true := by
  have hg := good_iff.1 h
  have hl : (resL n l).length = n.toNat := resL_length n l
  have hm : resL n l = (upFrom n.toNat 0).map fun w => endL w l := resGo_map l _ _
  unfold isOrd
  rw [if_pos (by omega)]
  refine ordGo_of _ _ [] (fun x hx => ?_) ?_
  · rw [hm] at hx
    obtain ⟨w, hw, rfl⟩ := List.mem_map.1 hx
    have h1 := (upFrom_lt n.toNat 0).2 w hw
    have h2 := endL_bounds l w (n := n) (by omega) hg.2.2.2
    exact ⟨h2.1, by omega, by simp⟩
  · rw [hm]
    refine List.Pairwise.map _ (fun a b hab h => ?_) (upFrom_lt n.toNat 0).1
    have := endL_inj l a b h
    omega
/-- A least ladder of few wires. -/
def cLad (n : Int) (l : List Int) : Bool := good n l && (decide (n ≤ 6) && decide (needL n l = 0))
theorem cLad_iff {n : Int} {l : List Int} : cLad n l = true ↔ good n l = true ∧ n ≤ 6 ∧ needL n l = 0 := by simp [cLad]
/-- How many least ladders come before: at each rung those that begin with a lesser one. -/
def rkS (r : Int) (p : List Int) : Nat := ((descGo p r.toNat 0).map fun x => cntF 16 (swp p x.toNat (x.toNat + 1))).sum
def rkLad : List Int → List Int → Nat
  | [], _ => 0
  | r :: rs, p => rkS r p + rkLad rs (swp p r.toNat (r.toNat + 1))
theorem rkS_le (r : Int) (p : List Int) (h : p.length ≤ 8) (hr : r.toNat ≤ 8) : rkS r p ≤ 8 * 8 ^ 16 := by
  unfold rkS
  refine Nat.le_trans (sum_le (8 ^ 16) _ ?_) ?_
  · intro x hx
    obtain ⟨y, _, rfl⟩ := List.mem_map.1 hx
    exact cntF_le 16 _ (by rw [swp_length]; exact h)
  · rw [List.length_map]
    exact Nat.mul_le_mul_right _ (Nat.le_trans (descGo_length p r.toNat 0) hr)
theorem descGo_filter (p : List Int) (r : Nat) : ∀ d i, i ≤ r → r ≤ i + d → (descGo p d i).filter (fun x => decide (x < (r : Int))) = descGo p (r - i) i
  | 0, i, h1, h2 => by rw [show r - i = 0 by omega]; rfl
  | d + 1, i, h1, h2 => by
    by_cases e : i = r
    · subst e
      rw [Nat.sub_self, descGo, List.filter_eq_nil_iff]
      intro x hx
      obtain ⟨j, rfl, hj, _⟩ := descGo_mem p (d + 1) i x (by rw [descGo]; exact hx)
      simp
      omega
    · rw [show r - i = (r - (i + 1)) + 1 by omega, descGo, descGo]
      by_cases f : rd p (i : Int) > rd p ((i : Int) + 1)
      · rw [if_pos f, if_pos f, List.filter_cons, if_pos (by simp; omega), descGo_filter p r d (i + 1) (by omega) (by omega)]
      · rw [if_neg f, if_neg f, descGo_filter p r d (i + 1) (by omega) (by omega)]
end Go.Proofs.YtaheijeojbimeaaL
