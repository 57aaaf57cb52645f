/- Plain laws of this session on the codes of orders: code and order lead back to each other. No program in sight. -/
import Derived.Test.YtaheijeojbimeaaPerms
namespace Go.Proofs.YtaheijeojbimeaaL
open Go.RowKit Go.Proofs.YtaheijeojbimeaaW.PrintWords
set_option linter.unusedVariables false
set_option linter.unusedSimpArgs false

def codeR : List Int → List Int
  | [] => []
  | x :: r => ((fewer x r : Nat) : Int) :: codeR r
theorem codeGo_R (p : List Int) : ∀ d i, i + d = p.length → codeGo p d i = codeR (p.drop i)
  | 0, i, h => by rw [List.drop_eq_nil_of_le (by omega)]; rfl
  | d + 1, i, h => by
    rw [codeGo, drop_rd p i (by omega), codeR, codeGo_R p d (i + 1) (by omega), fewer_row p i (p.length - (i + 1)) (i + 1) (by omega)]
theorem codeL_R (p : List Int) : codeL p = codeR p := by
  have := codeGo_R p p.length 0 (by omega)
  rwa [List.drop_zero] at this
theorem fewer_perm (x : Int) {a b : List Int} (h : a.Perm b) : fewer x a = fewer x b := by
  induction h with
  | nil => rfl
  | cons y _ ih => rw [fewer, fewer, ih]
  | swap y z l => rw [fewer, fewer, fewer, fewer]; omega
  | trans _ _ h1 h2 => rw [h1, h2]
theorem fewer_all (y : Int) : ∀ l : List Int, (∀ z ∈ l, z < y) → fewer y l = l.length
  | [], _ => rfl
  | z :: r, h => by
    rw [fewer, if_pos (h z List.mem_cons_self), fewer_all y r (fun w hw => h w (List.mem_cons_of_mem _ hw)), List.length_cons]; omega
theorem fewer_none (y : Int) : ∀ l : List Int, (∀ z ∈ l, ¬ z < y) → fewer y l = 0
  | [], _ => rfl
  | z :: r, h => by
    rw [fewer, if_neg (h z List.mem_cons_self), fewer_none y r (fun w hw => h w (List.mem_cons_of_mem _ hw))]
theorem sorted_mid {a b : List Int} {y : Int} (h : (a ++ y :: b).Pairwise (· < ·)) : fewer y (a ++ b) = a.length ∧ (a ++ b).Pairwise (· < ·) := by
  rw [List.pairwise_append, List.pairwise_cons] at h
  obtain ⟨h1, ⟨h2, h3⟩, h4⟩ := h
  refine ⟨?_, ?_⟩
  · rw [fewer_append, fewer_all y a (fun z hz => h4 z hz y List.mem_cons_self), fewer_none y b (fun z hz => by have := h2 z hz; omega), Nat.add_zero]
  · rw [List.pairwise_append]
    exact ⟨h1, h3, fun x hx z hz => h4 x hx z (List.mem_cons_of_mem _ hz)⟩
theorem rd_mid (a b : List Int) (y : Int) : rd (a ++ y :: b) ((a.length : Nat) : Int) = y := by
  rw [rd_lt _ _ (by simp)]; simp
theorem woL_mid (a b : List Int) (y : Int) : woL (a ++ y :: b) ((a.length : Nat) : Int) = a ++ b := by
  unfold woL
  rw [toNat_cast]
  have e2 : (a ++ y :: b).drop (a.length + 1) = b := by
    rw [show a ++ y :: b = (a ++ [y]) ++ b by simp]
    exact List.drop_left' (by simp)
  rw [e2, List.take_left' rfl]
theorem ocGo_code : ∀ (c left acc q : List Int), left.Pairwise (· < ·) → c.length = left.length → ocGo left acc c = some q → ∃ t, q = acc ++ t ∧ codeR t = c ∧ t.Perm left
  | [], left, acc, q, _, hl, h => by
    obtain rfl : left = [] := List.eq_nil_of_length_eq_zero (by simpa using hl.symm)
    cases h
    exact ⟨[], by simp, rfl, List.Perm.nil⟩
  | x :: r, left, acc, q, hs, hl, h => by
    rw [ocGo] at h
    split at h
    · rename_i hx
      obtain ⟨k, rfl⟩ := Int.eq_ofNat_of_zero_le hx.1
      have hk : k < left.length := by omega
      obtain ⟨a, y, b, ha, rfl⟩ : ∃ a y b, a.length = k ∧ left = a ++ y :: b := ⟨left.take k, rd left (k : Int), left.drop (k + 1), by rw [List.length_take]; omega, by rw [← drop_rd left k hk, List.take_append_drop]⟩
      subst ha
      obtain ⟨h1, h2⟩ := sorted_mid hs
      rw [rd_mid, woL_mid] at h
      obtain ⟨t, e1, e2, e3⟩ := ocGo_code r (a ++ b) (acc ++ [y]) q h2 (by simp at hl ⊢; omega) h
      refine ⟨y :: t, by rw [e1, List.append_assoc]; rfl, ?_, ?_⟩
      · rw [codeR, e2, fewer_perm y e3, h1]
      · exact (e3.cons y).trans List.perm_middle.symm
    · cases h
theorem ocGo_order : ∀ (p left acc : List Int), left.Pairwise (· < ·) → p.Perm left → ocGo left acc (codeR p) = some (acc ++ p)
  | [], left, acc, _, _ => by rw [codeR, ocGo, List.append_nil]
  | y :: r, left, acc, hs, hp => by
    obtain ⟨a, b, rfl⟩ := List.append_of_mem (hp.subset List.mem_cons_self)
    have hr : r.Perm (a ++ b) := (hp.trans List.perm_middle).cons_inv
    obtain ⟨h1, h2⟩ := sorted_mid hs
    rw [codeR, fewer_perm y hr, h1, ocGo, if_pos ⟨Int.natCast_nonneg _, by simp; omega⟩, woL_mid, rd_mid, ocGo_order r (a ++ b) _ h2 hr, List.append_assoc]; rfl
theorem upFrom_lt : ∀ d i, (upFrom d i).Pairwise (· < ·) ∧ ∀ x ∈ upFrom d i, (i : Int) ≤ x ∧ x < ((i + d : Nat) : Int)
  | 0, i => ⟨List.Pairwise.nil, fun x hx => by cases hx⟩
  | d + 1, i => by
    obtain ⟨h1, h2⟩ := upFrom_lt d (i + 1)
    rw [upFrom]
    refine ⟨List.pairwise_cons.2 ⟨fun x hx => by have := h2 x hx; omega, h1⟩, fun x hx => ?_⟩
    rcases List.mem_cons.1 hx with rfl | hx
    · omega
    · have := h2 x hx; omega
theorem upFrom_has : ∀ (d i : Nat) (x : Int), (i : Int) ≤ x → x < ((i + d : Nat) : Int) → x ∈ upFrom d i
  | 0, i, x, h1, h2 => by omega
  | d + 1, i, x, h1, h2 => by
    rw [upFrom]
    by_cases e : x = i
    · rw [e]; exact List.mem_cons_self
    · exact List.mem_cons_of_mem _ (upFrom_has d (i + 1) x (by omega) (by omega))
theorem ident_lt (n : Nat) : (ident n).Pairwise (· < ·) := (upFrom_lt n 0).1
theorem perm_subset : ∀ (p l : List Int), p.Nodup → (∀ x ∈ p, x ∈ l) → p.length = l.length → p.Perm l
  | [], l, _, _, h => by
    obtain rfl : l = [] := List.eq_nil_of_length_eq_zero (by simpa using h.symm)
    exact List.Perm.nil
  | x :: r, l, hn, hs, hl => by
    obtain ⟨a, b, rfl⟩ := List.append_of_mem (hs x List.mem_cons_self)
    obtain ⟨n1, n2⟩ := List.nodup_cons.1 hn
    have := perm_subset r (a ++ b) n2 (fun z hz => by
      have := hs z (List.mem_cons_of_mem _ hz)
      rw [List.mem_append, List.mem_cons] at this
      rw [List.mem_append]
      rcases this with h | rfl | h
      · exact .inl h
      · exact absurd hz n1
      · exact .inr h) (by simp at hl ⊢; omega)
    exact (this.cons x).trans List.perm_middle.symm
theorem isOrd_perm {p : List Int} (h : isOrd p = true) : p.Perm (ident p.length) := by
  obtain ⟨h1, h2⟩ := isOrd_all h
  refine perm_subset p _ h2 (fun x hx => ?_) (by rw [ident_length])
  have := h1 x hx
  exact upFrom_has _ 0 x (by omega) (by omega)
theorem ordGo_of (n : Int) : ∀ (r pre : List Int), (∀ x ∈ r, 0 ≤ x ∧ x ≤ n - 1 ∧ x ∉ pre) → r.Nodup → ordGo n pre r = true
  | [], _, _, _ => rfl
  | x :: r, pre, h, hn => by
    obtain ⟨n1, n2⟩ := List.nodup_cons.1 hn
    have hx := h x List.mem_cons_self
    rw [ordGo_cons, if_pos ⟨hx.1, hx.2.1⟩, if_neg hx.2.2]
    exact ordGo_of n r _ (fun z hz => by
      have := h z (List.mem_cons_of_mem _ hz)
      refine ⟨this.1, this.2.1, fun hm => ?_⟩
      rcases List.mem_append.1 hm with h3 | h3
      · exact this.2.2 h3
      · simp only [List.mem_singleton] at h3
        exact n1 (h3 ▸ hz)) n2
theorem isOrd_of_perm {p : List Int} {n : Nat} (h1 : 1 ≤ n) (h8 : n ≤ 8) (h : p.Perm (ident n)) : isOrd p = true := by
  have hl : p.length = n := by rw [h.length_eq, ident_length]
  unfold isOrd
  rw [if_pos ⟨by omega, by omega⟩]
  refine ordGo_of _ p [] (fun x hx => ?_) ?_
  · have := (upFrom_lt n 0).2 x (h.subset hx)
    exact ⟨by omega, by omega, by simp⟩
  · exact (h.nodup_iff).2 ((ident_lt n).imp (fun hab => Int.ne_of_lt hab))
/-- The order of an order's code is that order. -/
theorem ocL_codeL {p : List Int} (h : isOrd p = true) : ocL (codeL p) = some p := by
  unfold ocL
  rw [codeL_length, codeL_R, ocGo_order p _ [] (ident_lt _) (isOrd_perm h)]; rfl
/-- The code of a code's order is that code, and it is an order. -/
theorem codeL_ocL {c q : List Int} (h1 : 1 ≤ c.length) (h8 : c.length ≤ 8) (h : ocL c = some q) : codeL q = c ∧ isOrd q = true := by
  obtain ⟨t, e1, e2, e3⟩ := ocGo_code c _ [] q (ident_lt _) (by rw [ident_length]) h
  rw [List.nil_append] at e1
  subst e1
  exact ⟨by rw [codeL_R, e2], isOrd_of_perm h1 h8 e3⟩
theorem fewer_le (x : Int) : ∀ l : List Int, fewer x l ≤ l.length
  | [] => Nat.le_refl _
  | z :: r => by
    have := fewer_le x r
    rw [fewer, List.length_cons]; split <;> omega
theorem codeR_bounds : ∀ (l : List Int), ∀ x ∈ codeR l, 0 ≤ x ∧ x ≤ (l.length : Int)
  | [], x, hx => by cases hx
  | y :: r, x, hx => by
    rw [codeR] at hx
    rw [List.length_cons]
    rcases List.mem_cons.1 hx with rfl | hx
    · have := fewer_le y r; omega
    · have := codeR_bounds r x hx; omega
def sumL : List Int → Int
  | [] => 0
  | x :: r => x + sumL r
theorem sum_codeR : ∀ p, sumL (codeR p) = ((invC p : Nat) : Int)
  | [] => rfl
  | x :: r => by rw [codeR, sumL, sum_codeR r, invC]; omega
theorem fewer_mono (x y : Int) (h : x ≤ y) : ∀ l, fewer x l ≤ fewer y l
  | [] => Nat.le_refl _
  | z :: r => by
    have := fewer_mono x y h r
    rw [fewer, fewer]
    by_cases e : z < x
    · rw [if_pos e, if_pos (by omega)]; omega
    · rw [if_neg e]; omega
theorem rd_codeR : ∀ (l : List Int) (i : Nat), i < l.length → rd (codeR l) (i : Int) = ((fewer (rd l (i : Int)) (l.drop (i + 1)) : Nat) : Int)
  | [], i, h => by simp at h
  | x :: r, 0, _ => rfl
  | x :: r, i + 1, h => by
    have := rd_codeR r i (by simpa using h)
    rw [codeR, rd_cast, List.getD_cons_succ, ← rd_cast, this, rd_cast (x :: r), List.getD_cons_succ, ← rd_cast]
    rfl
theorem code_falls (p : List Int) (hn : p.Nodup) (i : Nat) (h : i + 1 < p.length) : rd (codeL p) (i : Int) > rd (codeL p) ((i + 1 : Nat) : Int) ↔ rd p (i : Int) > rd p ((i + 1 : Nat) : Int) := by
  rw [codeL_R, rd_codeR p i (by omega), rd_codeR p (i + 1) h, drop_rd p (i + 1) h, fewer]
  constructor
  · intro hc
    rcases Int.lt_or_le (rd p ((i + 1 : Nat) : Int)) (rd p (i : Int)) with e | e
    · exact e
    · have := fewer_mono _ _ e (p.drop (i + 1 + 1))
      rw [if_neg (by omega)] at hc
      omega
  · intro hc
    have := fewer_mono _ _ (Int.le_of_lt hc) (p.drop (i + 1 + 1))
    rw [if_pos hc]; omega
theorem descGo_has (p : List Int) : ∀ d i (j : Nat), i ≤ j → j < i + d → rd p (j : Int) > rd p ((j : Int) + 1) → (j : Int) ∈ descGo p d i
  | 0, i, j, h1, h2, _ => by omega
  | d + 1, i, j, h1, h2, h => by
    rw [descGo]
    by_cases e : j = i
    · subst e; rw [if_pos h]; exact List.mem_cons_self
    · have := descGo_has p d (i + 1) j (by omega) (by omega) h
      split
      · exact List.mem_cons_of_mem _ this
      · exact this
theorem desc_iff (p : List Int) (j : Nat) (hj : j + 1 < p.length) : (j : Int) ∈ desc p ↔ rd p (j : Int) > rd p ((j + 1 : Nat) : Int) := by
  constructor
  · intro h
    obtain ⟨k, e, _, h2⟩ := desc_mem h
    obtain rfl : j = k := by omega
    exact h2
  · intro h
    exact descGo_has p _ 0 j (by omega) (by omega) h
end Go.Proofs.YtaheijeojbimeaaL
