-- The plain laws of these sessions that this claim uses, in one text.
import Derived.Test.YtaheijeojbimeaaWWords
import Derived.Laws.BitsLemmas
import Derived.Laws.Bits64
namespace Go.Proofs.YtaheijeojbimeaaL
open Go.RowKit Go.Proofs.YtaheijeojbimeaaW.PrintWords
set_option linter.unusedVariables false
set_option linter.unusedSimpArgs false
end Go.Proofs.YtaheijeojbimeaaL
namespace Go.Proofs.YtaheijeojbimeaaL
open Go.RowKit Go.Proofs.YtaheijeojbimeaaW.PrintWords
set_option linter.unusedVariables false
set_option linter.unusedSimpArgs false
theorem wrap_id {x : Int} (h0 : -9223372036854775808 ≤ x) (h1 : x ≤ 9223372036854775807) : wrap64 x = x := by
  unfold wrap64; omega
theorem rd_cast (xs : List Int) (i : Nat) : rd xs (i : Int) = xs.getD i 0 := rfl
theorem rd_lt (xs : List Int) (i : Nat) (h : i < xs.length) : rd xs (i : Int) = xs[i] := by
  rw [rd_cast, List.getD_eq_getElem?_getD, List.getElem?_eq_getElem h]; rfl
theorem rd_mem (xs : List Int) (i : Nat) (h : i < xs.length) : rd xs (i : Int) ∈ xs := by
  rw [rd_lt xs i h]; exact List.getElem_mem h
theorem drop_rd (xs : List Int) (i : Nat) (h : i < xs.length) : xs.drop i = rd xs (i : Int) :: xs.drop (i + 1) := by
  rw [rd_lt xs i h]; exact List.drop_eq_getElem_cons h
theorem take_rd (xs : List Int) (i : Nat) (h : i < xs.length) : xs.take (i + 1) = xs.take i ++ [rd xs (i : Int)] := by
  rw [rd_lt xs i h]; exact List.take_succ_eq_append_getElem h
theorem toNat_cast (i : Nat) : ((i : Int)).toNat = i := Int.toNat_natCast i
theorem cast_lt {i n : Nat} (h : i < n) : ((i : Int) < (n : Int)) := Int.ofNat_lt.mpr h
theorem cast_nlt {i n : Nat} (h : ¬ i < n) : ¬ ((i : Int) < (n : Int)) := fun k => h (Int.ofNat_lt.mp k)
theorem succ_wrap {i n : Nat} (h : i < n) (hn : n ≤ 140737488355328) : wrap64 ((i : Int) + 1) = ((i + 1 : Nat) : Int) := by
  rw [wrap_id (by omega) (by omega)]; omega
/-- Is each number at its place in its bounds, and none of those ahead of it? -/
def ordGo (n : Int) : List Int → List Int → Bool
  | _, [] => true
  | pre, x :: r => if 0 ≤ x ∧ x ≤ n - 1 then (if x ∈ pre then false else ordGo n (pre ++ [x]) r) else false
def isOrd (p : List Int) : Bool := if 1 ≤ p.length ∧ p.length ≤ 8 then ordGo p.length [] p else false
theorem ordGo_cons (n : Int) (pre : List Int) (x : Int) (r : List Int) : ordGo n pre (x :: r) = if 0 ≤ x ∧ x ≤ n - 1 then (if x ∈ pre then false else ordGo n (pre ++ [x]) r) else false := rfl
theorem ordGo_all {n : Int} : ∀ (r pre : List Int), ordGo n pre r = true → (∀ x ∈ r, 0 ≤ x ∧ x ≤ n - 1 ∧ x ∉ pre) ∧ r.Nodup
  | [], _, _ => ⟨by simp, List.nodup_nil⟩
  | x :: r, pre, h => by
    unfold ordGo at h
    split at h
    · rename_i hx
      split at h
      · cases h
      · rename_i hm
        obtain ⟨h1, h2⟩ := ordGo_all r (pre ++ [x]) h
        refine ⟨fun y hy => ?_, List.nodup_cons.2 ⟨fun hx' => ?_, h2⟩⟩
        · rcases List.mem_cons.1 hy with rfl | hy
          · exact ⟨hx.1, hx.2, hm⟩
          · have := h1 y hy
            exact ⟨this.1, this.2.1, fun hp => this.2.2 (List.mem_append_left _ hp)⟩
        · exact (h1 x hx').2.2 (List.mem_append_right _ (by simp))
    · cases h
theorem isOrd_len {p : List Int} (h : isOrd p = true) : 1 ≤ p.length ∧ p.length ≤ 8 := by
  unfold isOrd at h
  split at h
  · assumption
  · cases h
theorem isOrd_all {p : List Int} (h : isOrd p = true) : (∀ x ∈ p, 0 ≤ x ∧ x < p.length) ∧ p.Nodup := by
  have hl := isOrd_len h
  unfold isOrd at h
  rw [if_pos hl] at h
  obtain ⟨h1, h2⟩ := ordGo_all p [] h
  exact ⟨fun x hx => by have := h1 x hx; omega, h2⟩
end Go.Proofs.YtaheijeojbimeaaL
namespace Go.Proofs.YtaheijeojbimeaaL
open Go.RowKit Go.Proofs.YtaheijeojbimeaaW.PrintWords
set_option linter.unusedVariables false
set_option linter.unusedSimpArgs false
theorem and255 (x : Int) (h0 : 0 ≤ x) (h1 : x < 9223372036854775808) : Go.bits .and .u64 x 255 = x % 256 := by
  have h := bits_mask .u64 63 (by decide) (fun n h₀ h₁ => by rw [IntKind.wrap_u64]; omega) 8 (by decide) x (by omega) (by omega)
  have e : ((2 : Int) ^ 8 - 1) = 255 := by decide
  have e2 : ((2 : Int) ^ 8) = 256 := by decide
  rw [e, e2] at h
  exact h
theorem top_byte (x : Int) : 0 ≤ wrap64 (Go.bits .and .u64 (IntKind.u64.wrap x / 1099511627776) 255) ∧ wrap64 (Go.bits .and .u64 (IntKind.u64.wrap x / 1099511627776) 255) ≤ 255 := by
  have e := IntKind.wrap_u64 x
  rw [and255 _ (by rw [e]; omega) (by rw [e]; omega), wrap_id (by omega) (by omega)]
  omega
theorem tmod_lt (x n : Int) (h0 : 0 ≤ x) (hn : 0 < n) : 0 ≤ Int.tmod x n ∧ Int.tmod x n < n := ⟨Int.tmod_nonneg _ h0, Int.tmod_lt_of_pos _ hn⟩
def isCode (c : List Int) : Prop := (∀ x ∈ c, 0 ≤ x ∧ x ≤ 255) ∧ c.length ≤ 1048576
theorem u8_bounds {x : Int} (h : (Lit.int .u8 x).wf = true) : 0 ≤ x ∧ x ≤ 255 := by
  simp only [Lit.wf, IntKind.min, IntKind.max, IntKind.signed, IntKind.bits, Bool.and_eq_true, decide_eq_true_eq, Bool.false_eq_true, if_false] at h
  omega
end Go.Proofs.YtaheijeojbimeaaL
namespace Go.Proofs.YtaheijeojbimeaaL
open Go.RowKit Go.Proofs.YtaheijeojbimeaaW.PrintWords
set_option linter.unusedVariables false
set_option linter.unusedSimpArgs false
/-- The inversions i, j with this i and j from a place on. -/
def invRow (p : List Int) (i : Nat) : Nat → Nat → List (List Int)
  | _, 0 => []
  | j, d + 1 => if rd p (i : Int) > rd p (j : Int) then [(i : Int), (j : Int)] :: invRow p i (j + 1) d else invRow p i (j + 1) d
/-- The inversions from a place i on. -/
def invFrom (p : List Int) : Nat → Nat → List (List Int)
  | _, 0 => []
  | i, d + 1 => invRow p i (i + 1) (p.length - (i + 1)) ++ invFrom p (i + 1) d
def invs (p : List Int) : List (List Int) := invFrom p 0 p.length
theorem invRow_length (p : List Int) (i : Nat) : ∀ d j, (invRow p i j d).length ≤ d
  | 0, _ => Nat.le_refl _
  | d + 1, j => by
    unfold invRow
    have := invRow_length p i d (j + 1)
    split
    · simp; omega
    · omega
theorem invFrom_length (p : List Int) : ∀ d i, (invFrom p i d).length ≤ d * p.length
  | 0, _ => by simp [invFrom]
  | d + 1, i => by
    unfold invFrom
    have h1 := invRow_length p i (p.length - (i + 1)) (i + 1)
    have h2 := invFrom_length p d (i + 1)
    rw [List.length_append, Nat.succ_mul]
    omega
theorem invs_length (p : List Int) (h : p.length ≤ 8) : (invs p).length ≤ 64 := by
  have := invFrom_length p p.length 0
  unfold invs
  have h2 : p.length * p.length ≤ 8 * 8 := Nat.mul_le_mul h h
  omega
end Go.Proofs.YtaheijeojbimeaaL
namespace Go.Proofs.YtaheijeojbimeaaL
open Go.RowKit Go.Proofs.YtaheijeojbimeaaW.PrintWords
set_option linter.unusedVariables false
set_option linter.unusedSimpArgs false
/-- The descents from a place on, d places before the last. -/
def descGo (p : List Int) : Nat → Nat → List Int
  | 0, _ => []
  | d + 1, i => if rd p (i : Int) > rd p ((i : Int) + 1) then (i : Int) :: descGo p d (i + 1) else descGo p d (i + 1)
def desc (p : List Int) : List Int := descGo p (p.length - 1) 0
theorem descGo_length (p : List Int) : ∀ d i, (descGo p d i).length ≤ d
  | 0, _ => Nat.le_refl _
  | d + 1, i => by
    unfold descGo
    have := descGo_length p d (i + 1)
    split
    · simp; omega
    · omega
theorem desc_length (p : List Int) : (desc p).length ≤ p.length := by
  have := descGo_length p (p.length - 1) 0
  unfold desc; omega
theorem descGo_mem (p : List Int) : ∀ d i x, x ∈ descGo p d i → ∃ j : Nat, x = (j : Int) ∧ i ≤ j ∧ j < i + d ∧ rd p (j : Int) > rd p ((j : Int) + 1)
  | 0, _, x, h => by simp [descGo] at h
  | d + 1, i, x, h => by
    unfold descGo at h
    split at h
    · rename_i hc
      rcases List.mem_cons.1 h with rfl | h
      · exact ⟨i, rfl, Nat.le_refl _, by omega, hc⟩
      · obtain ⟨j, h1, h2, h3, h4⟩ := descGo_mem p d (i + 1) x h
        exact ⟨j, h1, by omega, by omega, h4⟩
    · obtain ⟨j, h1, h2, h3, h4⟩ := descGo_mem p d (i + 1) x h
      exact ⟨j, h1, by omega, by omega, h4⟩
theorem desc_mem {p : List Int} {x : Int} (h : x ∈ desc p) : ∃ j : Nat, x = (j : Int) ∧ j + 1 < p.length ∧ rd p (j : Int) > rd p ((j : Int) + 1) := by
  obtain ⟨j, h1, h2, h3, h4⟩ := descGo_mem p _ _ _ h
  exact ⟨j, h1, by omega, h4⟩
/-- How many of a list are less than x. -/
def fewer (x : Int) : List Int → Nat
  | [] => 0
  | y :: r => (if y < x then 1 else 0) + fewer x r
theorem fewer_row (p : List Int) (i : Nat) : ∀ d j, j + d = p.length → fewer (rd p (i : Int)) (p.drop j) = (invRow p i j d).length
  | 0, j, h => by rw [List.drop_eq_nil_of_le (by omega)]; rfl
  | d + 1, j, h => by
    rw [drop_rd p j (by omega), fewer, fewer_row p i d (j + 1) (by omega), invRow]
    by_cases e : rd p (j : Int) < rd p (i : Int)
    · rw [if_pos e, if_pos e, List.length_cons]; omega
    · rw [if_neg e, if_neg e]; omega
/-- The numbers of an order, from a place on. -/
def upFrom : Nat → Nat → List Int
  | 0, _ => []
  | d + 1, i => (i : Int) :: upFrom d (i + 1)
def ident (n : Nat) : List Int := upFrom n 0
theorem upFrom_length : ∀ d i, (upFrom d i).length = d
  | 0, _ => rfl
  | d + 1, i => by simp [upFrom, upFrom_length d]
theorem ident_length (n : Nat) : (ident n).length = n := upFrom_length n 0
end Go.Proofs.YtaheijeojbimeaaL
namespace Go.Proofs.YtaheijeojbimeaaL
open Go.RowKit Go.Proofs.YtaheijeojbimeaaW.PrintWords
set_option linter.unusedVariables false
set_option linter.unusedSimpArgs false
def inB (n : Int) (x : Int) : Bool := decide (0 ≤ x) && decide (x ≤ n - 2)
/-- Is it a ladder? -/
def good (n : Int) (l : List Int) : Bool := decide (2 ≤ n) && decide (n ≤ 8) && decide (l.length ≤ 60) && l.all (inB n)
theorem good_iff {n : Int} {l : List Int} : good n l = true ↔ 2 ≤ n ∧ n ≤ 8 ∧ l.length ≤ 60 ∧ ∀ x ∈ l, 0 ≤ x ∧ x ≤ n - 2 := by
  unfold good inB
  simp only [Bool.and_eq_true, decide_eq_true_eq, List.all_eq_true, and_assoc]
/-- Is it a ladder, and a wire of it? -/
def hasW (n : Int) (l : List Int) (w : Int) : Bool := good n l && (decide (0 ≤ w) && decide (w ≤ n - 1))
theorem hasW_iff {n : Int} {l : List Int} {w : Int} : hasW n l w = true ↔ good n l = true ∧ 0 ≤ w ∧ w ≤ n - 1 := by
  unfold hasW
  simp only [Bool.and_eq_true, decide_eq_true_eq]
/-- The wire behind a rung. -/
def over (w r : Int) : Int := if w = r then r + 1 else if w = r + 1 then r else w
/-- The wires on which one is behind each rung. -/
def wayT (w : Int) : List Int → List Int
  | [] => []
  | r :: l => over w r :: wayT (over w r) l
def wayL (w : Int) (l : List Int) : List Int := w :: wayT w l
/-- The wire at whose bottom one comes out. -/
def endL (w : Int) : List Int → Int
  | [] => w
  | r :: l => endL (over w r) l
theorem wayT_length (w : Int) (l : List Int) : (wayT w l).length = l.length := by
  induction l generalizing w with
  | nil => rfl
  | cons r l ih => simp [wayT, ih]
theorem wayL_length (w : Int) (l : List Int) : (wayL w l).length = l.length + 1 := by simp [wayL, wayT_length]
theorem rd_cons_succ (x : Int) (l : List Int) (i : Nat) : rd (x :: l) ((i + 1 : Nat) : Int) = rd l (i : Int) := by
  rw [rd_cast, rd_cast, List.getD_cons_succ]
/-- At each place: the wire behind so many rungs. -/
theorem wayL_rd (w : Int) (l : List Int) : ∀ i : Nat, i ≤ l.length → rd (wayL w l) (i : Int) = endL w (l.take i) := by
  induction l generalizing w with
  | nil => intro i hi; obtain rfl : i = 0 := by simpa using hi
           rfl
  | cons r l ih =>
    intro i hi
    cases i with
    | zero => rfl
    | succ i =>
      rw [wayL, rd_cons_succ, List.take_succ_cons, endL]
      exact ih (over w r) i (by simpa using hi)
theorem wayL_last (w : Int) (l : List Int) : rd (wayL w l) (l.length : Int) = endL w l := by
  rw [wayL_rd w l l.length (Nat.le_refl _), List.take_length]
theorem endL_append (w : Int) (a b : List Int) : endL w (a ++ b) = endL (endL w a) b := by
  induction a generalizing w with
  | nil => rfl
  | cons r a ih => exact ih _
theorem wayL_next (w : Int) (l : List Int) (i : Nat) (hi : i < l.length) : rd (wayL w l) ((i + 1 : Nat) : Int) = over (rd (wayL w l) (i : Int)) (rd l (i : Int)) := by
  rw [wayL_rd w l (i + 1) hi, wayL_rd w l i (by omega), take_rd l i hi, endL_append]
  rfl
theorem over_bounds {n w r : Int} (hw : 0 ≤ w ∧ w ≤ n - 1) (hr : 0 ≤ r ∧ r ≤ n - 2) : 0 ≤ over w r ∧ over w r ≤ n - 1 := by
  unfold over
  split
  · omega
  · split <;> omega
theorem endL_bounds {n : Int} : ∀ (l : List Int) (w : Int), 0 ≤ w ∧ w ≤ n - 1 → (∀ x ∈ l, 0 ≤ x ∧ x ≤ n - 2) → 0 ≤ endL w l ∧ endL w l ≤ n - 1
  | [], w, hw, _ => hw
  | r :: l, w, hw, hr => endL_bounds l _ (over_bounds hw (hr r (by simp))) (fun x hx => hr x (by simp [hx]))
/-- The result of rungs on so many wires. -/
def resGo (l : List Int) : Nat → Nat → List Int
  | 0, _ => []
  | d + 1, i => endL (i : Int) l :: resGo l d (i + 1)
def resL (n : Int) (l : List Int) : List Int := resGo l n.toNat 0
theorem resGo_length (l : List Int) : ∀ d i, (resGo l d i).length = d
  | 0, _ => rfl
  | d + 1, i => by simp [resGo, resGo_length l d]
theorem resL_length (n : Int) (l : List Int) : (resL n l).length = n.toNat := resGo_length l _ _
/-- At how many rungs two meet. -/
def meetGo (a b : Int) : List Int → Nat
  | [] => 0
  | r :: l => (if over a r = b ∧ over b r = a then 1 else 0) + meetGo (over a r) (over b r) l
/-- The first two, from a place on, who meet more than once. -/
def twiceIn (l : List Int) (a : Nat) : Nat → Nat → Option (List Int)
  | 0, _ => none
  | d + 1, b => if meetGo (a : Int) (b : Int) l > 1 then some [(a : Int), (b : Int)] else twiceIn l a d (b + 1)
def twiceGo (l : List Int) (n : Nat) : Nat → Nat → Option (List Int)
  | 0, _ => none
  | d + 1, a => match twiceIn l a (n - (a + 1)) (a + 1) with
    | some r => some r
    | none => twiceGo l n d (a + 1)
def twiceL (n : Int) (l : List Int) : Option (List Int) := twiceGo l n.toNat n.toNat 0
/-- How many rungs a ladder has more than a least one. -/
def needL (n : Int) (l : List Int) : Int := (l.length : Int) - ((invs (resL n l)).length : Int)
theorem needL_bounds {n : Int} {l : List Int} (h : good n l = true) : -64 ≤ needL n l ∧ needL n l ≤ 60 := by
  obtain ⟨h1, h2, h3, _⟩ := good_iff.1 h
  have := invs_length (resL n l) (by rw [resL_length]; omega)
  unfold needL
  omega
end Go.Proofs.YtaheijeojbimeaaL
namespace Go.Proofs.YtaheijeojbimeaaL
open Go.RowKit Go.Proofs.YtaheijeojbimeaaW.PrintWords
set_option linter.unusedVariables false
set_option linter.unusedSimpArgs false
/-- The number of inversions, from the front. -/
def invC : List Int → Nat
  | [] => 0
  | x :: r => fewer x r + invC r
theorem invFrom_invC (p : List Int) : ∀ d i, i + d = p.length → (invFrom p i d).length = invC (p.drop i)
  | 0, i, h => by rw [List.drop_eq_nil_of_le (by omega)]; rfl
  | d + 1, i, h => by
    rw [invFrom, List.length_append, invFrom_invC p d (i + 1) (by omega), drop_rd p i (by omega), invC, fewer_row p i (p.length - (i + 1)) (i + 1) (by omega)]
theorem invs_invC (p : List Int) : (invs p).length = invC p := by
  have := invFrom_invC p p.length 0 (by omega)
  simpa [invs] using this
theorem fewer_append (x : Int) (a b : List Int) : fewer x (a ++ b) = fewer x a + fewer x b := by
  induction a with
  | nil => simp [fewer]
  | cons y a ih => rw [List.cons_append, fewer, fewer, ih, Nat.add_assoc]
theorem invC_swap (a : List Int) (x y : Int) (b : List Int) : invC (a ++ x :: y :: b) + (if x < y then 1 else 0) = invC (a ++ y :: x :: b) + (if y < x then 1 else 0) := by
  induction a with
  | nil =>
    simp only [List.nil_append, invC, fewer]
    by_cases h1 : x < y
    · have h2 : ¬ y < x := by omega
      simp only [if_pos h1, if_neg h2]; omega
    · simp only [if_neg h1]
      by_cases h2 : y < x
      · simp only [if_pos h2]; omega
      · simp only [if_neg h2]; omega
  | cons c a ih =>
    simp only [List.cons_append, invC]
    have : fewer c (a ++ x :: y :: b) = fewer c (a ++ y :: x :: b) := by
      rw [fewer_append, fewer_append]
      simp only [fewer]; omega
    omega
/-- Two numbers exchanged, whatever lies between them: the parity turns. -/
theorem invC_trans : ∀ (M A : List Int) (x y : Int) (B : List Int), x ≠ y → x ∉ M → y ∉ M → (invC (A ++ x :: (M ++ y :: B)) + invC (A ++ y :: (M ++ x :: B))) % 2 = 1
  | [], A, x, y, B, h, _, _ => by
    have := invC_swap A x y B
    simp only [List.nil_append]
    by_cases h1 : x < y
    · have h2 : ¬ y < x := by omega
      rw [if_pos h1, if_neg h2] at this; omega
    · have h2 : y < x := by omega
      rw [if_neg h1, if_pos h2] at this; omega
  | m :: M, A, x, y, B, h, hx, hy => by
    have hxm : x ≠ m := fun e => hx (by simp [e])
    have hym : y ≠ m := fun e => hy (by simp [e])
    have h1 := invC_swap A x m (M ++ y :: B)
    have h2 := invC_trans M (A ++ [m]) x y B h (fun e => hx (by simp [e])) (fun e => hy (by simp [e]))
    have h3 := invC_swap A m y (M ++ x :: B)
    simp only [List.append_assoc, List.singleton_append, List.cons_append, List.nil_append] at h1 h2 h3 ⊢
    have e1 : (if x < m then 1 else 0) + (if m < x then 1 else 0) = 1 := by
      by_cases c : x < m
      · rw [if_pos c, if_neg (by omega)]
      · rw [if_neg c, if_pos (by omega)]
    have e2 : (if m < y then 1 else 0) + (if y < m then 1 else 0) = 1 := by
      by_cases c : m < y
      · rw [if_pos c, if_neg (by omega)]
      · rw [if_neg c, if_pos (by omega)]
    omega
/-- The numbers at two places exchanged. -/
def swp (p : List Int) (a b : Nat) : List Int := (p.set a (rd p (b : Int))).set b (rd p (a : Int))
theorem swp_length (p : List Int) (a b : Nat) : (swp p a b).length = p.length := by simp [swp]
theorem rd_set (p : List Int) (a : Nat) (v : Int) (i : Nat) (ha : a < p.length) : rd (p.set a v) (i : Int) = if a = i then v else rd p (i : Int) := by
  rw [rd_cast, rd_cast, List.getD_eq_getElem?_getD, List.getElem?_set]
  by_cases h : a = i
  · rw [if_pos h, if_pos h, if_pos (by omega)]; rfl
  · rw [if_neg h, if_neg h, ← List.getD_eq_getElem?_getD]
theorem swp_rd (p : List Int) (a b i : Nat) (ha : a < p.length) (hb : b < p.length) : rd (swp p a b) (i : Int) = if b = i then rd p (a : Int) else if a = i then rd p (b : Int) else rd p (i : Int) := by
  unfold swp
  rw [rd_set _ b _ i (by simpa using hb), rd_set p a _ i ha]
/-- A list in three pieces round two places. -/
theorem split_two (p : List Int) (a b : Nat) (hab : a < b) (hb : b < p.length) : p = p.take a ++ rd p (a : Int) :: ((p.drop (a + 1)).take (b - (a + 1)) ++ rd p (b : Int) :: p.drop (b + 1)) := by
  have h1 : p = p.take a ++ p.drop a := (List.take_append_drop a p).symm
  have h2 : p.drop (a + 1) = (p.drop (a + 1)).take (b - (a + 1)) ++ (p.drop (a + 1)).drop (b - (a + 1)) := (List.take_append_drop _ _).symm
  rw [List.drop_drop, show a + 1 + (b - (a + 1)) = b by omega, drop_rd p b hb] at h2
  rw [drop_rd p a (by omega), h2] at h1
  exact h1
theorem swp_split (p : List Int) (a b : Nat) (hab : a < b) (hb : b < p.length) : swp p a b = p.take a ++ rd p (b : Int) :: ((p.drop (a + 1)).take (b - (a + 1)) ++ rd p (a : Int) :: p.drop (b + 1)) := by
  have hs := split_two p a b hab hb
  obtain ⟨A, hA⟩ : ∃ A, A = p.take a := ⟨_, rfl⟩
  obtain ⟨M, hM⟩ : ∃ M, M = (p.drop (a + 1)).take (b - (a + 1)) := ⟨_, rfl⟩
  obtain ⟨B, hB⟩ : ∃ B, B = p.drop (b + 1) := ⟨_, rfl⟩
  obtain ⟨x, hx⟩ : ∃ x, x = rd p (a : Int) := ⟨_, rfl⟩
  obtain ⟨y, hy⟩ : ∃ y, y = rd p (b : Int) := ⟨_, rfl⟩
  have lA : A.length = a := by rw [hA, List.length_take]; omega
  have lM : M.length = b - (a + 1) := by rw [hM, List.length_take, List.length_drop]; omega
  unfold swp
  rw [← hA, ← hM, ← hB, ← hx, ← hy] at hs ⊢
  rw [hs, List.set_append_right _ _ (by omega), lA, Nat.sub_self, List.set_cons_zero, List.set_append_right _ _ (by omega), lA, show b - a = (b - (a + 1)) + 1 by omega, List.set_cons_succ, List.set_append_right _ _ (by omega), lM, Nat.sub_self, List.set_cons_zero]
theorem swp_perm (p : List Int) (a b : Nat) (hab : a < b) (hb : b < p.length) : (swp p a b).Perm p := by
  rw [swp_split p a b hab hb]
  refine List.Perm.trans ?_ (List.Perm.of_eq (split_two p a b hab hb).symm)
  refine List.Perm.append_left _ ?_
  refine List.Perm.trans (List.Perm.cons _ List.perm_middle) (List.Perm.trans (List.Perm.swap _ _ _) (List.Perm.cons _ List.perm_middle.symm))
theorem swp_comm (p : List Int) (a b : Nat) (hab : a ≠ b) : swp p a b = swp p b a := by
  unfold swp
  exact List.set_comm _ _ hab
theorem invC_swp (p : List Int) (hp : p.Nodup) (a b : Nat) (hab : a ≠ b) (ha : a < p.length) (hb : b < p.length) : (invC p + invC (swp p a b)) % 2 = 1 := by
  have main : ∀ a b : Nat, a < b → b < p.length → (invC p + invC (swp p a b)) % 2 = 1 := by
    intro a b hab hb
    have hs := split_two p a b hab hb
    rw [swp_split p a b hab hb]
    have hn := hp
    rw [hs] at hn
    have hn2 := (List.nodup_append.1 hn).2.1
    obtain ⟨n1, n2⟩ := List.nodup_cons.1 hn2
    have n3 := (List.nodup_append.1 n2)
    have hxy : rd p (a : Int) ≠ rd p (b : Int) := fun e => n1 (by rw [e]; simp)
    have hx : rd p (a : Int) ∉ (p.drop (a + 1)).take (b - (a + 1)) := fun e => n1 (List.mem_append_left _ e)
    have hy : rd p (b : Int) ∉ (p.drop (a + 1)).take (b - (a + 1)) := fun e => n3.2.2 _ e _ (by simp) rfl
    have := invC_trans ((p.drop (a + 1)).take (b - (a + 1))) (p.take a) _ _ (p.drop (b + 1)) hxy hx hy
    rw [← hs] at this
    exact this
  rcases Nat.lt_or_gt_of_ne hab with h | h
  · exact main a b h hb
  · rw [swp_comm p a b hab]; exact main b a h ha
theorem invC_sorted : ∀ (l : List Int), l.Pairwise (· ≤ ·) → invC l = 0
  | [], _ => rfl
  | x :: r, h => by
    obtain ⟨h1, h2⟩ := List.pairwise_cons.1 h
    have : fewer x r = 0 := by
      clear h h2
      induction r with
      | nil => rfl
      | cons y r ih =>
        have hy := h1 y (by simp)
        rw [fewer, if_neg (by omega), ih (fun z hz => h1 z (by simp [hz]))]
    rw [invC, this, invC_sorted r h2]
theorem upFrom_pairwise : ∀ d i, (upFrom d i).Pairwise (· ≤ ·) ∧ ∀ x ∈ upFrom d i, (i : Int) ≤ x
  | 0, i => ⟨List.Pairwise.nil, by simp [upFrom]⟩
  | d + 1, i => by
    obtain ⟨h1, h2⟩ := upFrom_pairwise d (i + 1)
    refine ⟨List.pairwise_cons.2 ⟨fun y hy => by have := h2 y hy; omega, h1⟩, fun x hx => ?_⟩
    rcases List.mem_cons.1 hx with rfl | hx
    · exact Int.le_refl _
    · have := h2 x hx; omega
theorem invC_ident (n : Nat) : invC (ident n) = 0 := invC_sorted _ (upFrom_pairwise n 0).1
theorem rd_upFrom : ∀ (d i k : Nat), k < d → rd (upFrom d i) (k : Int) = ((i + k : Nat) : Int) := by
  intro d
  induction d with
  | zero => intro i k h; omega
  | succ d ih =>
    intro i k h
    cases k with
    | zero => rfl
    | succ k =>
      have := ih (i + 1) k (by omega)
      rw [rd_cast] at this ⊢
      rw [upFrom, List.getD_cons_succ, this]
      congr 1; omega
theorem rd_ident (n k : Nat) (h : k < n) : rd (ident n) (k : Int) = (k : Int) := by
  rw [ident, rd_upFrom n 0 k h, Nat.zero_add]
theorem ext_rd (p q : List Int) (hl : p.length = q.length) (h : ∀ i : Nat, i < p.length → rd p (i : Int) = rd q (i : Int)) : p = q := by
  refine List.ext_getElem hl (fun i h1 h2 => ?_)
  have := h i h1
  rwa [rd_lt p i h1, rd_lt q i h2] at this
end Go.Proofs.YtaheijeojbimeaaL
namespace Go.Proofs.YtaheijeojbimeaaL
open Go.RowKit Go.Proofs.YtaheijeojbimeaaW.PrintWords
set_option linter.unusedVariables false
set_option linter.unusedSimpArgs false
theorem invC_fall (p : List Int) (j : Nat) (hj : j + 1 < p.length) (h : rd p (j : Int) > rd p ((j : Int) + 1)) : invC p = invC (swp p j (j + 1)) + 1 := by
  have h' : rd p (j : Int) > rd p ((j + 1 : Nat) : Int) := h
  have e1 := split_two p j (j + 1) (by omega) hj
  have e2 := swp_split p j (j + 1) (by omega) hj
  simp only [Nat.sub_self, List.take_zero, List.nil_append] at e1 e2
  have := invC_swap (p.take j) (rd p (j : Int)) (rd p ((j + 1 : Nat) : Int)) (p.drop (j + 1 + 1))
  rw [← e1, ← e2, if_neg (by omega), if_pos (by omega)] at this
  omega
/-- The first least ladder's rungs, with so many rounds at most. -/
def leastF : Nat → List Int → List Int
  | 0, _ => []
  | k + 1, p => match desc p with
    | [] => []
    | a :: _ => a :: leastF k (swp p a.toNat (a.toNat + 1))
def leastL (p : List Int) : List Int := leastF (invC p) p
theorem leastF_length : ∀ k p, (leastF k p).length ≤ k
  | 0, _ => Nat.le_refl _
  | k + 1, p => by
    rw [leastF]
    split
    · exact Nat.zero_le _
    · have := leastF_length k (swp p (‹Int›).toNat ((‹Int›).toNat + 1))
      simp only [List.length_cons]; omega
theorem desc_head {p : List Int} {a : Int} {r : List Int} (h : desc p = a :: r) : ∃ j : Nat, a = (j : Int) ∧ j + 1 < p.length ∧ rd p (j : Int) > rd p ((j : Int) + 1) ∧ invC p = invC (swp p j (j + 1)) + 1 := by
  obtain ⟨j, e, hj, hr⟩ := desc_mem (p := p) (x := a) (by rw [h]; exact List.mem_cons_self)
  exact ⟨j, e, hj, hr, invC_fall p j hj hr⟩
theorem leastL_nil {p : List Int} (h : desc p = []) : leastL p = [] := by
  unfold leastL
  cases e : invC p with
  | zero => rfl
  | succ k => rw [leastF, h]
theorem leastL_cons {p : List Int} {a : Int} {r : List Int} (h : desc p = a :: r) : leastL p = a :: leastL (swp p a.toNat (a.toNat + 1)) := by
  obtain ⟨j, rfl, hj, hr, hc⟩ := desc_head h
  unfold leastL
  rw [hc, leastF, h]
  simp only [toNat_cast]
theorem invC_le (p : List Int) (h : p.length ≤ 8) : invC p ≤ 64 := by
  have := invs_length p h
  rw [invs_invC] at this; exact this
theorem leastL_length (p : List Int) (h : p.length ≤ 8) : (leastL p).length ≤ 64 := Nat.le_trans (leastF_length _ _) (invC_le p h)
theorem upFrom_snoc : ∀ d i, upFrom (d + 1) i = upFrom d i ++ [((i + d : Nat) : Int)]
  | 0, i => rfl
  | d + 1, i => by
    rw [upFrom, upFrom_snoc d (i + 1), upFrom, show i + 1 + d = i + (d + 1) by omega]; rfl
theorem ident_succ (n : Nat) : ident (n + 1) = ident n ++ [(n : Int)] := by
  have := upFrom_snoc n 0
  rwa [Nat.zero_add] at this
end Go.Proofs.YtaheijeojbimeaaL
namespace Go.Proofs.YtaheijeojbimeaaL
open Go.RowKit Go.Proofs.YtaheijeojbimeaaW.PrintWords
set_option linter.unusedVariables false
set_option linter.unusedSimpArgs false
theorem upFrom_lt : ∀ d i, (upFrom d i).Pairwise (· < ·) ∧ ∀ x ∈ upFrom d i, (i : Int) ≤ x ∧ x < ((i + d : Nat) : Int)
  | 0, i => ⟨List.Pairwise.nil, fun x hx => by cases hx⟩
  | d + 1, i => by
    obtain ⟨h1, h2⟩ := upFrom_lt d (i + 1)
    rw [upFrom]
    refine ⟨List.pairwise_cons.2 ⟨fun x hx => by have := h2 x hx; omega, h1⟩, fun x hx => ?_⟩
    rcases List.mem_cons.1 hx with rfl | hx
    · omega
    · have := h2 x hx; omega
theorem upFrom_has : ∀ (d i : Nat) (x : Int), (i : Int) ≤ x → x < ((i + d : Nat) : Int) → x ∈ upFrom d i
  | 0, i, x, h1, h2 => by omega
  | d + 1, i, x, h1, h2 => by
    rw [upFrom]
    by_cases e : x = i
    · rw [e]; exact List.mem_cons_self
    · exact List.mem_cons_of_mem _ (upFrom_has d (i + 1) x (by omega) (by omega))
theorem ident_lt (n : Nat) : (ident n).Pairwise (· < ·) := (upFrom_lt n 0).1
theorem perm_subset : ∀ (p l : List Int), p.Nodup → (∀ x ∈ p, x ∈ l) → p.length = l.length → p.Perm l
  | [], l, _, _, h => by
    obtain rfl : l = [] := List.eq_nil_of_length_eq_zero (by simpa using h.symm)
    exact List.Perm.nil
  | x :: r, l, hn, hs, hl => by
    obtain ⟨a, b, rfl⟩ := List.append_of_mem (hs x List.mem_cons_self)
    obtain ⟨n1, n2⟩ := List.nodup_cons.1 hn
    have := perm_subset r (a ++ b) n2 (fun z hz => by
      have := hs z (List.mem_cons_of_mem _ hz)
      rw [List.mem_append, List.mem_cons] at this
      rw [List.mem_append]
      rcases this with h | rfl | h
      · exact .inl h
      · exact absurd hz n1
      · exact .inr h) (by simp at hl ⊢; omega)
    exact (this.cons x).trans List.perm_middle.symm
theorem isOrd_perm {p : List Int} (h : isOrd p = true) : p.Perm (ident p.length) := by
  obtain ⟨h1, h2⟩ := isOrd_all h
  refine perm_subset p _ h2 (fun x hx => ?_) (by rw [ident_length])
  have := h1 x hx
  exact upFrom_has _ 0 x (by omega) (by omega)
theorem ordGo_of (n : Int) : ∀ (r pre : List Int), (∀ x ∈ r, 0 ≤ x ∧ x ≤ n - 1 ∧ x ∉ pre) → r.Nodup → ordGo n pre r = true
  | [], _, _, _ => rfl
  | x :: r, pre, h, hn => by
    obtain ⟨n1, n2⟩ := List.nodup_cons.1 hn
    have hx := h x List.mem_cons_self
    rw [ordGo_cons, if_pos ⟨hx.1, hx.2.1⟩, if_neg hx.2.2]
    exact ordGo_of n r _ (fun z hz => by
      have := h z (List.mem_cons_of_mem _ hz)
      refine ⟨this.1, this.2.1, fun hm => ?_⟩
      rcases List.mem_append.1 hm with h3 | h3
      · exact this.2.2 h3
      · simp only [List.mem_singleton] at h3
        exact n1 (h3 ▸ hz)) n2
theorem isOrd_of_perm {p : List Int} {n : Nat} (h1 : 1 ≤ n) (h8 : n ≤ 8) (h : p.Perm (ident n)) : isOrd p = true := by
  have hl : p.length = n := by rw [h.length_eq, ident_length]
  unfold isOrd
  rw [if_pos ⟨by omega, by omega⟩]
  refine ordGo_of _ p [] (fun x hx => ?_) ?_
  · have := (upFrom_lt n 0).2 x (h.subset hx)
    exact ⟨by omega, by omega, by simp⟩
  · exact (h.nodup_iff).2 ((ident_lt n).imp (fun hab => Int.ne_of_lt hab))
theorem descGo_has (p : List Int) : ∀ d i (j : Nat), i ≤ j → j < i + d → rd p (j : Int) > rd p ((j : Int) + 1) → (j : Int) ∈ descGo p d i
  | 0, i, j, h1, h2, _ => by omega
  | d + 1, i, j, h1, h2, h => by
    rw [descGo]
    by_cases e : j = i
    · subst e; rw [if_pos h]; exact List.mem_cons_self
    · have := descGo_has p d (i + 1) j (by omega) (by omega) h
      split
      · exact List.mem_cons_of_mem _ this
      · exact this
theorem desc_iff (p : List Int) (j : Nat) (hj : j + 1 < p.length) : (j : Int) ∈ desc p ↔ rd p (j : Int) > rd p ((j + 1 : Nat) : Int) := by
  constructor
  · intro h
    obtain ⟨k, e, _, h2⟩ := desc_mem h
    obtain rfl : j = k := by omega
    exact h2
  · intro h
    exact descGo_has p _ 0 j (by omega) (by omega) h
end Go.Proofs.YtaheijeojbimeaaL
namespace Go.Proofs.YtaheijeojbimeaaL
open Go.RowKit Go.Proofs.YtaheijeojbimeaaW.PrintWords
set_option linter.unusedVariables false
set_option linter.unusedSimpArgs false
theorem isOrd_swp {p : List Int} (h : isOrd p = true) (j : Nat) (hj : j + 1 < p.length) : isOrd (swp p j (j + 1)) = true := by
  have hl := isOrd_len h
  exact isOrd_of_perm hl.1 hl.2 ((swp_perm p j (j + 1) (by omega) hj).trans (isOrd_perm h))
theorem over_inj {w v r : Int} (h : over w r = over v r) : w = v := by
  unfold over at h
  split at h <;> split at h <;> (try split at h) <;> (try split at h) <;> omega
theorem endL_inj : ∀ (l : List Int) (w v : Int), endL w l = endL v l → w = v
  | [], _, _, h => h
  | r :: l, w, v, h => over_inj (endL_inj l _ _ h)
theorem resGo_map (l : List Int) : ∀ d i, resGo l d i = (upFrom d i).map fun w => endL w l
  | 0, _ => rfl
  | d + 1, i => by rw [resGo, upFrom, List.map_cons, resGo_map l d (i + 1)]
/-- The result of a ladder is an order. -/
theorem isOrd_resL {n : Int} {l : List Int} (h : good n l = true) : isOrd (resL n l) = true := by
  have hg := good_iff.1 h
  have hl : (resL n l).length = n.toNat := resL_length n l
  have hm : resL n l = (upFrom n.toNat 0).map fun w => endL w l := resGo_map l _ _
  unfold isOrd
  rw [if_pos (by omega)]
  refine ordGo_of _ _ [] (fun x hx => ?_) ?_
  · rw [hm] at hx
    obtain ⟨w, hw, rfl⟩ := List.mem_map.1 hx
    have h1 := (upFrom_lt n.toNat 0).2 w hw
    have h2 := endL_bounds l w (n := n) (by omega) hg.2.2.2
    exact ⟨h2.1, by omega, by simp⟩
  · rw [hm]
    refine List.Pairwise.map _ (fun a b hab h => ?_) (upFrom_lt n.toNat 0).1
    have := endL_inj l a b h
    omega
end Go.Proofs.YtaheijeojbimeaaL
namespace Go.Proofs.YtaheijeojbimeaaL
open Go.RowKit Go.Proofs.YtaheijeojbimeaaW.PrintWords
set_option linter.unusedVariables false
set_option linter.unusedSimpArgs false
theorem rd_inj {p : List Int} (hp : p.Nodup) (x y : Int) (hx : 0 ≤ x ∧ x < p.length) (hy : 0 ≤ y ∧ y < p.length) (h : rd p x = rd p y) : x = y := by
  obtain ⟨i, rfl⟩ := Int.eq_ofNat_of_zero_le hx.1
  obtain ⟨j, rfl⟩ := Int.eq_ofNat_of_zero_le hy.1
  rw [rd_lt p i (by omega), rd_lt p j (by omega)] at h
  have hw := List.pairwise_iff_getElem.1 hp
  rcases Nat.lt_trichotomy i j with h1 | h1 | h1
  · exact absurd h (hw i j (by omega) (by omega) h1)
  · rw [h1]
  · exact absurd h.symm (hw j i (by omega) (by omega) h1)
end Go.Proofs.YtaheijeojbimeaaL
namespace Go.Proofs.YtaheijeojbimeaaL
open Go.RowKit Go.Proofs.YtaheijeojbimeaaW.PrintWords
set_option linter.unusedVariables false
set_option linter.unusedSimpArgs false
end Go.Proofs.YtaheijeojbimeaaL
namespace Go.Proofs.YtaheijeojbimeaaL
open Go.RowKit Go.Proofs.YtaheijeojbimeaaW.PrintWords
set_option linter.unusedVariables false
set_option linter.unusedSimpArgs false
theorem rd_map (f : Int → Int) (xs : List Int) (i : Nat) (h : i < xs.length) : rd (xs.map f) (i : Int) = f (rd xs (i : Int)) := by
  rw [rd_lt _ _ (by simpa using h), rd_lt _ _ h, List.getElem_map]
theorem resL_rd (n : Int) (l : List Int) (i : Nat) (h : i < n.toNat) : rd (resL n l) (i : Int) = endL (i : Int) l := by
  unfold resL
  rw [resGo_map, rd_map _ _ i (by rw [upFrom_length]; exact h), rd_upFrom _ _ _ h, Nat.zero_add]
theorem over_back (w r : Int) : over (over w r) r = w := by
  unfold over
  split
  · rw [if_neg (by omega), if_pos rfl]; omega
  · split
    · rw [if_pos rfl]; omega
    · rfl
theorem over_ne (w r : Int) : over w r ≠ w ↔ (w = r ∨ w = r + 1) := by
  unfold over
  split
  · constructor <;> intro <;> omega
  · split
    · constructor <;> intro <;> omega
    · constructor
      · intro h; exact absurd rfl h
      · intro h; omega
/-- How many rungs one goes over. -/
def nUsed (w : Int) : List Int → Nat
  | [] => 0
  | r :: l => (if over w r = w then 0 else 1) + nUsed (over w r) l
theorem meet_self (l : List Int) : ∀ w : Int, meetGo w w l + nUsed w l = l.length := by
  induction l with
  | nil => intro w; rfl
  | cons r l ih =>
    intro w
    have := ih (over w r)
    rw [meetGo, nUsed, List.length_cons]
    by_cases e : over w r = w
    · rw [if_pos ⟨e, e⟩, if_pos e]; omega
    · rw [if_neg (fun h => e h.1), if_neg e]; omega
theorem meet_comm (l : List Int) : ∀ a b : Int, meetGo a b l = meetGo b a l := by
  induction l with
  | nil => intro a b; rfl
  | cons r l ih =>
    intro a b
    rw [meetGo, meetGo, ih (over a r) (over b r)]
    congr 1
    exact ite_congr (propext ⟨fun h => ⟨h.2, h.1⟩, fun h => ⟨h.2, h.1⟩⟩) (fun _ => rfl) (fun _ => rfl)
theorem sum_perm {a b : List Nat} (h : a.Perm b) : a.sum = b.sum := by
  induction h with
  | nil => rfl
  | cons x _ ih => simp [ih]
  | swap x y l => simp only [List.sum_cons]; omega
  | trans _ _ h1 h2 => exact h1.trans h2
theorem sum_add {α : Type} (f g : α → Nat) : ∀ l : List α, (l.map fun x => f x + g x).sum = (l.map f).sum + (l.map g).sum
  | [] => rfl
  | x :: l => by simp only [List.map_cons, List.sum_cons, sum_add f g l]; omega
theorem sum_zero {α : Type} (f : α → Nat) : ∀ l : List α, (∀ x ∈ l, f x = 0) → (l.map f).sum = 0
  | [], _ => rfl
  | x :: l, h => by simp only [List.map_cons, List.sum_cons, sum_zero f l (fun y hy => h y (by simp [hy])), h x (by simp)]
theorem sum_one (x : Int) : ∀ l : List Int, l.Nodup → x ∈ l → (l.map fun y => if x = y then 1 else 0).sum = 1
  | [], _, h => by cases h
  | y :: l, hn, h => by
    rw [List.nodup_cons] at hn
    simp only [List.map_cons, List.sum_cons]
    by_cases e : x = y
    · rw [if_pos e, sum_zero _ l (fun z hz => if_neg (fun h => hn.1 (by rw [← e, h]; exact hz)))]
    · rw [if_neg e, sum_one x l hn.2 (by rcases List.mem_cons.1 h with h | h; exact absurd h e; exact h)]
theorem ident_mem (n : Nat) (x : Int) : x ∈ ident n ↔ 0 ≤ x ∧ x < n := by
  constructor
  · intro h
    have := (upFrom_lt n 0).2 x h
    omega
  · rintro ⟨a, b⟩; exact upFrom_has n 0 x (by omega) (by omega)
theorem ident_nodup (n : Nat) : (ident n).Nodup := (ident_lt n).imp (fun h e => by omega)
theorem over_perm (n : Nat) (r : Int) (h0 : 0 ≤ r) (h1 : r + 2 ≤ n) : ((ident n).map fun w => over w r).Perm (ident n) := by
  refine perm_subset _ _ ?_ ?_ (by simp)
  · rw [List.nodup_iff_pairwise_ne, List.pairwise_map]
    exact (ident_nodup n).imp (fun h e => h (over_inj e))
  · intro x hx
    obtain ⟨w, hw, rfl⟩ := List.mem_map.1 hx
    have := (ident_mem n w).1 hw
    have := over_bounds (n := (n : Int)) (w := w) (r := r) (by omega) (by omega)
    exact (ident_mem n _).2 (by omega)
/-- At each rung one meets just one, or is alone. -/
theorem meets_all (n : Nat) : ∀ (l : List Int) (a : Int), (∀ x ∈ l, 0 ≤ x ∧ x + 2 ≤ n) → 0 ≤ a → a < n → ((ident n).map fun b => meetGo a b l).sum = l.length
  | [], a, _, _, _ => sum_zero _ _ (fun _ _ => rfl)
  | r :: l, a, h, h0, h1 => by
    have hr := h r (by simp)
    have hb := over_bounds (n := (n : Int)) (w := a) (r := r) (by omega) (by omega)
    have ih := meets_all n l (over a r) (fun x hx => h x (by simp [hx])) hb.1 (by omega)
    have e : (fun b => meetGo a b (r :: l)) = fun b => (if over a r = b then 1 else 0) + meetGo (over a r) (over b r) l := by
      funext b
      rw [meetGo]
      congr 1
      exact ite_congr (propext ⟨fun h => h.1, fun h => ⟨h, by rw [← h, over_back]⟩⟩) (fun _ => rfl) (fun _ => rfl)
    rw [e, sum_add, sum_one _ _ (ident_nodup n) ((ident_mem n _).2 (by omega))]
    have e2 : ((ident n).map fun b => meetGo (over a r) (over b r) l) = ((ident n).map fun w => over w r).map fun b => meetGo (over a r) b l := by rw [List.map_map]; rfl
    rw [e2, sum_perm ((over_perm n r hr.1 hr.2).map _), ih, List.length_cons]; omega
end Go.Proofs.YtaheijeojbimeaaL
namespace Go.Proofs.YtaheijeojbimeaaL
open Go.RowKit Go.Proofs.YtaheijeojbimeaaW.PrintWords
set_option linter.unusedVariables false
set_option linter.unusedSimpArgs false
/-- Is the one word ahead of the other? -/
def lexL : List Int → List Int → Bool
  | [], b => decide (0 < b.length)
  | _ :: _, [] => false
  | x :: a, y :: b => if x = y then lexL a b else decide (x < y)
end Go.Proofs.YtaheijeojbimeaaL
namespace Go.Proofs.YtaheijeojbimeaaL
open Go.RowKit Go.Proofs.YtaheijeojbimeaaW.PrintWords
set_option linter.unusedVariables false
set_option linter.unusedSimpArgs false
/-- A rung at the top exchanges two places of the result. -/
theorem resL_cons (n : Nat) (r : Int) (l : List Int) (h0 : 0 ≤ r) (h1 : r + 2 ≤ n) : resL (n : Int) (r :: l) = swp (resL (n : Int) l) r.toNat (r.toNat + 1) := by
  have hl : (resL (n : Int) l).length = n := by rw [resL_length]; omega
  refine ext_rd _ _ (by rw [swp_length, resL_length, resL_length]) (fun i hi => ?_)
  rw [resL_length] at hi
  rw [resL_rd _ _ i hi, swp_rd _ _ _ i (by omega) (by omega), endL]
  unfold over
  by_cases e1 : (i : Int) = r
  · rw [if_pos e1, if_neg (by omega), if_pos (by omega), resL_rd _ _ (r.toNat + 1) (by omega), show ((r.toNat + 1 : Nat) : Int) = r + 1 by omega]
  · rw [if_neg e1]
    by_cases e2 : (i : Int) = r + 1
    · rw [if_pos e2, if_pos (by omega), resL_rd _ _ r.toNat (by omega), show ((r.toNat : Nat) : Int) = r by omega]
    · rw [if_neg e2, if_neg (by omega), if_neg (by omega), resL_rd _ _ i hi]
theorem resL_nil (n : Nat) : resL (n : Int) [] = ident n := by
  refine ext_rd _ _ (by rw [resL_length, ident_length]; omega) (fun i hi => ?_)
  rw [resL_length] at hi
  rw [resL_rd _ _ i hi, rd_ident n i (by omega)]; rfl
theorem swp_swp (p : List Int) (a b : Nat) (hab : a ≠ b) (ha : a < p.length) (hb : b < p.length) : swp (swp p a b) a b = p := by
  refine ext_rd _ _ (by rw [swp_length, swp_length]) (fun i hi => ?_)
  have h1 : a < (swp p a b).length := by rw [swp_length]; exact ha
  have h2 : b < (swp p a b).length := by rw [swp_length]; exact hb
  rw [swp_rd _ _ _ i h1 h2, swp_rd _ _ _ a ha hb, swp_rd _ _ _ b ha hb, swp_rd _ _ _ i ha hb]
  by_cases e : b = i
  · subst e; rw [if_pos rfl, if_neg (fun h => hab h.symm), if_pos rfl]
  · rw [if_neg e]
    by_cases f : a = i
    · subst f; rw [if_pos rfl, if_pos rfl]
    · rw [if_neg f, if_neg e, if_neg f]
theorem invC_adj (p : List Int) (j : Nat) (hj : j + 1 < p.length) : invC p + (if rd p (j : Int) < rd p ((j + 1 : Nat) : Int) then 1 else 0) = invC (swp p j (j + 1)) + (if rd p ((j + 1 : Nat) : Int) < rd p (j : Int) then 1 else 0) := by
  have e1 := split_two p j (j + 1) (by omega) hj
  have e2 := swp_split p j (j + 1) (by omega) hj
  simp only [Nat.sub_self, List.take_zero, List.nil_append] at e1 e2
  have := invC_swap (p.take j) (rd p (j : Int)) (rd p ((j + 1 : Nat) : Int)) (p.drop (j + 1 + 1))
  rw [← e1, ← e2] at this
  exact this
theorem resL_nodup (n : Nat) (l : List Int) : (resL (n : Int) l).Nodup := by
  unfold resL
  rw [resGo_map, List.nodup_iff_pairwise_ne, List.pairwise_map]
  exact (ident_nodup _).imp (fun h e => h (endL_inj l _ _ e))
/-- At most as many inversions as rungs, and as many but for an even number. -/
theorem inv_rungs (n : Nat) : ∀ l : List Int, (∀ x ∈ l, 0 ≤ x ∧ x + 2 ≤ n) → invC (resL (n : Int) l) ≤ l.length ∧ (invC (resL (n : Int) l) + l.length) % 2 = 0
  | [], _ => by rw [resL_nil, invC_ident]; exact ⟨Nat.le_refl _, rfl⟩
  | r :: l, h => by
    have hr := h r (by simp)
    have ih := inv_rungs n l (fun x hx => h x (by simp [hx]))
    have hl : (resL (n : Int) l).length = n := by rw [resL_length]; omega
    have hp := invC_swp _ (resL_nodup n l) r.toNat (r.toNat + 1) (by omega) (by omega) (by omega)
    have ha := invC_adj (resL (n : Int) l) r.toNat (by omega)
    rw [resL_cons n r l hr.1 hr.2, List.length_cons]
    refine ⟨?_, by omega⟩
    split at ha <;> split at ha <;> omega
theorem descGo_lt (p : List Int) : ∀ d i, (descGo p d i).Pairwise (· < ·)
  | 0, _ => by simp [descGo]
  | d + 1, i => by
    unfold descGo
    split
    · rw [List.pairwise_cons]
      refine ⟨fun x hx => ?_, descGo_lt p d (i + 1)⟩
      obtain ⟨j, rfl, hj, _⟩ := descGo_mem p d (i + 1) x hx
      omega
    · exact descGo_lt p d (i + 1)
theorem desc_first {p : List Int} {a x : Int} {r : List Int} (h : desc p = a :: r) (hx : x ∈ desc p) : a ≤ x := by
  have := descGo_lt p (p.length - 1) 0
  rw [show descGo p (p.length - 1) 0 = desc p from rfl, h, List.pairwise_cons] at this
  rw [h] at hx
  rcases List.mem_cons.1 hx with rfl | hx
  · exact Int.le_refl _
  · exact Int.le_of_lt (this.1 x hx)
theorem up_ge (p : List Int) (h0 : ∀ x ∈ p, 0 ≤ x ∧ x < p.length) (hd : ∀ j : Nat, j + 1 < p.length → rd p (j : Int) < rd p ((j + 1 : Nat) : Int)) : ∀ i : Nat, i < p.length → (i : Int) ≤ rd p (i : Int)
  | 0, h => (h0 _ (rd_mem p 0 h)).1
  | i + 1, h => by
    have h1 := up_ge p h0 hd i (by omega)
    have h2 := hd i h
    omega
theorem up_le (p : List Int) (h0 : ∀ x ∈ p, 0 ≤ x ∧ x < p.length) (hd : ∀ j : Nat, j + 1 < p.length → rd p (j : Int) < rd p ((j + 1 : Nat) : Int)) : ∀ d i : Nat, i + 1 + d = p.length → rd p (i : Int) ≤ (i : Int)
  | 0, i, h => by
    have := (h0 _ (rd_mem p i (by omega))).2
    omega
  | d + 1, i, h => by
    have h1 := up_le p h0 hd d (i + 1) (by omega)
    have h2 := hd i (by omega)
    omega
/-- Without a fall each number is at its place. -/
theorem desc_none {p : List Int} (ho : isOrd p = true) (h : desc p = []) : p = ident p.length := by
  have ha := isOrd_all ho
  have hd : ∀ j : Nat, j + 1 < p.length → rd p (j : Int) < rd p ((j + 1 : Nat) : Int) := fun j hj => by
    have h1 : ¬ rd p (j : Int) > rd p ((j + 1 : Nat) : Int) := fun e => by
      have := (desc_iff p j hj).2 e
      rw [h] at this; cases this
    have h2 : rd p (j : Int) ≠ rd p ((j + 1 : Nat) : Int) := fun e => by
      have := rd_inj ha.2 _ _ (by omega) (by omega) e
      omega
    omega
  refine ext_rd _ _ (by rw [ident_length]) (fun i hi => ?_)
  rw [rd_ident _ i hi]
  have h1 := up_ge p ha.1 hd i hi
  have h2 := up_le p ha.1 hd (p.length - (i + 1)) i (by omega)
  omega
theorem leastL_all (n : Nat) : ∀ (k : Nat) (p : List Int), invC p = k → isOrd p = true → p.length = n → (leastL p).length = k ∧ (∀ x ∈ leastL p, 0 ≤ x ∧ x + 2 ≤ n) ∧ resL (n : Int) (leastL p) = p
  | 0, p, hk, ho, hn => by
    have hd : desc p = [] := by
      cases e : desc p with
      | nil => rfl
      | cons a r =>
        obtain ⟨j, rfl, hj, hr, hc⟩ := desc_head e
        omega
    rw [leastL_nil hd, resL_nil]
    have := desc_none ho hd
    rw [hn] at this
    exact ⟨rfl, by simp, this.symm⟩
  | k + 1, p, hk, ho, hn => by
    cases e : desc p with
    | nil =>
      have := desc_none ho e
      rw [this, invC_ident] at hk
      cases hk
    | cons a r =>
      obtain ⟨j, rfl, hj, hr, hc⟩ := desc_head e
      have ih := leastL_all n k (swp p j (j + 1)) (by omega) (isOrd_swp ho j hj) (by rw [swp_length]; exact hn)
      rw [leastL_cons e, toNat_cast]
      refine ⟨by rw [List.length_cons, ih.1], ?_, ?_⟩
      · intro x hx
        rcases List.mem_cons.1 hx with rfl | hx
        · omega
        · exact ih.2.1 x hx
      · rw [resL_cons n _ _ (by omega) (by omega), ih.2.2, toNat_cast, swp_swp p j (j + 1) (by omega) (by omega) hj]
/-- A least ladder is not ahead of the first one. -/
theorem least_lex (n : Nat) (h1 : 1 ≤ n) (h8 : n ≤ 8) : ∀ l : List Int, (∀ x ∈ l, 0 ≤ x ∧ x + 2 ≤ n) → isOrd (resL (n : Int) l) = true → invC (resL (n : Int) l) = l.length → lexL l (leastL (resL (n : Int) l)) = false
  | [], h, ho, hk => by
    rw [resL_nil] at hk ⊢
    have := (leastL_all n 0 (ident n) (invC_ident n) (isOrd_of_perm h1 h8 (List.Perm.refl _)) (ident_length n)).1
    rw [lexL, this]; rfl
  | r :: l, h, ho, hk => by
    have hr := h r (by simp)
    have hl : (resL (n : Int) l).length = n := by rw [resL_length]; omega
    have hc := resL_cons n r l hr.1 hr.2
    have hle := (inv_rungs n l (fun x hx => h x (by simp [hx]))).1
    have hlp : (resL (n : Int) (r :: l)).length = n := by rw [resL_length]; omega
    have hs : swp (resL (n : Int) (r :: l)) r.toNat (r.toNat + 1) = resL (n : Int) l := by
      rw [hc, swp_swp _ _ _ (by omega) (by omega) (by omega)]
    have ha := invC_adj (resL (n : Int) (r :: l)) r.toNat (by omega)
    rw [hs, hk, List.length_cons] at ha
    have hf : rd (resL (n : Int) (r :: l)) (r.toNat : Int) > rd (resL (n : Int) (r :: l)) ((r.toNat + 1 : Nat) : Int) := by
      split at ha <;> (try split at ha) <;> omega
    have hm : ((r.toNat : Nat) : Int) ∈ desc (resL (n : Int) (r :: l)) := (desc_iff _ _ (by omega)).2 hf
    have ho' : isOrd (resL (n : Int) l) = true := by rw [← hs]; exact isOrd_swp ho _ (by omega)
    have hk' : invC (resL (n : Int) l) = l.length := by split at ha <;> (try split at ha) <;> omega
    cases e : desc (resL (n : Int) (r :: l)) with
    | nil => rw [e] at hm; cases hm
    | cons a t =>
      have hle2 := desc_first e hm
      rw [leastL_cons e, lexL]
      by_cases f : r = a
      · subst f
        rw [if_pos rfl, hs]
        exact least_lex n h1 h8 l (fun x hx => h x (by simp [hx])) ho' hk'
      · rw [if_neg f]; exact decide_eq_false (by omega)
/-- Two meet an odd number of times where they come out in the other order. -/
theorem meet_parity (l : List Int) : ∀ a b : Int, a ≠ b → (meetGo a b l + (if a > b then 1 else 0) + (if endL a l > endL b l then 1 else 0)) % 2 = 0 := by
  induction l with
  | nil => intro a b h; rw [meetGo, endL, endL]; split <;> omega
  | cons r l ih =>
    intro a b h
    have hne : over a r ≠ over b r := fun e => h (over_inj e)
    have := ih (over a r) (over b r) hne
    rw [meetGo, endL, endL]
    by_cases c : over a r = b ∧ over b r = a
    · rw [if_pos c]
      rw [c.1, c.2] at this ⊢
      by_cases d : a > b
      · rw [if_pos d]; rw [if_neg (by omega)] at this; omega
      · rw [if_neg d]; rw [if_pos (by omega)] at this; omega
    · rw [if_neg c]
      have hi : (a > b) ↔ (over a r > over b r) := by
        unfold over at c ⊢
        split at c <;> split at c <;> (try split at c) <;> (try split at c) <;> (constructor <;> intro <;> (try omega)) <;> (exfalso; apply c; constructor <;> omega)
      by_cases d : a > b
      · rw [if_pos d]; rw [if_pos (hi.1 d)] at this; omega
      · rw [if_neg d]; rw [if_neg (fun e => d (hi.2 e))] at this; omega
/-- A sum over all pairs of places, the first one less. -/
def rowS (f : Nat → Nat → Nat) (a : Nat) : Nat → Nat → Nat
  | 0, _ => 0
  | d + 1, b => f a b + rowS f a d (b + 1)
def allS (f : Nat → Nat → Nat) (n : Nat) : Nat → Nat → Nat
  | 0, _ => 0
  | d + 1, a => rowS f a (n - (a + 1)) (a + 1) + allS f n d (a + 1)
def invI (p : List Int) (a b : Nat) : Nat := if rd p (a : Int) > rd p (b : Int) then 1 else 0
def meetN (l : List Int) (a b : Nat) : Nat := meetGo (a : Int) (b : Int) l
theorem invRow_S (p : List Int) (i : Nat) : ∀ d j, (invRow p i j d).length = rowS (invI p) i d j
  | 0, _ => rfl
  | d + 1, j => by
    have := invRow_S p i d (j + 1)
    unfold invRow rowS invI
    split
    · rw [List.length_cons, this]; unfold invI; omega
    · rw [this]; unfold invI; omega
theorem invFrom_S (p : List Int) : ∀ d i, (invFrom p i d).length = allS (invI p) p.length d i
  | 0, _ => rfl
  | d + 1, i => by rw [invFrom, List.length_append, invRow_S, allS, invFrom_S p d (i + 1)]
theorem invC_S (p : List Int) : invC p = allS (invI p) p.length p.length 0 := by rw [← invs_invC]; exact invFrom_S p _ _
theorem rowS_eq (f g : Nat → Nat → Nat) (a : Nat) : ∀ d b, (∀ k, b ≤ k → k < b + d → f a k = g a k) → rowS f a d b = rowS g a d b
  | 0, _, _ => rfl
  | d + 1, b, h => by rw [rowS, rowS, h b (by omega) (by omega), rowS_eq f g a d (b + 1) (fun k h1 h2 => h k (by omega) (by omega))]
theorem allS_eq (f g : Nat → Nat → Nat) (n : Nat) : ∀ d a, a + d = n → (∀ i k, i < k → k < n → f i k = g i k) → allS f n d a = allS g n d a
  | 0, _, _, _ => rfl
  | d + 1, a, hd, h => by rw [allS, allS, rowS_eq f g a _ _ (fun k h1 h2 => h a k (by omega) (by omega)), allS_eq f g n d (a + 1) (by omega) h]
theorem rowS_le (f g : Nat → Nat → Nat) (a : Nat) : ∀ d b, (∀ k, b ≤ k → k < b + d → f a k ≤ g a k) → rowS f a d b ≤ rowS g a d b
  | 0, _, _ => Nat.le_refl _
  | d + 1, b, h => by
    have h1 := h b (by omega) (by omega)
    have h2 := rowS_le f g a d (b + 1) (fun k h1 h2 => h k (by omega) (by omega))
    rw [rowS, rowS]; omega
theorem allS_le (f g : Nat → Nat → Nat) (n : Nat) : ∀ d a, a + d = n → (∀ i k, i < k → k < n → f i k ≤ g i k) → allS f n d a ≤ allS g n d a
  | 0, _, _, _ => Nat.le_refl _
  | d + 1, a, hd, h => by
    have h1 := rowS_le f g a (n - (a + 1)) (a + 1) (fun k h1 h2 => h a k (by omega) (by omega))
    have h2 := allS_le f g n d (a + 1) (by omega) h
    rw [allS, allS]; omega
/-- All pairs of a list, and all pairs twice with each one by itself. -/
theorem sum_pairs (f : Int → Int → Nat) (hf : ∀ x y, f x y = f y x) : ∀ (d a : Nat), ((upFrom d a).map fun x => ((upFrom d a).map fun y => f x y).sum).sum = 2 * allS (fun i k => f (i : Int) (k : Int)) (a + d) d a + ((upFrom d a).map fun x => f x x).sum
  | 0, a => rfl
  | d + 1, a => by
    have ih := sum_pairs f hf d (a + 1)
    have hrow : ∀ (d b : Nat), rowS (fun i k => f (i : Int) (k : Int)) a d b = ((upFrom d b).map fun y => f (a : Int) y).sum := by
      intro d
      induction d with
      | zero => intro b; rfl
      | succ d ih => intro b; rw [rowS, ih, upFrom, List.map_cons, List.sum_cons]
    rw [allS, hrow, show a + (d + 1) - (a + 1) = d by omega, show a + (d + 1) = a + 1 + d by omega]
    simp only [upFrom, List.map_cons, List.sum_cons]
    rw [sum_add, ih]
    have e : ((upFrom d (a + 1)).map fun x => f x (a : Int)) = (upFrom d (a + 1)).map fun y => f (a : Int) y := by
      congr 1; funext x; exact hf x _
    rw [e]
    omega
theorem sum_const (c : Nat) : ∀ l : List Int, (l.map fun _ => c).sum = l.length * c
  | [] => by simp
  | x :: l => by rw [List.map_cons, List.sum_cons, sum_const c l, List.length_cons, Nat.succ_mul]; omega
/-- Each rung is gone over by two. -/
theorem used_all (n : Nat) : ∀ l : List Int, (∀ x ∈ l, 0 ≤ x ∧ x + 2 ≤ n) → ((ident n).map fun a => nUsed a l).sum = 2 * l.length
  | [], _ => sum_zero _ _ (fun _ _ => rfl)
  | r :: l, h => by
    have hr := h r (by simp)
    have ih := used_all n l (fun x hx => h x (by simp [hx]))
    have e : (fun a => nUsed a (r :: l)) = fun a => (fun a => (if r = a then 1 else 0) + (if r + 1 = a then 1 else 0)) a + nUsed (over a r) l := by
      funext a
      rw [nUsed]
      congr 1
      show (if over a r = a then 0 else 1) = (if r = a then 1 else 0) + (if r + 1 = a then 1 else 0)
      by_cases c : over a r = a
      · have : ¬ (a = r ∨ a = r + 1) := fun z => (over_ne a r).2 z c
        rw [if_pos c, if_neg (fun z => this (Or.inl z.symm)), if_neg (fun z => this (Or.inr z.symm))]
      · rw [if_neg c]
        rcases (over_ne a r).1 c with z | z
        · rw [if_pos z.symm, if_neg (by omega)]
        · rw [if_neg (by omega), if_pos z.symm]
    rw [e, sum_add, sum_add, sum_one _ _ (ident_nodup n) ((ident_mem n _).2 (by omega)), sum_one _ _ (ident_nodup n) ((ident_mem n _).2 (by omega))]
    have e2 : ((ident n).map fun a => nUsed (over a r) l) = ((ident n).map fun w => over w r).map fun a => nUsed a l := by rw [List.map_map]; rfl
    rw [e2, sum_perm ((over_perm n r hr.1 hr.2).map _), ih, List.length_cons]; omega
/-- All meetings are all rungs. -/
theorem meets_rungs (n : Nat) (l : List Int) (h : ∀ x ∈ l, 0 ≤ x ∧ x + 2 ≤ n) : allS (meetN l) n n 0 = l.length := by
  have h1 := sum_pairs (fun x y => meetGo x y l) (fun x y => meet_comm l x y) n 0
  have h2 : ((ident n).map fun x => ((ident n).map fun y => meetGo x y l).sum) = (ident n).map fun _ => l.length := by
    apply List.map_congr_left
    intro x hx
    have := (ident_mem n x).1 hx
    exact meets_all n l x h this.1 this.2
  have h3 : (((ident n).map fun x => meetGo x x l).sum) + ((ident n).map fun a => nUsed a l).sum = n * l.length := by
    rw [← sum_add]
    have : (fun x => meetGo x x l + nUsed x l) = fun _ => l.length := by funext x; exact meet_self l x
    rw [this, sum_const, ident_length]
  rw [used_all n l h] at h3
  unfold ident at h2 h3
  rw [h2, sum_const, upFrom_length, Nat.zero_add] at h1
  have e : (fun (i k : Nat) => meetGo (i : Int) (k : Int) l) = meetN l := rfl
  rw [e] at h1
  omega
theorem meet_inv (n : Nat) (l : List Int) (a b : Nat) (hab : a < b) (hb : b < n) : (meetN l a b + invI (resL (n : Int) l) a b) % 2 = 0 := by
  have := meet_parity l (a : Int) (b : Int) (by omega)
  unfold meetN invI
  rw [resL_rd _ _ a (by omega), resL_rd _ _ b (by omega)]
  rw [if_neg (by omega)] at this
  omega
theorem invI_le (p : List Int) (a b : Nat) : invI p a b ≤ 1 := by unfold invI; split <;> omega
theorem twiceIn_none (l : List Int) (a : Nat) : ∀ d b, twiceIn l a d b = none → ∀ k, b ≤ k → k < b + d → meetN l a k ≤ 1
  | 0, _, _, k, h1, h2 => by omega
  | d + 1, b, h, k, h1, h2 => by
    unfold twiceIn at h
    split at h
    · cases h
    · rename_i c
      by_cases e : b = k
      · subst e; unfold meetN; omega
      · exact twiceIn_none l a d (b + 1) h k (by omega) (by omega)
theorem twiceIn_some (l : List Int) (a : Nat) : ∀ d b r, twiceIn l a d b = some r → ∃ k, b ≤ k ∧ k < b + d ∧ r = [(a : Int), (k : Int)] ∧ meetN l a k ≥ 2
  | 0, _, _, h => by cases h
  | d + 1, b, r, h => by
    unfold twiceIn at h
    split at h
    · rename_i c
      cases h
      exact ⟨b, by omega, by omega, rfl, c⟩
    · obtain ⟨k, h1, h2, h3⟩ := twiceIn_some l a d (b + 1) r h
      exact ⟨k, by omega, by omega, h3⟩
theorem twiceGo_none (l : List Int) (n : Nat) : ∀ d a, a + d = n → twiceGo l n d a = none → ∀ i k, a ≤ i → i < k → k < n → meetN l i k ≤ 1
  | 0, a, hd, _, i, k, h1, h2, h3 => by omega
  | d + 1, a, hd, h, i, k, h1, h2, h3 => by
    unfold twiceGo at h
    split at h
    · cases h
    · rename_i c
      by_cases e : a = i
      · subst e; exact twiceIn_none l a _ _ c k (by omega) (by omega)
      · exact twiceGo_none l n d (a + 1) (by omega) h i k (by omega) h2 h3
theorem twiceGo_some (l : List Int) (n : Nat) : ∀ d a r, a + d = n → twiceGo l n d a = some r → ∃ i k, i < k ∧ k < n ∧ r = [(i : Int), (k : Int)] ∧ meetN l i k ≥ 2
  | 0, _, _, _, h => by cases h
  | d + 1, a, r, hd, h => by
    unfold twiceGo at h
    split at h
    · rename_i r' c
      cases h
      obtain ⟨k, h1, h2, h3, h4⟩ := twiceIn_some l a _ _ r c
      exact ⟨a, k, by omega, by omega, h3, h4⟩
    · exact twiceGo_some l n d (a + 1) r (by omega) h
/-- Where no two meet twice, each two meet as their ends tell; and there are as many rungs as inversions. -/
theorem twice_none (n : Nat) (l : List Int) (h : ∀ x ∈ l, 0 ≤ x ∧ x + 2 ≤ n) (ht : twiceL (n : Int) l = none) : (∀ i k, i < k → k < n → meetN l i k = invI (resL (n : Int) l) i k) ∧ invC (resL (n : Int) l) = l.length := by
  have hn : ((n : Int)).toNat = n := by omega
  unfold twiceL at ht
  rw [hn] at ht
  have h1 : ∀ i k, i < k → k < n → meetN l i k = invI (resL (n : Int) l) i k := fun i k hik hk => by
    have h1 := twiceGo_none l n n 0 (by omega) ht i k (by omega) hik hk
    have h2 := meet_inv n l i k hik hk
    have h3 := invI_le (resL (n : Int) l) i k
    omega
  refine ⟨h1, ?_⟩
  have hl : (resL (n : Int) l).length = n := by rw [resL_length]; omega
  rw [invC_S, hl, ← meets_rungs n l h]
  exact (allS_eq _ _ n n 0 (by omega) h1).symm
theorem rowS_lt (f g : Nat → Nat → Nat) (a : Nat) : ∀ d b k, (∀ k, b ≤ k → k < b + d → f a k ≤ g a k) → b ≤ k → k < b + d → f a k < g a k → rowS f a d b < rowS g a d b
  | 0, _, _, _, h1, h2, _ => by omega
  | d + 1, b, k, h, h1, h2, h3 => by
    have h4 := h b (by omega) (by omega)
    have h5 := rowS_le f g a d (b + 1) (fun k h1 h2 => h k (by omega) (by omega))
    rw [rowS, rowS]
    by_cases e : b = k
    · subst e; omega
    · have := rowS_lt f g a d (b + 1) k (fun k h1 h2 => h k (by omega) (by omega)) (by omega) (by omega) h3
      omega
theorem allS_lt (f g : Nat → Nat → Nat) (n : Nat) : ∀ d a i k, a + d = n → (∀ i k, i < k → k < n → f i k ≤ g i k) → a ≤ i → i < k → k < n → f i k < g i k → allS f n d a < allS g n d a
  | 0, _, _, _, hd, _, h1, h2, h3, _ => by omega
  | d + 1, a, i, k, hd, h, h1, h2, h3, h4 => by
    have h5 := rowS_le f g a (n - (a + 1)) (a + 1) (fun k h1 h2 => h a k (by omega) (by omega))
    have h6 := allS_le f g n d (a + 1) (by omega) h
    rw [allS, allS]
    by_cases e : a = i
    · subst e
      have := rowS_lt f g a (n - (a + 1)) (a + 1) k (fun k h1 h2 => h a k (by omega) (by omega)) (by omega) (by omega) h4
      omega
    · have := allS_lt f g n d (a + 1) i k (by omega) h (by omega) h2 h3 h4
      omega
theorem twice_some (n : Nat) (l : List Int) (h : ∀ x ∈ l, 0 ≤ x ∧ x + 2 ≤ n) (r : List Int) (ht : twiceL (n : Int) l = some r) : (∃ i k : Nat, i < k ∧ k < n ∧ r = [(i : Int), (k : Int)] ∧ meetGo (i : Int) (k : Int) l ≥ 2) ∧ invC (resL (n : Int) l) < l.length := by
  have hn : ((n : Int)).toNat = n := by omega
  unfold twiceL at ht
  rw [hn] at ht
  obtain ⟨i, k, h1, h2, h3, h4⟩ := twiceGo_some l n n 0 r (by omega) ht
  refine ⟨⟨i, k, h1, h2, h3, h4⟩, ?_⟩
  have hl : (resL (n : Int) l).length = n := by rw [resL_length]; omega
  rw [invC_S, hl, ← meets_rungs n l h]
  refine allS_lt _ _ n n 0 i k (by omega) (fun i k h1 h2 => ?_) (by omega) h1 h2 ?_
  · have h5 := meet_inv n l i k h1 h2
    have h6 := invI_le (resL (n : Int) l) i k
    omega
  · have h6 := invI_le (resL (n : Int) l) i k
    omega
theorem lex_two (a b c d : Int) : lexL [a, b] [c, d] = true ↔ a < c ∨ (a = c ∧ b < d) := by
  unfold lexL
  by_cases e : a = c
  · rw [if_pos e]
    unfold lexL
    by_cases f : b = d
    · rw [if_pos f]; unfold lexL; simp; omega
    · rw [if_neg f, decide_eq_true_eq]; omega
  · rw [if_neg e, decide_eq_true_eq]; omega
/-- The inversions, one by one: two places, the first one less, the number there greater; in order. -/
theorem invRow_all (p : List Int) (i : Nat) : ∀ d j, i < j → j + d = p.length → (∀ x ∈ invRow p i j d, ∃ b : Nat, x = [(i : Int), (b : Int)] ∧ j ≤ b ∧ b < p.length ∧ rd p (i : Int) > rd p (b : Int)) ∧ (invRow p i j d).Pairwise (fun x y => lexL x y = true)
  | 0, _, _, _ => ⟨by simp [invRow], by simp [invRow]⟩
  | d + 1, j, hij, hj => by
    have ih := invRow_all p i d (j + 1) (by omega) (by omega)
    unfold invRow
    split
    · rename_i c
      refine ⟨fun x hx => ?_, ?_⟩
      · rcases List.mem_cons.1 hx with rfl | hx
        · exact ⟨j, rfl, by omega, by omega, c⟩
        · obtain ⟨b, h1, h2, h3⟩ := ih.1 x hx
          exact ⟨b, h1, by omega, h3⟩
      · rw [List.pairwise_cons]
        refine ⟨fun x hx => ?_, ih.2⟩
        obtain ⟨b, rfl, h2, h3⟩ := ih.1 x hx
        exact (lex_two _ _ _ _).2 (Or.inr ⟨rfl, by omega⟩)
    · refine ⟨fun x hx => ?_, ih.2⟩
      obtain ⟨b, h1, h2, h3⟩ := ih.1 x hx
      exact ⟨b, h1, by omega, h3⟩
theorem invFrom_all (p : List Int) : ∀ d i, i + d = p.length → (∀ x ∈ invFrom p i d, ∃ a b : Nat, x = [(a : Int), (b : Int)] ∧ i ≤ a ∧ a < b ∧ b < p.length ∧ rd p (a : Int) > rd p (b : Int)) ∧ (invFrom p i d).Pairwise (fun x y => lexL x y = true)
  | 0, _, _ => ⟨by simp [invFrom], by simp [invFrom]⟩
  | d + 1, i, hi => by
    have ih := invFrom_all p d (i + 1) (by omega)
    have hr := invRow_all p i (p.length - (i + 1)) (i + 1) (by omega) (by omega)
    unfold invFrom
    refine ⟨fun x hx => ?_, ?_⟩
    · rcases List.mem_append.1 hx with hx | hx
      · obtain ⟨b, h1, h2, h3, h4⟩ := hr.1 x hx
        exact ⟨i, b, h1, by omega, by omega, h3, h4⟩
      · obtain ⟨a, b, h1, h2, h3⟩ := ih.1 x hx
        exact ⟨a, b, h1, by omega, h3⟩
    · rw [List.pairwise_append]
      refine ⟨hr.2, ih.2, fun x hx y hy => ?_⟩
      obtain ⟨b, rfl, h2, h3⟩ := hr.1 x hx
      obtain ⟨c, d, rfl, h4, h5⟩ := ih.1 y hy
      exact (lex_two _ _ _ _).2 (Or.inl (by omega))
theorem invs_all (p : List Int) : (∀ x ∈ invs p, ∃ a b : Nat, x = [(a : Int), (b : Int)] ∧ a < b ∧ b < p.length ∧ rd p (a : Int) > rd p (b : Int)) ∧ (invs p).Pairwise (fun x y => lexL x y = true) := by
  have := invFrom_all p p.length 0 (by omega)
  refine ⟨fun x hx => ?_, this.2⟩
  obtain ⟨a, b, h1, _, h2⟩ := this.1 x hx
  exact ⟨a, b, h1, h2⟩
end Go.Proofs.YtaheijeojbimeaaL

