-- The plain laws of these sessions that this claim uses, in one text.
import Derived.Test.YtlmiiijjjcddkaaGreatDoorLim
import Derived.Laws.BitsLemmas
import Derived.Laws.Bits64
import Derived.Lib.ItoaNum
import Derived.Lib.Join
import Derived.Lib.AtoiAll
import Derived.Lib.SplitLaws
import Derived.Lib.CutLaws
namespace Go.Proofs.YtlmiiijjjcddkaaGreatDoorL
open Go.RowKit Go.Proofs.YtlmiiijjjcddkaaGreatDoorW.PrintWords
set_option linter.unusedVariables false
set_option linter.unusedSimpArgs false
theorem wrap_id {x : Int} (h0 : -9223372036854775808 ≤ x) (h1 : x ≤ 9223372036854775807) : wrap64 x = x := by
 unfold wrap64; omega
theorem rd_cast (xs : List Int) (i : Nat) : rd xs (i : Int) = xs.getD i 0 := rfl
theorem rd_lt (xs : List Int) (i : Nat) (h : i < xs.length) : rd xs (i : Int) = xs[i] := by
 rw [rd_cast, List.getD_eq_getElem?_getD, List.getElem?_eq_getElem h]; rfl
theorem rd_mem (xs : List Int) (i : Nat) (h : i < xs.length) : rd xs (i : Int) ∈ xs := by
 rw [rd_lt xs i h]; exact List.getElem_mem h
theorem drop_rd (xs : List Int) (i : Nat) (h : i < xs.length) : xs.drop i = rd xs (i : Int) :: xs.drop (i + 1) := by
 rw [rd_lt xs i h]; exact List.drop_eq_getElem_cons h
theorem take_rd (xs : List Int) (i : Nat) (h : i < xs.length) : xs.take (i + 1) = xs.take i ++ [rd xs (i : Int)] := by
 rw [rd_lt xs i h]; exact List.take_succ_eq_append_getElem h
theorem toNat_cast (i : Nat) : ((i : Int)).toNat = i := Int.toNat_natCast i
theorem cast_lt {i n : Nat} (h : i < n) : ((i : Int) < (n : Int)) := Int.ofNat_lt.mpr h
theorem cast_nlt {i n : Nat} (h : ¬ i < n) : ¬ ((i : Int) < (n : Int)) := fun k => h (Int.ofNat_lt.mp k)
theorem succ_wrap {i n : Nat} (h : i < n) (hn : n ≤ 140737488355328) : wrap64 ((i : Int) + 1) = ((i + 1 : Nat) : Int) := by
 rw [wrap_id (by omega) (by omega)]; omega
def ordGo (n : Int) : List Int → List Int → Bool
 | _, [] => true
 | pre, x :: r => if 0 ≤ x ∧ x ≤ n - 1 then (if x ∈ pre then false else ordGo n (pre ++ [x]) r) else false
def isOrd (p : List Int) : Bool := if 1 ≤ p.length ∧ p.length ≤ 8 then ordGo p.length [] p else false
theorem ordGo_cons (n : Int) (pre : List Int) (x : Int) (r : List Int) : ordGo n pre (x :: r) = if 0 ≤ x ∧ x ≤ n - 1 then (if x ∈ pre then false else ordGo n (pre ++ [x]) r) else false := rfl
theorem ordGo_all {n : Int} : ∀ (r pre : List Int), ordGo n pre r = true → (∀ x ∈ r, 0 ≤ x ∧ x ≤ n - 1 ∧ x ∉ pre) ∧ r.Nodup
 | [], _, _ => ⟨by simp, List.nodup_nil⟩
 | x :: r, pre, h => by
  unfold ordGo at h
  split at h
  ·rename_i hx
   split at h
   ·cases h
   ·rename_i hm
    obtain ⟨h1, h2⟩ := ordGo_all r (pre ++ [x]) h
    refine ⟨fun y hy => ?_, List.nodup_cons.2 ⟨fun hx' => ?_, h2⟩⟩
    ·rcases List.mem_cons.1 hy with rfl | hy
     ·exact ⟨hx.1, hx.2, hm⟩
     ·have := h1 y hy
      exact ⟨this.1, this.2.1, fun hp => this.2.2 (List.mem_append_left _ hp)⟩
    ·exact (h1 x hx').2.2 (List.mem_append_right _ (by simp))
  ·cases h
theorem isOrd_len {p : List Int} (h : isOrd p = true) : 1 ≤ p.length ∧ p.length ≤ 8 := by
 unfold isOrd at h
 split at h
 ·assumption
 ·cases h
theorem isOrd_all {p : List Int} (h : isOrd p = true) : (∀ x ∈ p, 0 ≤ x ∧ x < p.length) ∧ p.Nodup := by
 have hl := isOrd_len h
 unfold isOrd at h
 rw [if_pos hl] at h
 obtain ⟨h1, h2⟩ := ordGo_all p [] h
 exact ⟨fun x hx => by have := h1 x hx; omega, h2⟩
theorem isOrd_rd {p : List Int} (h : isOrd p = true) (i : Nat) (hi : i < p.length) : 0 ≤ rd p (i : Int) ∧ rd p (i : Int) < p.length := (isOrd_all h).1 _ (rd_mem p i hi)
end Go.Proofs.YtlmiiijjjcddkaaGreatDoorL
namespace Go.Proofs.YtlmiiijjjcddkaaGreatDoorL
open Go.RowKit Go.Proofs.YtlmiiijjjcddkaaGreatDoorW.PrintWords
set_option linter.unusedVariables false
set_option linter.unusedSimpArgs false
theorem and255 (x : Int) (h0 : 0 ≤ x) (h1 : x < 9223372036854775808) : Go.bits .and .u64 x 255 = x % 256 := by
 have h := bits_mask .u64 63 (by decide) (fun n h₀ h₁ => by rw [IntKind.wrap_u64]; omega) 8 (by decide) x (by omega) (by omega)
 have e : ((2 : Int) ^ 8 - 1) = 255 := by decide
 have e2 : ((2 : Int) ^ 8) = 256 := by decide
 rw [e, e2] at h
 exact h
theorem top_byte (x : Int) : 0 ≤ wrap64 (Go.bits .and .u64 (IntKind.u64.wrap x / 1099511627776) 255) ∧ wrap64 (Go.bits .and .u64 (IntKind.u64.wrap x / 1099511627776) 255) ≤ 255 := by
 have e := IntKind.wrap_u64 x
 rw [and255 _ (by rw [e]; omega) (by rw [e]; omega), wrap_id (by omega) (by omega)]
 omega
theorem tmod_lt (x n : Int) (h0 : 0 ≤ x) (hn : 0 < n) : 0 ≤ Int.tmod x n ∧ Int.tmod x n < n := ⟨Int.tmod_nonneg _ h0, Int.tmod_lt_of_pos _ hn⟩
def isCode (c : List Int) : Prop := (∀ x ∈ c, 0 ≤ x ∧ x ≤ 255) ∧ c.length ≤ 1048576
theorem u8_bounds {x : Int} (h : (Lit.int .u8 x).wf = true) : 0 ≤ x ∧ x ≤ 255 := by
 simp only [Lit.wf, IntKind.min, IntKind.max, IntKind.signed, IntKind.bits, Bool.and_eq_true, decide_eq_true_eq, Bool.false_eq_true, if_false] at h
 omega
end Go.Proofs.YtlmiiijjjcddkaaGreatDoorL
namespace Go.Proofs.YtlmiiijjjcddkaaGreatDoorL
open Go.RowKit Go.Proofs.YtlmiiijjjcddkaaGreatDoorW.PrintWords
set_option linter.unusedVariables false
set_option linter.unusedSimpArgs false
end Go.Proofs.YtlmiiijjjcddkaaGreatDoorL
namespace Go.Proofs.YtlmiiijjjcddkaaGreatDoorL
open Go.RowKit Go.Proofs.YtlmiiijjjcddkaaGreatDoorW.PrintWords
set_option linter.unusedVariables false
set_option linter.unusedSimpArgs false
def backGo (p : List Int) : Nat → Nat → List Int → List Int
 | 0, _, acc => acc
 | d + 1, i, acc => backGo p d (i + 1) (acc.set (rd p (i : Int)).toNat (i : Int))
def backL (p : List Int) : List Int := backGo p p.length 0 (List.replicate p.length 0)
theorem backGo_length (p : List Int) : ∀ d i acc, (backGo p d i acc).length = acc.length
 | 0, _, _ => rfl
 | d + 1, i, acc => by rw [backGo, backGo_length p d, List.length_set]
theorem backL_length (p : List Int) : (backL p).length = p.length := by simp [backL, backGo_length]
def fewer (x : Int) : List Int → Nat
 | [] => 0
 | y :: r => (if y < x then 1 else 0) + fewer x r
def upFrom : Nat → Nat → List Int
 | 0, _ => []
 | d + 1, i => (i : Int) :: upFrom d (i + 1)
def ident (n : Nat) : List Int := upFrom n 0
theorem upFrom_length : ∀ d i, (upFrom d i).length = d
 | 0, _ => rfl
 | d + 1, i => by simp [upFrom, upFrom_length d]
theorem ident_length (n : Nat) : (ident n).length = n := upFrom_length n 0
def woL (l : List Int) (i : Int) : List Int := l.take i.toNat ++ l.drop (i.toNat + 1)
theorem woL_length (l : List Int) (i : Int) (h0 : 0 ≤ i) (h1 : i < l.length) : (woL l i).length = l.length - 1 := by
 unfold woL
 rw [List.length_append, List.length_take, List.length_drop]; omega
end Go.Proofs.YtlmiiijjjcddkaaGreatDoorL
namespace Go.Proofs.YtlmiiijjjcddkaaGreatDoorL
open Go.RowKit Go.Proofs.YtlmiiijjjcddkaaGreatDoorW.PrintWords
set_option linter.unusedVariables false
set_option linter.unusedSimpArgs false
def inB (n : Int) (x : Int) : Bool := decide (0 ≤ x) && decide (x ≤ n - 2)
def good (n : Int) (l : List Int) : Bool := decide (2 ≤ n) && decide (n ≤ 8) && decide (l.length ≤ 60) && l.all (inB n)
theorem good_iff {n : Int} {l : List Int} : good n l = true ↔ 2 ≤ n ∧ n ≤ 8 ∧ l.length ≤ 60 ∧ ∀ x ∈ l, 0 ≤ x ∧ x ≤ n - 2 := by
 unfold good inB
 simp only [Bool.and_eq_true, decide_eq_true_eq, List.all_eq_true, and_assoc]
def over (w r : Int) : Int := if w = r then r + 1 else if w = r + 1 then r else w
def wayT (w : Int) : List Int → List Int
 | [] => []
 | r :: l => over w r :: wayT (over w r) l
def wayL (w : Int) (l : List Int) : List Int := w :: wayT w l
def endL (w : Int) : List Int → Int
 | [] => w
 | r :: l => endL (over w r) l
theorem wayT_length (w : Int) (l : List Int) : (wayT w l).length = l.length := by
 induction l generalizing w with
 | nil => rfl
 | cons r l ih => simp [wayT, ih]
theorem wayL_length (w : Int) (l : List Int) : (wayL w l).length = l.length + 1 := by simp [wayL, wayT_length]
theorem rd_cons_succ (x : Int) (l : List Int) (i : Nat) : rd (x :: l) ((i + 1 : Nat) : Int) = rd l (i : Int) := by
 rw [rd_cast, rd_cast, List.getD_cons_succ]
theorem wayL_rd (w : Int) (l : List Int) : ∀ i : Nat, i ≤ l.length → rd (wayL w l) (i : Int) = endL w (l.take i) := by
  induction l generalizing w with
  | nil => intro i hi; obtain rfl : i = 0 := by simpa using hi
           rfl
  | cons r l ih =>
    intro i hi
    cases i with
    | zero => rfl
    | succ i =>
      rw [wayL, rd_cons_succ, List.take_succ_cons, endL]
      exact ih (over w r) i (by simpa using hi)
theorem wayL_last (w : Int) (l : List Int) : rd (wayL w l) (l.length : Int) = endL w l := by
 rw [wayL_rd w l l.length (Nat.le_refl _), List.take_length]
theorem endL_append (w : Int) (a b : List Int) : endL w (a ++ b) = endL (endL w a) b := by
 induction a generalizing w with
 | nil => rfl
 | cons r a ih => exact ih _
theorem over_bounds {n w r : Int} (hw : 0 ≤ w ∧ w ≤ n - 1) (hr : 0 ≤ r ∧ r ≤ n - 2) : 0 ≤ over w r ∧ over w r ≤ n - 1 := by
 unfold over
 split
 ·omega
 ·split <;> omega
theorem endL_bounds {n : Int} : ∀ (l : List Int) (w : Int), 0 ≤ w ∧ w ≤ n - 1 → (∀ x ∈ l, 0 ≤ x ∧ x ≤ n - 2) → 0 ≤ endL w l ∧ endL w l ≤ n - 1
 | [], w, hw, _ => hw
 | r :: l, w, hw, hr => endL_bounds l _ (over_bounds hw (hr r (by simp))) (fun x hx => hr x (by simp [hx]))
def resGo (l : List Int) : Nat → Nat → List Int
 | 0, _ => []
 | d + 1, i => endL (i : Int) l :: resGo l d (i + 1)
def resL (n : Int) (l : List Int) : List Int := resGo l n.toNat 0
theorem resGo_length (l : List Int) : ∀ d i, (resGo l d i).length = d
 | 0, _ => rfl
 | d + 1, i => by simp [resGo, resGo_length l d]
theorem resL_length (n : Int) (l : List Int) : (resL n l).length = n.toNat := resGo_length l _ _
end Go.Proofs.YtlmiiijjjcddkaaGreatDoorL
namespace Go.Proofs.YtlmiiijjjcddkaaGreatDoorL
open Go.RowKit Go.Proofs.YtlmiiijjjcddkaaGreatDoorW.PrintWords
set_option linter.unusedVariables false
set_option linter.unusedSimpArgs false
def invC : List Int → Nat
 | [] => 0
 | x :: r => fewer x r + invC r
theorem fewer_append (x : Int) (a b : List Int) : fewer x (a ++ b) = fewer x a + fewer x b := by
 induction a with
 | nil => simp [fewer]
 | cons y a ih => rw [List.cons_append, fewer, fewer, ih, Nat.add_assoc]
theorem invC_swap (a : List Int) (x y : Int) (b : List Int) : invC (a ++ x :: y :: b) + (if x < y then 1 else 0) = invC (a ++ y :: x :: b) + (if y < x then 1 else 0) := by
 induction a with
 | nil =>
  simp only [List.nil_append, invC, fewer]
  by_cases h1 : x < y
  ·have h2 : ¬ y < x := by omega
   simp only [if_pos h1, if_neg h2]; omega
  ·simp only [if_neg h1]
   by_cases h2 : y < x
   ·simp only [if_pos h2]; omega
   ·simp only [if_neg h2]; omega
 | cons c a ih =>
  simp only [List.cons_append, invC]
  have : fewer c (a ++ x :: y :: b) = fewer c (a ++ y :: x :: b) := by
   rw [fewer_append, fewer_append]
   simp only [fewer]; omega
  omega
theorem invC_trans : ∀ (M A : List Int) (x y : Int) (B : List Int), x ≠ y → x ∉ M → y ∉ M → (invC (A ++ x :: (M ++ y :: B)) + invC (A ++ y :: (M ++ x :: B))) % 2 = 1
 | [], A, x, y, B, h, _, _ => by
  have := invC_swap A x y B
  simp only [List.nil_append]
  by_cases h1 : x < y
  ·have h2 : ¬ y < x := by omega
   rw [if_pos h1, if_neg h2] at this; omega
  ·have h2 : y < x := by omega
   rw [if_neg h1, if_pos h2] at this; omega
 | m :: M, A, x, y, B, h, hx, hy => by
  have hxm : x ≠ m := fun e => hx (by simp [e])
  have hym : y ≠ m := fun e => hy (by simp [e])
  have h1 := invC_swap A x m (M ++ y :: B)
  have h2 := invC_trans M (A ++ [m]) x y B h (fun e => hx (by simp [e])) (fun e => hy (by simp [e]))
  have h3 := invC_swap A m y (M ++ x :: B)
  simp only [List.append_assoc, List.singleton_append, List.cons_append, List.nil_append] at h1 h2 h3 ⊢
  have e1 : (if x < m then 1 else 0) + (if m < x then 1 else 0) = 1 := by
   by_cases c : x < m
   ·rw [if_pos c, if_neg (by omega)]
   ·rw [if_neg c, if_pos (by omega)]
  have e2 : (if m < y then 1 else 0) + (if y < m then 1 else 0) = 1 := by
   by_cases c : m < y
   ·rw [if_pos c, if_neg (by omega)]
   ·rw [if_neg c, if_pos (by omega)]
  omega
def swp (p : List Int) (a b : Nat) : List Int := (p.set a (rd p (b : Int))).set b (rd p (a : Int))
theorem swp_length (p : List Int) (a b : Nat) : (swp p a b).length = p.length := by simp [swp]
theorem rd_set (p : List Int) (a : Nat) (v : Int) (i : Nat) (ha : a < p.length) : rd (p.set a v) (i : Int) = if a = i then v else rd p (i : Int) := by
 rw [rd_cast, rd_cast, List.getD_eq_getElem?_getD, List.getElem?_set]
 by_cases h : a = i
 ·rw [if_pos h, if_pos h, if_pos (by omega)]; rfl
 ·rw [if_neg h, if_neg h, ← List.getD_eq_getElem?_getD]
theorem swp_rd (p : List Int) (a b i : Nat) (ha : a < p.length) (hb : b < p.length) : rd (swp p a b) (i : Int) = if b = i then rd p (a : Int) else if a = i then rd p (b : Int) else rd p (i : Int) := by
 unfold swp
 rw [rd_set _ b _ i (by simpa using hb), rd_set p a _ i ha]
theorem split_two (p : List Int) (a b : Nat) (hab : a < b) (hb : b < p.length) : p = p.take a ++ rd p (a : Int) :: ((p.drop (a + 1)).take (b - (a + 1)) ++ rd p (b : Int) :: p.drop (b + 1)) := by
 have h1 : p = p.take a ++ p.drop a := (List.take_append_drop a p).symm
 have h2 : p.drop (a + 1) = (p.drop (a + 1)).take (b - (a + 1)) ++ (p.drop (a + 1)).drop (b - (a + 1)) := (List.take_append_drop _ _).symm
 rw [List.drop_drop, show a + 1 + (b - (a + 1)) = b by omega, drop_rd p b hb] at h2
 rw [drop_rd p a (by omega), h2] at h1
 exact h1
theorem swp_split (p : List Int) (a b : Nat) (hab : a < b) (hb : b < p.length) : swp p a b = p.take a ++ rd p (b : Int) :: ((p.drop (a + 1)).take (b - (a + 1)) ++ rd p (a : Int) :: p.drop (b + 1)) := by
 have hs := split_two p a b hab hb
 obtain ⟨A, hA⟩ : ∃ A, A = p.take a := ⟨_, rfl⟩
 obtain ⟨M, hM⟩ : ∃ M, M = (p.drop (a + 1)).take (b - (a + 1)) := ⟨_, rfl⟩
 obtain ⟨B, hB⟩ : ∃ B, B = p.drop (b + 1) := ⟨_, rfl⟩
 obtain ⟨x, hx⟩ : ∃ x, x = rd p (a : Int) := ⟨_, rfl⟩
 obtain ⟨y, hy⟩ : ∃ y, y = rd p (b : Int) := ⟨_, rfl⟩
 have lA : A.length = a := by rw [hA, List.length_take]; omega
 have lM : M.length = b - (a + 1) := by rw [hM, List.length_take, List.length_drop]; omega
 unfold swp
 rw [← hA, ← hM, ← hB, ← hx, ← hy] at hs ⊢
 rw [hs, List.set_append_right _ _ (by omega), lA, Nat.sub_self, List.set_cons_zero, List.set_append_right _ _ (by omega), lA, show b - a = (b - (a + 1)) + 1 by omega, List.set_cons_succ, List.set_append_right _ _ (by omega), lM, Nat.sub_self, List.set_cons_zero]
theorem swp_comm (p : List Int) (a b : Nat) (hab : a ≠ b) : swp p a b = swp p b a := by
 unfold swp
 exact List.set_comm _ _ hab
theorem invC_swp (p : List Int) (hp : p.Nodup) (a b : Nat) (hab : a ≠ b) (ha : a < p.length) (hb : b < p.length) : (invC p + invC (swp p a b)) % 2 = 1 := by
 have main : ∀ a b : Nat, a < b → b < p.length → (invC p + invC (swp p a b)) % 2 = 1 := by
  intro a b hab hb
  have hs := split_two p a b hab hb
  rw [swp_split p a b hab hb]
  have hn := hp
  rw [hs] at hn
  have hn2 := (List.nodup_append.1 hn).2.1
  obtain ⟨n1, n2⟩ := List.nodup_cons.1 hn2
  have n3 := (List.nodup_append.1 n2)
  have hxy : rd p (a : Int) ≠ rd p (b : Int) := fun e => n1 (by rw [e]; simp)
  have hx : rd p (a : Int) ∉ (p.drop (a + 1)).take (b - (a + 1)) := fun e => n1 (List.mem_append_left _ e)
  have hy : rd p (b : Int) ∉ (p.drop (a + 1)).take (b - (a + 1)) := fun e => n3.2.2 _ e _ (by simp) rfl
  have := invC_trans ((p.drop (a + 1)).take (b - (a + 1))) (p.take a) _ _ (p.drop (b + 1)) hxy hx hy
  rw [← hs] at this
  exact this
 rcases Nat.lt_or_gt_of_ne hab with h | h
 ·exact main a b h hb
 ·rw [swp_comm p a b hab]; exact main b a h ha
theorem invC_sorted : ∀ (l : List Int), l.Pairwise (· ≤ ·) → invC l = 0
 | [], _ => rfl
 | x :: r, h => by
  obtain ⟨h1, h2⟩ := List.pairwise_cons.1 h
  have : fewer x r = 0 := by
   clear h h2
   induction r with
   | nil => rfl
   | cons y r ih =>
    have hy := h1 y (by simp)
    rw [fewer, if_neg (by omega), ih (fun z hz => h1 z (by simp [hz]))]
  rw [invC, this, invC_sorted r h2]
theorem upFrom_pairwise : ∀ d i, (upFrom d i).Pairwise (· ≤ ·) ∧ ∀ x ∈ upFrom d i, (i : Int) ≤ x
 | 0, i => ⟨List.Pairwise.nil, by simp [upFrom]⟩
 | d + 1, i => by
  obtain ⟨h1, h2⟩ := upFrom_pairwise d (i + 1)
  refine ⟨List.pairwise_cons.2 ⟨fun y hy => by have := h2 y hy; omega, h1⟩, fun x hx => ?_⟩
  rcases List.mem_cons.1 hx with rfl | hx
  ·exact Int.le_refl _
  ·have := h2 x hx; omega
theorem invC_ident (n : Nat) : invC (ident n) = 0 := invC_sorted _ (upFrom_pairwise n 0).1
theorem rd_upFrom : ∀ (d i k : Nat), k < d → rd (upFrom d i) (k : Int) = ((i + k : Nat) : Int) := by
 intro d
 induction d with
 | zero => intro i k h; omega
 | succ d ih =>
  intro i k h
  cases k with
  | zero => rfl
  | succ k =>
   have := ih (i + 1) k (by omega)
   rw [rd_cast] at this ⊢
   rw [upFrom, List.getD_cons_succ, this]
   congr 1; omega
theorem rd_ident (n k : Nat) (h : k < n) : rd (ident n) (k : Int) = (k : Int) := by
 rw [ident, rd_upFrom n 0 k h, Nat.zero_add]
theorem ext_rd (p q : List Int) (hl : p.length = q.length) (h : ∀ i : Nat, i < p.length → rd p (i : Int) = rd q (i : Int)) : p = q := by
 refine List.ext_getElem hl (fun i h1 h2 => ?_)
 have := h i h1
 rwa [rd_lt p i h1, rd_lt q i h2] at this
end Go.Proofs.YtlmiiijjjcddkaaGreatDoorL
namespace Go.Proofs.YtlmiiijjjcddkaaGreatDoorL
open Go.RowKit Go.Proofs.YtlmiiijjjcddkaaGreatDoorW.PrintWords
set_option linter.unusedVariables false
set_option linter.unusedSimpArgs false
def addL (l : List Int) (a x : Int) : List Int := l.take a.toNat ++ [x] ++ l.drop a.toNat
theorem addL_length (l : List Int) (a x : Int) (h0 : 0 ≤ a) (h1 : a ≤ l.length) : (addL l a x).length = l.length + 1 := by
 unfold addL; simp; omega
theorem addL_good {n : Int} {l : List Int} {a x : Int} (h : good n (addL l a x) = true) : 0 ≤ x ∧ x ≤ n - 2 :=
 (good_iff.1 h).2.2.2 x (by unfold addL; simp)
end Go.Proofs.YtlmiiijjjcddkaaGreatDoorL
namespace Go.Proofs.YtlmiiijjjcddkaaGreatDoorL
open Go.RowKit Go.Proofs.YtlmiiijjjcddkaaGreatDoorW.PrintWords
set_option linter.unusedVariables false
set_option linter.unusedSimpArgs false
def digB (x : Int) : List UInt8 := [UInt8.ofNat (48 + x.toNat)]
theorem digB_num (x : Int) (h0 : 0 ≤ x) (h1 : x < 10) : strOfNums [(wrap64 (48 + x)) % 256] = ⟨(digB x).toArray⟩ := by
 unfold strOfNums digB
 rw [wrap_id (by omega) (by omega), List.map_cons, List.map_nil, show (((48 + x) % 256 : Int)).toNat = 48 + x.toNat by omega]
theorem digB_itoa (x : Int) (h0 : 0 ≤ x) (h1 : x < 10) : (⟨(Lib.decDigits x.toNat).toArray⟩ : ByteArray) = ⟨(digB x).toArray⟩ := by
 rw [Lib.decDigits_one (by omega)]; rfl
def digsB : Bool → List Int → List UInt8
 | _, [] => []
 | b, x :: r => (if b = true then [44] else []) ++ digB x ++ digsB true r
theorem digsB_length : ∀ (b : Bool) (l : List Int), (digsB b l).length ≤ 2 * l.length
 | _, [] => Nat.le_refl _
 | b, x :: r => by
  have := digsB_length true r
  rw [digsB, List.length_append, List.length_append, List.length_cons]
  have h1 : (digB x).length = 1 := rfl
  have h2 : (if b = true then [44] else ([] : List UInt8)).length ≤ 1 := by split <;> simp
  omega
theorem digsB_tail : ∀ l : List Int, digsB true l = Lib.joinTail [44] (l.map digB)
 | [] => rfl
 | x :: r => by
  rw [digsB, if_pos rfl, digsB_tail r, List.map_cons]
  simp [Lib.joinTail]
theorem digsB_join (l : List Int) : Lib.join (l.map digB) [44] = digsB false l := by
 cases l with
 | nil => rfl
 | cons x r => rw [List.map_cons, Lib.join_cons, digsB, if_neg (by simp), ← digsB_tail, List.nil_append]
theorem byte_ext {a b : ByteArray} (h : a.data.toList = b.data.toList) : a = b := by
 cases a; cases b
 simp only at h
 congr 1
 exact Array.toList_inj.1 h
theorem byte_app (a b : ByteArray) : (a ++ b).data.toList = a.data.toList ++ b.data.toList := by
 rw [ByteArray.data_append, Array.toList_append]
theorem byte_size (a : ByteArray) : a.size = a.data.toList.length := rfl
end Go.Proofs.YtlmiiijjjcddkaaGreatDoorL
namespace Go.Proofs.YtlmiiijjjcddkaaGreatDoorL
open Go.RowKit Go.Proofs.YtlmiiijjjcddkaaGreatDoorW.PrintWords
set_option linter.unusedVariables false
set_option linter.unusedSimpArgs false
def dL (i : Nat) : List UInt8 := if i < 10 then [UInt8.ofNat (48 + i)] else [UInt8.ofNat (48 + i / 10), UInt8.ofNat (48 + i % 10)]
theorem dL_eq {i : Nat} (h : i < 100) : Lib.decDigits i = dL i := by
 unfold dL
 by_cases h1 : i < 10
 ·rw [if_pos h1, Lib.decDigits_one h1]
 ·rw [if_neg h1, Lib.decDigits_two h1 h]
theorem dL_atoi0 : ∀ i : Fin 100, Lib.atoiAll (dL i.1) = .ok (i.1 : Int) := by decide +kernel
theorem dL_atoi {i : Nat} (h : i < 100) : Lib.atoiAll (dL i) = .ok (i : Int) := dL_atoi0 ⟨i, h⟩
theorem dL_inj {i j : Nat} (hi : i < 100) (hj : j < 100) (h : dL i = dL j) : i = j := by
 have h1 := dL_atoi hi
 rw [h, dL_atoi hj] at h1
 have := Lib.NumEnd.ok.inj h1
 omega
def num (t : List UInt8) : Option Nat := (List.range 100).find? fun i => dL i == t
theorem num_some {t : List UInt8} {x : Nat} (h : num t = some x) : x < 100 ∧ dL x = t := by
 unfold num at h
 exact ⟨List.mem_range.1 (List.mem_of_find?_eq_some h), by simpa using List.find?_some h⟩
theorem num_of {t : List UInt8} {x : Nat} (h : x < 100) (e : dL x = t) : num t = some x := by
 cases hn : num t with
 | some y => have := num_some hn; rw [dL_inj h this.1 (e.trans this.2.symm)]
 | none =>
  unfold num at hn
  have := List.find?_eq_none.1 hn x (List.mem_range.2 h)
  simp [e] at this
def rnP (t : List UInt8) : Int × Bool :=
 match Lib.atoiAll t with
 | .ok v => (v, decide (0 ≤ v) && decide (v ≤ 999999) && (Lib.itoa v == t))
 | .range => (Lib.atoiSat t, false)
 | _ => (0, false)
theorem rnP_num {t : List UInt8} {x : Nat} (h : num t = some x) : rnP t = ((x : Int), true) := by
 obtain ⟨h1, h2⟩ := num_some h
 have h3 := dL_atoi h1
 rw [h2] at h3
 unfold rnP
 rw [h3]
 have h4 : Lib.itoa (x : Int) = t := by
  unfold Lib.itoa
  rw [if_neg (by omega), Int.toNat_natCast, dL_eq h1, h2]
 have d0 : decide (0 ≤ (x : Int)) = true := decide_eq_true (by omega)
 have d1 : decide ((x : Int) ≤ 999999) = true := decide_eq_true (by omega)
 simp only [h4, d0, d1, beq_self_eq_true, Bool.and_self]
theorem u8_of {b : UInt8} {n : Nat} (h : b.toNat = n) : UInt8.ofNat n = b := by
 rw [← h]; exact UInt8.ofNat_toNat
theorem num_one (b : UInt8) : num [b] = if 48 ≤ b.toNat ∧ b.toNat ≤ 57 then some (b.toNat - 48) else none := by
 by_cases c : 48 ≤ b.toNat ∧ b.toNat ≤ 57
 ·rw [if_pos c]
  refine num_of (by omega) ?_
  unfold dL
  rw [if_pos (by omega), u8_of (b := b) (by omega)]
 ·rw [if_neg c]
  cases hn : num [b] with
  | none => rfl
  | some x =>
   exfalso
   obtain ⟨h1, h2⟩ := num_some hn
   unfold dL at h2
   split at h2
   ·rename_i h3
    have h4 := congrArg UInt8.toNat (List.cons.inj h2).1
    rw [UInt8.toNat_ofNat'] at h4
    omega
   ·cases (List.cons.inj h2).2
end Go.Proofs.YtlmiiijjjcddkaaGreatDoorL
namespace Go.Proofs.YtlmiiijjjcddkaaGreatDoorL
open Go.RowKit Go.Proofs.YtlmiiijjjcddkaaGreatDoorW.PrintWords
set_option linter.unusedVariables false
set_option linter.unusedSimpArgs false
def spl (c : UInt8) : List UInt8 → List (List UInt8)
 | [] => [[]]
 | b :: l => if b = c then [] :: spl c l else match spl c l with
  | [] => [[b]]
  | w :: r => (b :: w) :: r
theorem spl_ne (c : UInt8) : ∀ s, spl c s ≠ []
 | [] => by simp [spl]
 | b :: l => by
  unfold spl
  split
  ·simp
  ·split <;> simp
theorem index_cons (b c : UInt8) (l : List UInt8) : Lib.index (b :: l) [c] = if b = c then 0 else if Lib.index l [c] = -1 then -1 else Lib.index l [c] + 1 := by
 show (if ([c] : List UInt8).isPrefixOf (b :: l) = true then (0 : Int) else if (Lib.index l [c] == -1) = true then -1 else Lib.index l [c] + 1) = _
 have e : ([c] : List UInt8).isPrefixOf (b :: l) = decide (b = c) := by
  by_cases h : b = c
  ·subst h; simp [List.isPrefixOf]
  ·rw [decide_eq_false h]; simp [List.isPrefixOf]; exact fun x => h x.symm
 rw [e]
 by_cases h : b = c
 ·rw [if_pos h, if_pos (decide_eq_true h)]
 ·rw [if_neg h, if_neg (by simpa using h)]
  by_cases h2 : Lib.index l [c] = -1
  ·rw [if_pos h2, if_pos (by rw [h2]; rfl)]
  ·rw [if_neg h2, if_neg (by simpa using h2)]
theorem splitK_cons_ne (b c : UInt8) (l : List UInt8) (h : b ≠ c) (k : Nat) : ∃ w r, Lib.splitK [c] 0 k l = w :: r ∧ Lib.splitK [c] 0 k (b :: l) = (b :: w) :: r := by
 cases k with
 | zero => exact ⟨l, [], rfl, rfl⟩
 | succ k =>
  rw [Lib.splitK, Lib.splitK, index_cons, if_neg h]
  by_cases h2 : Lib.index l [c] = -1
  ·rw [if_pos h2, h2]
   exact ⟨l, [], rfl, rfl⟩
  ·have hg := Lib.index_ge l [c]
   have e : (Lib.index l [c] + 1).toNat = (Lib.index l [c]).toNat + 1 := by omega
   rw [if_neg h2, if_neg (by simpa using h2), if_neg (by simp; omega), e]
   exact ⟨_, _, rfl, by simp [Nat.add_right_comm]⟩
theorem splitK_spl (c : UInt8) : ∀ s : List UInt8, Lib.splitK [c] 0 (Lib.count s [c]) s = spl c s
 | [] => by
  have : Lib.count [] [c] = 0 := by rw [Lib.count_one]; rfl
  rw [this]; rfl
 | b :: l => by
  have ih := splitK_spl c l
  by_cases h : b = c
  ·subst h
   rw [Lib.count_cons_eq, Nat.add_comm, Lib.splitK, index_cons, if_pos rfl, if_neg (by decide), spl, if_pos rfl, ← ih]
   simp
  ·obtain ⟨w, r, e1, e2⟩ := splitK_cons_ne b c l h (Lib.count l [c])
   rw [Lib.count_cons_ne _ _ _ h, e2, spl, if_neg h, ← ih, e1]
theorem spl_join (c : UInt8) : ∀ s : List UInt8, Lib.join (spl c s) [c] = s
 | [] => rfl
 | b :: l => by
  have ih := spl_join c l
  cases hs : spl c l with
  | nil => exact absurd hs (spl_ne c l)
  | cons w r =>
   rw [hs, Lib.join_cons] at ih
   rw [spl, hs]
   by_cases h : b = c
   ·subst h
    rw [if_pos rfl, Lib.join_cons, ← ih]
    simp [Lib.joinTail]
   ·rw [if_neg h, Lib.join_cons, List.cons_append, ih]
theorem cut_at (c : UInt8) : ∀ s : List UInt8, 0 ≤ Lib.index s [c] → s = s.take (Lib.index s [c]).toNat ++ c :: s.drop ((Lib.index s [c]).toNat + 1)
 | [], h => by simp [Lib.index] at h
 | b :: l, h => by
  rw [index_cons] at h ⊢
  by_cases e : b = c
  ·subst e; rw [if_pos rfl]; simp
  ·rw [if_neg e] at h ⊢
   have hg := Lib.index_ge l [c]
   by_cases h2 : Lib.index l [c] = -1
   ·rw [if_pos h2] at h; omega
   ·rw [if_neg h2] at h ⊢
    have ih := cut_at c l (by omega)
    rw [show (Lib.index l [c] + 1).toNat = (Lib.index l [c]).toNat + 1 by omega, List.take_succ_cons, List.cons_append, List.drop_succ_cons, ← ih]
theorem cut_some {s w r : List UInt8} {c : UInt8} (h : Lib.cut s [c] = (w, r, true)) : s = w ++ c :: r := by
 unfold Lib.cut at h
 split at h
 ·rename_i h0
  obtain ⟨rfl, h2⟩ := Prod.mk.inj h
  obtain ⟨rfl, _⟩ := Prod.mk.inj h2
  exact cut_at c s h0
 ·obtain ⟨_, h2⟩ := Prod.mk.inj h
  obtain ⟨_, h3⟩ := Prod.mk.inj h2
  cases h3
theorem cut_second (d c : UInt8) (r : List UInt8) (h : d ≠ c) : Lib.cut (d :: c :: r) [c] = ([d], r, true) := by
 have e : Lib.index (d :: c :: r) [c] = 1 := by rw [index_cons, if_neg h, index_cons, if_pos rfl, if_neg (by decide)]; rfl
 unfold Lib.cut
 rw [e, if_pos (by decide)]; rfl
def ladB (n : Int) (l : List Int) : List UInt8 := digB n ++ 58 :: (if l = [] then [45] else digsB false l)
theorem digU (x : Int) (h0 : 0 ≤ x) (h1 : x < 10) : (UInt8.ofNat (48 + x.toNat)).toNat = 48 + x.toNat := by rw [UInt8.toNat_ofNat']; omega
theorem dig_ne (x : Int) (h0 : 0 ≤ x) (h1 : x < 10) (c : UInt8) (hc : c.toNat < 48 ∨ 57 < c.toNat) : UInt8.ofNat (48 + x.toNat) ≠ c := fun e => by
 have := digU x h0 h1
 rw [e] at this
 omega
theorem rnP_dig (x : Int) (h0 : 0 ≤ x) (h1 : x < 10) : rnP (digB x) = (x, true) := by
 have := rnP_num (t := digB x) (x := x.toNat) (by
  unfold digB
  rw [num_one, digU x h0 h1, if_pos (by omega)]
  congr 1; omega)
 rw [this, Int.toNat_of_nonneg h0]
theorem rnP_true {t : List UInt8} (h : (rnP t).2 = true) : 0 ≤ (rnP t).1 ∧ t = Lib.itoa (rnP t).1 := by
 unfold rnP at h ⊢
 cases hA : Lib.atoiAll t
 rotate_left
 ·rw [hA] at h; cases h
 ·rw [hA] at h; cases h
 ·rw [hA] at h
  simp only [Bool.and_eq_true, decide_eq_true_eq, beq_iff_eq] at h ⊢
  exact ⟨h.1.1, h.2.symm⟩
theorem itoa_dig (x : Int) (h0 : 0 ≤ x) (h1 : x < 10) : Lib.itoa x = digB x := by
 unfold Lib.itoa
 rw [if_neg (by omega), Lib.decDigits_one (by omega)]; rfl
def rlGo : List (List UInt8) → List Int → List Int × Bool
 | [], acc => (acc, true)
 | w :: r, acc => if (rnP w).2 = true then rlGo r (acc ++ [(rnP w).1]) else ([], false)
theorem rlGo_digs : ∀ (l acc : List Int), (∀ x ∈ l, 0 ≤ x ∧ x < 10) → rlGo (l.map digB) acc = (acc ++ l, true)
 | [], acc, _ => by simp [rlGo]
 | x :: l, acc, h => by
  have hx := h x (by simp)
  rw [List.map_cons, rlGo, rnP_dig x hx.1 hx.2, if_pos rfl, rlGo_digs l _ (fun y hy => h y (by simp [hy])), List.append_assoc]; rfl
theorem rlGo_true : ∀ (ws : List (List UInt8)) (acc r : List Int), rlGo ws acc = (r, true) → ∃ l, r = acc ++ l ∧ ws = l.map Lib.itoa ∧ ∀ x ∈ l, 0 ≤ x
 | [], acc, r, h => by
  obtain ⟨rfl, _⟩ := Prod.mk.inj h
  exact ⟨[], by simp, rfl, by simp⟩
 | w :: ws, acc, r, h => by
  rw [rlGo] at h
  by_cases hw : (rnP w).2 = true
  ·rw [if_pos hw] at h
   obtain ⟨l, h1, h2, h3⟩ := rlGo_true ws _ r h
   have h4 := rnP_true hw
   refine ⟨(rnP w).1 :: l, by rw [h1, List.append_assoc]; rfl, by rw [List.map_cons, ← h2, ← h4.2], fun x hx => ?_⟩
   rcases List.mem_cons.1 hx with rfl | hx
   ·exact h4.1
   ·exact h3 x hx
  ·rw [if_neg hw] at h
   cases (Prod.mk.inj h).2
theorem spl_digs : ∀ (l : List Int) (x : Int), (∀ y ∈ x :: l, 0 ≤ y ∧ y < 10) → spl 44 (digB x ++ digsB true l) = digB x :: l.map digB
 | [], x, h => by
  have hx := h x (by simp)
  show spl 44 [UInt8.ofNat (48 + x.toNat)] = _
  rw [spl, if_neg (dig_ne x hx.1 hx.2 44 (by decide))]; rfl
 | y :: l, x, h => by
  have hx := h x (by simp)
  have ih := spl_digs l y (fun z hz => h z (by simp at hz ⊢; exact .inr hz))
  show spl 44 (UInt8.ofNat (48 + x.toNat) :: (if true = true then [44] else []) ++ digB y ++ digsB true l) = _
  rw [if_pos rfl]
  show spl 44 (UInt8.ofNat (48 + x.toNat) :: 44 :: (digB y ++ digsB true l)) = _
  rw [spl, if_neg (dig_ne x hx.1 hx.2 44 (by decide)), spl, if_pos rfl, ih]; rfl
def rlM (t : List UInt8) : List Int × Bool := if t = [45] then ([], true) else rlGo (spl 44 t) []
theorem rlM_of (l : List Int) (h : ∀ x ∈ l, 0 ≤ x ∧ x < 10) : rlM (if l = [] then [45] else digsB false l) = (l, true) := by
 cases l with
 | nil => rfl
 | cons x l =>
  have hx := h x (by simp)
  rw [if_neg (by simp)]
  have e : digsB false (x :: l) = digB x ++ digsB true l := by rw [digsB, if_neg (by simp), List.nil_append]
  unfold rlM
  rw [e, if_neg (show ¬ (digB x ++ digsB true l = [45]) from fun e2 => dig_ne x hx.1 hx.2 45 (by decide) (List.cons.inj e2).1), spl_digs l x h]
  have := rlGo_digs (x :: l) [] h
  rwa [List.map_cons, List.nil_append] at this
theorem rlM_true {t : List UInt8} {l : List Int} (h : rlM t = (l, true)) (hs : ∀ x ∈ l, x < 10) : t = if l = [] then [45] else digsB false l := by
 unfold rlM at h
 by_cases e : t = [45]
 ·rw [if_pos e] at h
  obtain ⟨rfl, _⟩ := Prod.mk.inj h
  rw [if_pos rfl]; exact e
 ·rw [if_neg e] at h
  obtain ⟨l', h1, h2, h3⟩ := rlGo_true _ _ _ h
  rw [List.nil_append] at h1
  subst h1
  have hne : l ≠ [] := fun e3 => by subst e3; exact spl_ne 44 t h2
  have hj := spl_join 44 t
  have e4 : l.map Lib.itoa = l.map digB := List.map_congr_left fun x hx => itoa_dig x (h3 x hx) (hs x hx)
  rw [if_neg hne, ← digsB_join, ← e4, ← h2, hj]
def parI (t : List UInt8) : Int × List Int × Bool :=
 if (Lib.cut t [58]).2.2 = true ∧ (rnP (Lib.cut t [58]).1).2 = true ∧ (rlM (Lib.cut t [58]).2.1).2 = true ∧ good (rnP (Lib.cut t [58]).1).1 (rlM (Lib.cut t [58]).2.1).1 = true then ((rnP (Lib.cut t [58]).1).1, (rlM (Lib.cut t [58]).2.1).1, true) else (0, [], false)
theorem parI_of (n : Int) (l : List Int) (h : good n l = true) : parI (ladB n l) = (n, l, true) := by
 have g := good_iff.1 h
 have hc : Lib.cut (ladB n l) [58] = (digB n, if l = [] then [45] else digsB false l, true) := cut_second _ _ _ (dig_ne n (by omega) (by omega) 58 (by decide))
 have h1 := rnP_dig n (by omega) (by omega)
 have h2 := rlM_of l (fun x hx => by have := g.2.2.2 x hx; omega)
 unfold parI
 rw [hc]
 simp only [h1, h2]
 rw [if_pos ⟨trivial, trivial, trivial, h⟩]
theorem parI_or (t : List UInt8) : parI t = (0, [], false) ∨ ∃ n l, good n l = true ∧ t = ladB n l ∧ parI t = (n, l, true) := by
 unfold parI
 split
 ·rename_i h
  obtain ⟨h1, h2, h3, h4⟩ := h
  right
  refine ⟨_, _, h4, ?_, rfl⟩
  have g := good_iff.1 h4
  obtain ⟨w, r, b, hc⟩ : ∃ w r b, Lib.cut t [58] = (w, r, b) := ⟨_, _, _, rfl⟩
  rw [hc] at h1 h2 h3 h4 g ⊢
  simp only at h1 h2 h3 h4 g ⊢
  subst h1
  have e1 := cut_some hc
  have e2 := rnP_true h2
  have e3 : rlM r = ((rlM r).1, true) := by rw [← h3]
  have e4 := rlM_true e3 (fun x hx => by have := g.2.2.2 x hx; omega)
  have e5 := itoa_dig (rnP w).1 e2.1 (by omega)
  unfold ladB
  rw [← e5, ← e2.2, ← e4, e1]
 ·exact .inl rfl
theorem parse_same (F : List UInt8 → Int × List Int × Bool) (h1 : ∀ n l, good n l = true → F (ladB n l) = (n, l, true)) (t : List UInt8) (h2 : F t = (0, [], false) ∨ ∃ n l, good n l = true ∧ t = ladB n l ∧ F t = (n, l, true)) : F t = parI t := by
 rcases h2 with h2 | ⟨n, l, hg, rfl, h2⟩
 ·rcases parI_or t with h3 | ⟨n, l, hg, rfl, h3⟩
  ·rw [h2, h3]
  ·rw [h1 n l hg, h3]
 ·rw [h2, parI_of n l hg]
theorem bt_drop {s : ByteArray} {i : Nat} {b : UInt8} {t : List UInt8} (h : s.data.toList.drop i = b :: t) : i < s.size ∧ bt s (i : Int) = (b.toNat : Int) ∧ s.data.toList.drop (i + 1) = t := by
 have hl : i < s.data.toList.length := by
  rcases Nat.lt_or_ge i s.data.toList.length with h1 | h1
  ·exact h1
  ·rw [List.drop_eq_nil_of_le h1] at h; cases h
 rw [List.drop_eq_getElem_cons hl] at h
 obtain ⟨h1, h2⟩ := List.cons.inj h
 have hs : i < s.size := hl
 refine ⟨hs, ?_, h2⟩
 unfold bt
 rw [dif_pos (by rw [Int.toNat_natCast]; exact hs), ← h1]
 obtain ⟨⟨L⟩⟩ := s
 rfl
theorem digsB_len (l : List Int) : (digsB true l).length = 2 * l.length := by
 induction l with
 | nil => rfl
 | cons x l ih =>
  have h1 : (digB x).length = 1 := rfl
  rw [digsB, if_pos rfl]
  simp only [List.length_append, List.length_cons, List.length_nil, ih, h1]
  omega
theorem ladB_nil (n : Int) : ladB n [] = [UInt8.ofNat (48 + n.toNat), 58, 45] := rfl
theorem ladB_cons (n x : Int) (l : List Int) : ladB n (x :: l) = UInt8.ofNat (48 + n.toNat) :: 58 :: (digB x ++ digsB true l) := by
 unfold ladB
 rw [if_neg (by simp), digsB, if_neg (by simp)]; rfl
theorem spl_length (c : UInt8) : ∀ s : List UInt8, (spl c s).length ≤ s.length + 1 ∧ ∀ w ∈ spl c s, w.length ≤ s.length
 | [] => by simp [spl]
 | b :: l => by
  have ih := spl_length c l
  unfold spl
  split
  ·refine ⟨by rw [List.length_cons, List.length_cons]; omega, fun w hw => ?_⟩
   rcases List.mem_cons.1 hw with rfl | hw
   ·simp
   ·have := ih.2 w hw; rw [List.length_cons]; omega
  ·cases hs : spl c l with
   | nil => exact absurd hs (spl_ne c l)
   | cons w r =>
    rw [hs] at ih
    refine ⟨by simpa using Nat.le_succ_of_le ih.1, fun v hv => ?_⟩
    rcases List.mem_cons.1 hv with rfl | hv
    ·have := ih.2 w (by simp); rw [List.length_cons, List.length_cons]; omega
    ·have := ih.2 v (by simp [hv]); rw [List.length_cons]; omega
theorem cut_length (s : List UInt8) (c : UInt8) : (Lib.cut s [c]).1.length ≤ s.length ∧ (Lib.cut s [c]).2.1.length ≤ s.length := by
 unfold Lib.cut
 split
 ·exact ⟨by rw [List.length_take]; omega, by rw [List.length_drop]; omega⟩
 ·exact ⟨Nat.le_refl _, Nat.zero_le _⟩
theorem drop_bytes2 (s : ByteArray) (k : Nat) : (s.extract k s.size).data.toList = s.data.toList.drop k := by
 have : s.size = s.data.toList.length := rfl
 simp [ByteArray.data_extract]
 rw [List.take_of_length_le (by simp)]
end Go.Proofs.YtlmiiijjjcddkaaGreatDoorL
namespace Go.Proofs.YtlmiiijjjcddkaaGreatDoorL
open Go.RowKit Go.Proofs.YtlmiiijjjcddkaaGreatDoorW.PrintWords
set_option linter.unusedVariables false
set_option linter.unusedSimpArgs false
def repL (l : List Int) (k : Nat) : List Int := (List.replicate k l).flatten
theorem repL_length (l : List Int) (k : Nat) : (repL l k).length = k * l.length := by
 unfold repL
 induction k with
 | zero => simp
 | succ k ih => rw [List.replicate_succ, List.flatten_cons, List.length_append, ih, Nat.succ_mul]; omega
theorem repL_succ (l : List Int) (k : Nat) : repL l (k + 1) = l ++ repL l k := by
 unfold repL
 rw [List.replicate_succ, List.flatten_cons]
theorem sixty (n : Nat) (hn : 0 < n) : 0 ≤ (60 : Int) / (n : Int) ∧ (60 : Int) / (n : Int) ≤ 60 ∧ (60 : Int) / (n : Int) * n ≤ 60 :=
 ⟨Int.ediv_nonneg (by decide) (by omega), Int.ediv_le_self _ (by decide), Int.ediv_mul_le _ (by omega)⟩
def canRep (l : List Int) (k : Int) : Bool := decide (0 ≤ k) && (decide (l.length = 0) || decide (k ≤ (60 : Int) / (l.length : Int)))
theorem repL_small (l : List Int) (k : Int) (h : canRep l k = true) : (if l.length = 0 then [] else repL l k.toNat).length ≤ 60 := by
 split
 ·simp
 ·rename_i hl
  unfold canRep at h
  simp only [Bool.and_eq_true, Bool.or_eq_true, decide_eq_true_eq] at h
  obtain ⟨h0, h1⟩ := h
  have h2 := sixty l.length (by omega)
  have h3 : k ≤ (60 : Int) / (l.length : Int) := by rcases h1 with h1 | h1 <;> omega
  rw [repL_length]
  have h4 : k * (l.length : Int) ≤ (60 : Int) / (l.length : Int) * l.length := Int.mul_le_mul_of_nonneg_right h3 (by omega)
  have h5 : ((k.toNat * l.length : Nat) : Int) = k * (l.length : Int) := by rw [Int.natCast_mul, Int.toNat_of_nonneg h0]
  omega
end Go.Proofs.YtlmiiijjjcddkaaGreatDoorL
namespace Go.Proofs.YtlmiiijjjcddkaaGreatDoorL
open Go.RowKit Go.Proofs.YtlmiiijjjcddkaaGreatDoorW.PrintWords
set_option linter.unusedVariables false
set_option linter.unusedSimpArgs false
theorem rd_inj {p : List Int} (hp : p.Nodup) (x y : Int) (hx : 0 ≤ x ∧ x < p.length) (hy : 0 ≤ y ∧ y < p.length) (h : rd p x = rd p y) : x = y := by
 obtain ⟨i, rfl⟩ := Int.eq_ofNat_of_zero_le hx.1
 obtain ⟨j, rfl⟩ := Int.eq_ofNat_of_zero_le hy.1
 rw [rd_lt p i (by omega), rd_lt p j (by omega)] at h
 have hw := List.pairwise_iff_getElem.1 hp
 rcases Nat.lt_trichotomy i j with h1 | h1 | h1
 ·exact absurd h (hw i j (by omega) (by omega) h1)
 ·rw [h1]
 ·exact absurd h.symm (hw j i (by omega) (by omega) h1)
end Go.Proofs.YtlmiiijjjcddkaaGreatDoorL
namespace Go.Proofs.YtlmiiijjjcddkaaGreatDoorL
open Go.RowKit Go.Proofs.YtlmiiijjjcddkaaGreatDoorW.PrintWords
set_option linter.unusedVariables false
set_option linter.unusedSimpArgs false
def sgn (s : Int) (k : Nat) : Int := if k % 2 = 0 then s else -s
theorem sgn_neg (s : Int) (k : Nat) : sgn (-s) k = sgn s (1 + k) := by
 unfold sgn
 by_cases h : k % 2 = 0
 ·rw [if_pos h, if_neg (by omega)]
 ·rw [if_neg h, if_pos (by omega)]; omega
theorem sgn_add (s : Int) (a b : Nat) : sgn (sgn s a) b = sgn s (a + b) := by
 unfold sgn
 by_cases h : a % 2 = 0 <;> by_cases h2 : b % 2 = 0
 ·rw [if_pos h2, if_pos h, if_pos (by omega)]
 ·rw [if_neg h2, if_pos h, if_neg (by omega)]
 ·rw [if_pos h2, if_neg h, if_neg (by omega)]
 ·rw [if_neg h2, if_neg h, if_pos (by omega)]; omega
theorem sgn_one (s : Int) (k : Nat) (h : s = 1 ∨ s = -1) : sgn s k = 1 ∨ sgn s k = -1 := by
 unfold sgn; split <;> omega
theorem sgn_congr (s : Int) (a b : Nat) (h : (a + b) % 2 = 0) : sgn s a = sgn s b := by
 unfold sgn
 by_cases h1 : a % 2 = 0
 ·rw [if_pos h1, if_pos (by omega)]
 ·rw [if_neg h1, if_neg (by omega)]
def gr (x : Int) : List Int → Nat
 | [] => 0
 | y :: r => (if y > x then 1 else 0) + gr x r
theorem invC_snoc (a : List Int) (x : Int) : invC (a ++ [x]) = invC a + gr x a := by
 induction a with
 | nil => rfl
 | cons c a ih =>
  rw [List.cons_append, invC, invC, gr, ih, fewer_append]
  simp only [fewer, gt_iff_lt]
  omega
end Go.Proofs.YtlmiiijjjcddkaaGreatDoorL
namespace Go.Proofs.YtlmiiijjjcddkaaGreatDoorL
open Go.RowKit Go.Proofs.YtlmiiijjjcddkaaGreatDoorW.PrintWords
set_option linter.unusedVariables false
set_option linter.unusedSimpArgs false
theorem upFrom_lt : ∀ d i, (upFrom d i).Pairwise (· < ·) ∧ ∀ x ∈ upFrom d i, (i : Int) ≤ x ∧ x < ((i + d : Nat) : Int)
 | 0, i => ⟨List.Pairwise.nil, fun x hx => by cases hx⟩
 | d + 1, i => by
  obtain ⟨h1, h2⟩ := upFrom_lt d (i + 1)
  rw [upFrom]
  refine ⟨List.pairwise_cons.2 ⟨fun x hx => by have := h2 x hx; omega, h1⟩, fun x hx => ?_⟩
  rcases List.mem_cons.1 hx with rfl | hx
  ·omega
  ·have := h2 x hx; omega
theorem upFrom_has : ∀ (d i : Nat) (x : Int), (i : Int) ≤ x → x < ((i + d : Nat) : Int) → x ∈ upFrom d i
 | 0, i, x, h1, h2 => by omega
 | d + 1, i, x, h1, h2 => by
  rw [upFrom]
  by_cases e : x = i
  ·rw [e]; exact List.mem_cons_self
  ·exact List.mem_cons_of_mem _ (upFrom_has d (i + 1) x (by omega) (by omega))
theorem ident_lt (n : Nat) : (ident n).Pairwise (· < ·) := (upFrom_lt n 0).1
theorem perm_subset : ∀ (p l : List Int), p.Nodup → (∀ x ∈ p, x ∈ l) → p.length = l.length → p.Perm l
 | [], l, _, _, h => by
  obtain rfl : l = [] := List.eq_nil_of_length_eq_zero (by simpa using h.symm)
  exact List.Perm.nil
 | x :: r, l, hn, hs, hl => by
  obtain ⟨a, b, rfl⟩ := List.append_of_mem (hs x List.mem_cons_self)
  obtain ⟨n1, n2⟩ := List.nodup_cons.1 hn
  have := perm_subset r (a ++ b) n2 (fun z hz => by
   have := hs z (List.mem_cons_of_mem _ hz)
   rw [List.mem_append, List.mem_cons] at this
   rw [List.mem_append]
   rcases this with h | rfl | h
   ·exact .inl h
   ·exact absurd hz n1
   ·exact .inr h) (by simp at hl ⊢; omega)
  exact (this.cons x).trans List.perm_middle.symm
theorem isOrd_perm {p : List Int} (h : isOrd p = true) : p.Perm (ident p.length) := by
 obtain ⟨h1, h2⟩ := isOrd_all h
 refine perm_subset p _ h2 (fun x hx => ?_) (by rw [ident_length])
 have := h1 x hx
 exact upFrom_has _ 0 x (by omega) (by omega)
theorem ordGo_of (n : Int) : ∀ (r pre : List Int), (∀ x ∈ r, 0 ≤ x ∧ x ≤ n - 1 ∧ x ∉ pre) → r.Nodup → ordGo n pre r = true
 | [], _, _, _ => rfl
 | x :: r, pre, h, hn => by
  obtain ⟨n1, n2⟩ := List.nodup_cons.1 hn
  have hx := h x List.mem_cons_self
  rw [ordGo_cons, if_pos ⟨hx.1, hx.2.1⟩, if_neg hx.2.2]
  exact ordGo_of n r _ (fun z hz => by
   have := h z (List.mem_cons_of_mem _ hz)
   refine ⟨this.1, this.2.1, fun hm => ?_⟩
   rcases List.mem_append.1 hm with h3 | h3
   ·exact this.2.2 h3
   ·simp only [List.mem_singleton] at h3
    exact n1 (h3 ▸ hz)) n2
end Go.Proofs.YtlmiiijjjcddkaaGreatDoorL
namespace Go.Proofs.YtlmiiijjjcddkaaGreatDoorL
open Go.RowKit Go.Proofs.YtlmiiijjjcddkaaGreatDoorW.PrintWords
set_option linter.unusedVariables false
set_option linter.unusedSimpArgs false
end Go.Proofs.YtlmiiijjjcddkaaGreatDoorL
namespace Go.Proofs.YtlmiiijjjcddkaaGreatDoorL
open Go.RowKit Go.Proofs.YtlmiiijjjcddkaaGreatDoorW.PrintWords
set_option linter.unusedVariables false
set_option linter.unusedSimpArgs false
theorem over_inj {w v r : Int} (h : over w r = over v r) : w = v := by
 unfold over at h
 split at h <;> split at h <;> (try split at h) <;> (try split at h) <;> omega
theorem endL_inj : ∀ (l : List Int) (w v : Int), endL w l = endL v l → w = v
 | [], _, _, h => h
 | r :: l, w, v, h => over_inj (endL_inj l _ _ h)
theorem resGo_map (l : List Int) : ∀ d i, resGo l d i = (upFrom d i).map fun w => endL w l
 | 0, _ => rfl
 | d + 1, i => by rw [resGo, upFrom, List.map_cons, resGo_map l d (i + 1)]
theorem isOrd_resL {n : Int} {l : List Int} (h : good n l = true) : isOrd (resL n l) = true := by
 have hg := good_iff.1 h
 have hl : (resL n l).length = n.toNat := resL_length n l
 have hm : resL n l = (upFrom n.toNat 0).map fun w => endL w l := resGo_map l _ _
 unfold isOrd
 rw [if_pos (by omega)]
 refine ordGo_of _ _ [] (fun x hx => ?_) ?_
 ·rw [hm] at hx
  obtain ⟨w, hw, rfl⟩ := List.mem_map.1 hx
  have h1 := (upFrom_lt n.toNat 0).2 w hw
  have h2 := endL_bounds l w (n := n) (by omega) hg.2.2.2
  exact ⟨h2.1, by omega, by simp⟩
 ·rw [hm]
  refine List.Pairwise.map _ (fun a b hab h => ?_) (upFrom_lt n.toNat 0).1
  have := endL_inj l a b h
  omega
end Go.Proofs.YtlmiiijjjcddkaaGreatDoorL
namespace Go.Proofs.YtlmiiijjjcddkaaGreatDoorL
open Go.RowKit Go.Proofs.YtlmiiijjjcddkaaGreatDoorW.PrintWords
set_option linter.unusedVariables false
set_option linter.unusedSimpArgs false
end Go.Proofs.YtlmiiijjjcddkaaGreatDoorL
namespace Go.Proofs.YtlmiiijjjcddkaaGreatDoorL
open Go.RowKit Go.Proofs.YtlmiiijjjcddkaaGreatDoorW.PrintWords
set_option linter.unusedVariables false
set_option linter.unusedSimpArgs false
theorem rd_map (f : Int → Int) (xs : List Int) (i : Nat) (h : i < xs.length) : rd (xs.map f) (i : Int) = f (rd xs (i : Int)) := by
 rw [rd_lt _ _ (by simpa using h), rd_lt _ _ h, List.getElem_map]
theorem resL_rd (n : Int) (l : List Int) (i : Nat) (h : i < n.toNat) : rd (resL n l) (i : Int) = endL (i : Int) l := by
 unfold resL
 rw [resGo_map, rd_map _ _ i (by rw [upFrom_length]; exact h), rd_upFrom _ _ _ h, Nat.zero_add]
theorem over_back (w r : Int) : over (over w r) r = w := by
 unfold over
 split
 ·rw [if_neg (by omega), if_pos rfl]; omega
 ·split
  ·rw [if_pos rfl]; omega
  ·rfl
theorem ident_mem (n : Nat) (x : Int) : x ∈ ident n ↔ 0 ≤ x ∧ x < n := by
 constructor
 ·intro h
  have := (upFrom_lt n 0).2 x h
  omega
 ·rintro ⟨a, b⟩; exact upFrom_has n 0 x (by omega) (by omega)
theorem ident_nodup (n : Nat) : (ident n).Nodup := (ident_lt n).imp (fun h e => by omega)
end Go.Proofs.YtlmiiijjjcddkaaGreatDoorL
namespace Go.Proofs.YtlmiiijjjcddkaaGreatDoorL
open Go.RowKit Go.Proofs.YtlmiiijjjcddkaaGreatDoorW.PrintWords
set_option linter.unusedVariables false
set_option linter.unusedSimpArgs false
end Go.Proofs.YtlmiiijjjcddkaaGreatDoorL
namespace Go.Proofs.YtlmiiijjjcddkaaGreatDoorL
open Go.RowKit Go.Proofs.YtlmiiijjjcddkaaGreatDoorW.PrintWords
set_option linter.unusedVariables false
set_option linter.unusedSimpArgs false
theorem resL_cons (n : Nat) (r : Int) (l : List Int) (h0 : 0 ≤ r) (h1 : r + 2 ≤ n) : resL (n : Int) (r :: l) = swp (resL (n : Int) l) r.toNat (r.toNat + 1) := by
 have hl : (resL (n : Int) l).length = n := by rw [resL_length]; omega
 refine ext_rd _ _ (by rw [swp_length, resL_length, resL_length]) (fun i hi => ?_)
 rw [resL_length] at hi
 rw [resL_rd _ _ i hi, swp_rd _ _ _ i (by omega) (by omega), endL]
 unfold over
 by_cases e1 : (i : Int) = r
 ·rw [if_pos e1, if_neg (by omega), if_pos (by omega), resL_rd _ _ (r.toNat + 1) (by omega), show ((r.toNat + 1 : Nat) : Int) = r + 1 by omega]
 ·rw [if_neg e1]
  by_cases e2 : (i : Int) = r + 1
  ·rw [if_pos e2, if_pos (by omega), resL_rd _ _ r.toNat (by omega), show ((r.toNat : Nat) : Int) = r by omega]
  ·rw [if_neg e2, if_neg (by omega), if_neg (by omega), resL_rd _ _ i hi]
theorem resL_nil (n : Nat) : resL (n : Int) [] = ident n := by
 refine ext_rd _ _ (by rw [resL_length, ident_length]; omega) (fun i hi => ?_)
 rw [resL_length] at hi
 rw [resL_rd _ _ i hi, rd_ident n i (by omega)]; rfl
theorem invC_adj (p : List Int) (j : Nat) (hj : j + 1 < p.length) : invC p + (if rd p (j : Int) < rd p ((j + 1 : Nat) : Int) then 1 else 0) = invC (swp p j (j + 1)) + (if rd p ((j + 1 : Nat) : Int) < rd p (j : Int) then 1 else 0) := by
 have e1 := split_two p j (j + 1) (by omega) hj
 have e2 := swp_split p j (j + 1) (by omega) hj
 simp only [Nat.sub_self, List.take_zero, List.nil_append] at e1 e2
 have := invC_swap (p.take j) (rd p (j : Int)) (rd p ((j + 1 : Nat) : Int)) (p.drop (j + 1 + 1))
 rw [← e1, ← e2] at this
 exact this
theorem resL_nodup (n : Nat) (l : List Int) : (resL (n : Int) l).Nodup := by
 unfold resL
 rw [resGo_map, List.nodup_iff_pairwise_ne, List.pairwise_map]
 exact (ident_nodup _).imp (fun h e => h (endL_inj l _ _ e))
theorem inv_rungs (n : Nat) : ∀ l : List Int, (∀ x ∈ l, 0 ≤ x ∧ x + 2 ≤ n) → invC (resL (n : Int) l) ≤ l.length ∧ (invC (resL (n : Int) l) + l.length) % 2 = 0
 | [], _ => by rw [resL_nil, invC_ident]; exact ⟨Nat.le_refl _, rfl⟩
 | r :: l, h => by
  have hr := h r (by simp)
  have ih := inv_rungs n l (fun x hx => h x (by simp [hx]))
  have hl : (resL (n : Int) l).length = n := by rw [resL_length]; omega
  have hp := invC_swp _ (resL_nodup n l) r.toNat (r.toNat + 1) (by omega) (by omega) (by omega)
  have ha := invC_adj (resL (n : Int) l) r.toNat (by omega)
  rw [resL_cons n r l hr.1 hr.2, List.length_cons]
  refine ⟨?_, by omega⟩
  split at ha <;> split at ha <;> omega
end Go.Proofs.YtlmiiijjjcddkaaGreatDoorL
namespace Go.Proofs.YtlmiiijjjcddkaaGreatDoorL
open Go.RowKit Go.Proofs.YtlmiiijjjcddkaaGreatDoorW.PrintWords
set_option linter.unusedVariables false
set_option linter.unusedSimpArgs false
theorem backGo_at (p : List Int) (hp : isOrd p = true) : ∀ (d i : Nat) (acc : List Int), i + d = p.length → acc.length = p.length → ∀ k : Nat, k < p.length → rd (backGo p d i acc) (rd p (k : Int)) = if i ≤ k then (k : Int) else rd acc (rd p (k : Int))
  | 0, i, acc, hd, hl, k, hk => by rw [if_neg (by omega)]; rfl
  | d + 1, i, acc, hd, hl, k, hk => by
    have hi := isOrd_rd hp i (by omega)
    have hkk := isOrd_rd hp k hk
    rw [backGo, backGo_at p hp d (i + 1) _ (by omega) (by rw [List.length_set]; exact hl) k hk]
    have e : rd p (k : Int) = (((rd p (k : Int)).toNat : Nat) : Int) := by omega
    by_cases h : i + 1 ≤ k
    · rw [if_pos h, if_pos (by omega)]
    · rw [if_neg h]
      by_cases h2 : i = k
      · subst h2
        rw [if_pos (Nat.le_refl _), e, rd_set _ _ _ _ (by omega), if_pos (by omega)]
      · have hne : rd p (i : Int) ≠ rd p (k : Int) := fun z => by
          have := rd_inj (isOrd_all hp).2 _ _ (by omega) (by omega) z
          omega
        rw [if_neg (by omega), e, rd_set _ _ _ _ (by omega), if_neg (by omega)]
theorem backL_rd (p : List Int) (hp : isOrd p = true) (k : Nat) (hk : k < p.length) : rd (backL p) (rd p (k : Int)) = (k : Int) := by
 unfold backL
 rw [backGo_at p hp p.length 0 _ (by omega) (by simp) k hk, if_pos (Nat.zero_le _)]
theorem isOrd_surj {p : List Int} (hp : isOrd p = true) (x : Nat) (hx : x < p.length) : ∃ k : Nat, k < p.length ∧ rd p (k : Int) = (x : Int) := by
 have h1 : (x : Int) ∈ p := (isOrd_perm hp).mem_iff.2 ((ident_mem _ _).2 ⟨by omega, by omega⟩)
 obtain ⟨k, hk, e⟩ := List.mem_iff_getElem.1 h1
 exact ⟨k, hk, by rw [rd_lt p k hk]; exact e⟩
end Go.Proofs.YtlmiiijjjcddkaaGreatDoorL
namespace Go.Proofs.YtlmiiijjjcddkaaGreatDoorL
open Go.RowKit Go.Proofs.YtlmiiijjjcddkaaGreatDoorW.PrintWords
set_option linter.unusedVariables false
set_option linter.unusedSimpArgs false
theorem endL_rev (l : List Int) : ∀ w : Int, endL (endL w l) l.reverse = w := by
 induction l with
 | nil => intro w; rfl
 | cons r l ih =>
  intro w
  have h := ih (over w r)
  rw [List.reverse_cons, endL_append]
  show over (endL (endL (over w r) l) l.reverse) r = w
  rw [h]
  exact over_back w r
theorem good_rev {n : Int} {l : List Int} (h : good n l = true) : good n l.reverse = true := by
 have g := good_iff.1 h
 exact good_iff.2 ⟨g.1, g.2.1, by rw [List.length_reverse]; exact g.2.2.1, fun x hx => g.2.2.2 x (List.mem_reverse.1 hx)⟩
theorem resL_rev {n : Int} {l : List Int} (h : good n l = true) : resL n l.reverse = backL (resL n l) := by
 have ho := isOrd_resL h
 have hl := resL_length n l
 refine ext_rd _ _ (by rw [resL_length, backL_length, hl]) (fun i hi => ?_)
 rw [resL_length] at hi
 obtain ⟨k, hk, e⟩ := isOrd_surj ho i (by omega)
 rw [resL_rd n _ i hi, ← e, backL_rd _ ho k hk, resL_rd n l k (by omega)]
 exact endL_rev l _
def mirL (n : Int) (l : List Int) : List Int := l.map fun x => n - 2 - x
theorem over_mir (n w r : Int) : over (n - 1 - w) (n - 2 - r) = n - 1 - over w r := by
 unfold over
 by_cases h1 : w = r
 ·rw [if_pos h1, if_neg (by omega), if_pos (by omega)]; omega
 ·rw [if_neg h1]
  by_cases h2 : w = r + 1
  ·rw [if_pos h2, if_pos (by omega)]; omega
  ·rw [if_neg h2, if_neg (by omega), if_neg (by omega)]
theorem endL_mir (n : Int) : ∀ (l : List Int) (w : Int), endL (n - 1 - w) (mirL n l) = n - 1 - endL w l
 | [], w => rfl
 | r :: l, w => by
  show endL (over (n - 1 - w) (n - 2 - r)) (mirL n l) = n - 1 - endL (over w r) l
  rw [over_mir, endL_mir n l]
theorem good_mir {n : Int} {l : List Int} (h : good n l = true) : good n (mirL n l) = true := by
 have g := good_iff.1 h
 refine good_iff.2 ⟨g.1, g.2.1, by unfold mirL; rw [List.length_map]; exact g.2.2.1, fun x hx => ?_⟩
 obtain ⟨y, hy, rfl⟩ := List.mem_map.1 hx
 have := g.2.2.2 y hy
 omega
theorem resL_mir {n : Int} {l : List Int} (h : good n l = true) (i : Nat) (hi : i < (resL n l).length) : rd (resL n (mirL n l)) (n - 1 - (i : Int)) = n - 1 - rd (resL n l) (i : Int) := by
 have g := good_iff.1 h
 have hl := resL_length n l
 obtain ⟨j, hj⟩ := Int.eq_ofNat_of_zero_le (show 0 ≤ n - 1 - (i : Int) by omega)
 rw [hj, resL_rd n _ j (by omega), resL_rd n l i (by omega), ← hj]
 exact endL_mir n l _
theorem sgn_len {n : Int} {l : List Int} (h : good n l = true) : (sgn 1 (invC (resL n l)) == 1) = ((l.length : Int) % 2 == 0) := by
 have g := good_iff.1 h
 obtain ⟨m, rfl⟩ := Int.eq_ofNat_of_zero_le (show 0 ≤ n by omega)
 have h2 := (inv_rungs m l (fun x hx => by have := g.2.2.2 x hx; omega)).2
 rw [sgn_congr 1 _ _ h2]
 unfold sgn
 by_cases c : l.length % 2 = 0
 ·rw [if_pos c, show ((l.length : Int)) % 2 = 0 by omega]; rfl
 ·rw [if_neg c, show ((l.length : Int)) % 2 = 1 by omega]; rfl
theorem woL_addL (l : List Int) (a x : Int) (h0 : 0 ≤ a) (h1 : a ≤ l.length) : woL (addL l a x) a = l := by
 unfold woL addL
 have e : (l.take a.toNat).length = a.toNat := by rw [List.length_take]; omega
 rw [List.append_assoc, List.take_append_of_le_length (by omega), List.take_take, Nat.min_self, List.drop_append, e, List.drop_eq_nil_of_le (by omega), List.nil_append, show a.toNat + 1 - a.toNat = 1 by omega]
 simp
theorem rd_addL (l : List Int) (a x : Int) (h0 : 0 ≤ a) (h1 : a ≤ l.length) : rd (addL l a x) a = x := by
 unfold addL
 have e : (l.take a.toNat).length = a.toNat := by rw [List.length_take]; omega
 show (l.take a.toNat ++ [x] ++ l.drop a.toNat).getD a.toNat 0 = x
 rw [List.append_assoc, List.getD_eq_getElem?_getD, List.getElem?_append_right (by omega), e, Nat.sub_self]; rfl
theorem addL_woL (l : List Int) (a : Int) (h0 : 0 ≤ a) (h1 : a < l.length) : addL (woL l a) a (rd l a) = l := by
 obtain ⟨i, rfl⟩ := Int.eq_ofNat_of_zero_le h0
 unfold woL addL
 rw [Int.toNat_natCast]
 have e : (l.take i).length = i := by rw [List.length_take]; omega
 rw [List.take_append_of_le_length (by omega), List.take_take, Nat.min_self, List.drop_append, e, Nat.sub_self, List.drop_eq_nil_of_le (by omega), List.nil_append, List.drop_zero, List.append_assoc]
 have := drop_rd l i (by omega)
 rw [List.singleton_append, ← this, List.take_append_drop]
theorem good_woL {n : Int} {l : List Int} (h : good n l = true) (a : Int) (h0 : 0 ≤ a) (h1 : a < l.length) : good n (woL l a) = true := by
 have g := good_iff.1 h
 refine good_iff.2 ⟨g.1, g.2.1, by rw [woL_length l a h0 h1]; omega, fun x hx => g.2.2.2 x ?_⟩
 unfold woL at hx
 rcases List.mem_append.1 hx with hx | hx
 ·exact List.mem_of_mem_take hx
 ·exact List.mem_of_mem_drop hx
theorem repL_snoc (l : List Int) : ∀ k : Nat, repL l (k + 1) = repL l k ++ l
 | 0 => by rw [repL_succ]; simp [repL]
 | k + 1 => by rw [repL_succ, repL_snoc l k, ← List.append_assoc, ← repL_succ, repL_snoc l k]
theorem canRep_less {l : List Int} {k : Int} (h : canRep l k = true) (h0 : 0 < k) : canRep l (k - 1) = true := by
 unfold canRep at h ⊢
 simp only [Bool.and_eq_true, Bool.or_eq_true, decide_eq_true_eq] at h ⊢
 omega
def repsL (l : List Int) (k : Int) : List Int := if l.length = 0 then [] else repL l k.toNat
theorem repsL_next {l : List Int} {k : Int} (h0 : 0 < k) : repsL l (k - 1) ++ l = repsL l k := by
 unfold repsL
 by_cases c : l.length = 0
 ·rw [if_pos c, if_pos c, List.eq_nil_of_length_eq_zero c]; rfl
 ·rw [if_neg c, if_neg c, show k.toNat = (k - 1).toNat + 1 by omega, repL_snoc]
theorem repL_mem (l : List Int) (k : Nat) (x : Int) (h : x ∈ repL l k) : x ∈ l := by
 unfold repL at h
 obtain ⟨y, hy, hx⟩ := List.mem_flatten.1 h
 rw [(List.mem_replicate.1 hy).2] at hx
 exact hx
theorem good_reps {n : Int} {l : List Int} {k : Int} (h : good n l = true) (hc : canRep l k = true) : good n (repsL l k) = true := by
 have g := good_iff.1 h
 have h2 := repL_small l k hc
 refine good_iff.2 ⟨g.1, g.2.1, h2, fun x hx => g.2.2.2 x ?_⟩
 unfold repsL at hx
 by_cases c : l.length = 0
 ·rw [if_pos c] at hx; cases hx
 ·rw [if_neg c] at hx; exact repL_mem l _ x hx
end Go.Proofs.YtlmiiijjjcddkaaGreatDoorL

