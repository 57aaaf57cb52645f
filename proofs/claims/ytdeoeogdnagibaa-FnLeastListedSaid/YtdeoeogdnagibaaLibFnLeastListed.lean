-- The plain laws of these sessions that this claim uses, in one text.
import Derived.Test.YtdeoeogdnagibaaLim
import Derived.Laws.BitsLemmas
import Derived.Laws.Bits64
namespace Go.Proofs.YtdeoeogdnagibaaL
open Go.RowKit Go.Proofs.YtdeoeogdnagibaaW.PrintWords
set_option linter.unusedVariables false
set_option linter.unusedSimpArgs false
theorem wrap_id {x : Int} (h0 : -9223372036854775808 ≤ x) (h1 : x ≤ 9223372036854775807) : wrap64 x = x := by
 unfold wrap64; omega
theorem rd_cast (xs : List Int) (i : Nat) : rd xs (i : Int) = xs.getD i 0 := rfl
theorem rd_lt (xs : List Int) (i : Nat) (h : i < xs.length) : rd xs (i : Int) = xs[i] := by
 rw [rd_cast, List.getD_eq_getElem?_getD, List.getElem?_eq_getElem h]; rfl
theorem rd_mem (xs : List Int) (i : Nat) (h : i < xs.length) : rd xs (i : Int) ∈ xs := by
 rw [rd_lt xs i h]; exact List.getElem_mem h
theorem drop_rd (xs : List Int) (i : Nat) (h : i < xs.length) : xs.drop i = rd xs (i : Int) :: xs.drop (i + 1) := by
 rw [rd_lt xs i h]; exact List.drop_eq_getElem_cons h
theorem take_rd (xs : List Int) (i : Nat) (h : i < xs.length) : xs.take (i + 1) = xs.take i ++ [rd xs (i : Int)] := by
 rw [rd_lt xs i h]; exact List.take_succ_eq_append_getElem h
theorem toNat_cast (i : Nat) : ((i : Int)).toNat = i := Int.toNat_natCast i
theorem cast_lt {i n : Nat} (h : i < n) : ((i : Int) < (n : Int)) := Int.ofNat_lt.mpr h
theorem cast_nlt {i n : Nat} (h : ¬ i < n) : ¬ ((i : Int) < (n : Int)) := fun k => h (Int.ofNat_lt.mp k)
theorem succ_wrap {i n : Nat} (h : i < n) (hn : n ≤ 140737488355328) : wrap64 ((i : Int) + 1) = ((i + 1 : Nat) : Int) := by
 rw [wrap_id (by omega) (by omega)]; omega
def ordGo (n : Int) : List Int → List Int → Bool
 | _, [] => true
 | pre, x :: r => if 0 ≤ x ∧ x ≤ n - 1 then (if x ∈ pre then false else ordGo n (pre ++ [x]) r) else false
def isOrd (p : List Int) : Bool := if 1 ≤ p.length ∧ p.length ≤ 8 then ordGo p.length [] p else false
theorem ordGo_cons (n : Int) (pre : List Int) (x : Int) (r : List Int) : ordGo n pre (x :: r) = if 0 ≤ x ∧ x ≤ n - 1 then (if x ∈ pre then false else ordGo n (pre ++ [x]) r) else false := rfl
theorem ordGo_all {n : Int} : ∀ (r pre : List Int), ordGo n pre r = true → (∀ x ∈ r, 0 ≤ x ∧ x ≤ n - 1 ∧ x ∉ pre) ∧ r.Nodup
 | [], _, _ => ⟨by simp, List.nodup_nil⟩
 | x :: r, pre, h => by
  unfold ordGo at h
  split at h
  ·rename_i hx
   split at h
   ·cases h
   ·rename_i hm
    obtain ⟨h1, h2⟩ := ordGo_all r (pre ++ [x]) h
    refine ⟨fun y hy => ?_, List.nodup_cons.2 ⟨fun hx' => ?_, h2⟩⟩
    ·rcases List.mem_cons.1 hy with rfl | hy
     ·exact ⟨hx.1, hx.2, hm⟩
     ·have := h1 y hy
      exact ⟨this.1, this.2.1, fun hp => this.2.2 (List.mem_append_left _ hp)⟩
    ·exact (h1 x hx').2.2 (List.mem_append_right _ (by simp))
  ·cases h
theorem isOrd_len {p : List Int} (h : isOrd p = true) : 1 ≤ p.length ∧ p.length ≤ 8 := by
 unfold isOrd at h
 split at h
 ·assumption
 ·cases h
theorem isOrd_all {p : List Int} (h : isOrd p = true) : (∀ x ∈ p, 0 ≤ x ∧ x < p.length) ∧ p.Nodup := by
 have hl := isOrd_len h
 unfold isOrd at h
 rw [if_pos hl] at h
 obtain ⟨h1, h2⟩ := ordGo_all p [] h
 exact ⟨fun x hx => by have := h1 x hx; omega, h2⟩
end Go.Proofs.YtdeoeogdnagibaaL
namespace Go.Proofs.YtdeoeogdnagibaaL
open Go.RowKit Go.Proofs.YtdeoeogdnagibaaW.PrintWords
set_option linter.unusedVariables false
set_option linter.unusedSimpArgs false
def invRow (p : List Int) (i : Nat) : Nat → Nat → List (List Int)
 | _, 0 => []
 | j, d + 1 => if rd p (i : Int) > rd p (j : Int) then [(i : Int), (j : Int)] :: invRow p i (j + 1) d else invRow p i (j + 1) d
def invFrom (p : List Int) : Nat → Nat → List (List Int)
 | _, 0 => []
 | i, d + 1 => invRow p i (i + 1) (p.length - (i + 1)) ++ invFrom p (i + 1) d
def invs (p : List Int) : List (List Int) := invFrom p 0 p.length
theorem invRow_length (p : List Int) (i : Nat) : ∀ d j, (invRow p i j d).length ≤ d
 | 0, _ => Nat.le_refl _
 | d + 1, j => by
  unfold invRow
  have := invRow_length p i d (j + 1)
  split
  ·simp; omega
  ·omega
theorem invFrom_length (p : List Int) : ∀ d i, (invFrom p i d).length ≤ d * p.length
 | 0, _ => by simp [invFrom]
 | d + 1, i => by
  unfold invFrom
  have h1 := invRow_length p i (p.length - (i + 1)) (i + 1)
  have h2 := invFrom_length p d (i + 1)
  rw [List.length_append, Nat.succ_mul]
  omega
theorem invs_length (p : List Int) (h : p.length ≤ 8) : (invs p).length ≤ 64 := by
 have := invFrom_length p p.length 0
 unfold invs
 have h2 : p.length * p.length ≤ 8 * 8 := Nat.mul_le_mul h h
 omega
end Go.Proofs.YtdeoeogdnagibaaL
namespace Go.Proofs.YtdeoeogdnagibaaL
open Go.RowKit Go.Proofs.YtdeoeogdnagibaaW.PrintWords
set_option linter.unusedVariables false
set_option linter.unusedSimpArgs false
def descGo (p : List Int) : Nat → Nat → List Int
 | 0, _ => []
 | d + 1, i => if rd p (i : Int) > rd p ((i : Int) + 1) then (i : Int) :: descGo p d (i + 1) else descGo p d (i + 1)
def desc (p : List Int) : List Int := descGo p (p.length - 1) 0
theorem descGo_length (p : List Int) : ∀ d i, (descGo p d i).length ≤ d
 | 0, _ => Nat.le_refl _
 | d + 1, i => by
  unfold descGo
  have := descGo_length p d (i + 1)
  split
  ·simp; omega
  ·omega
theorem desc_length (p : List Int) : (desc p).length ≤ p.length := by
 have := descGo_length p (p.length - 1) 0
 unfold desc; omega
theorem descGo_mem (p : List Int) : ∀ d i x, x ∈ descGo p d i → ∃ j : Nat, x = (j : Int) ∧ i ≤ j ∧ j < i + d ∧ rd p (j : Int) > rd p ((j : Int) + 1)
 | 0, _, x, h => by simp [descGo] at h
 | d + 1, i, x, h => by
  unfold descGo at h
  split at h
  ·rename_i hc
   rcases List.mem_cons.1 h with rfl | h
   ·exact ⟨i, rfl, Nat.le_refl _, by omega, hc⟩
   ·obtain ⟨j, h1, h2, h3, h4⟩ := descGo_mem p d (i + 1) x h
    exact ⟨j, h1, by omega, by omega, h4⟩
  ·obtain ⟨j, h1, h2, h3, h4⟩ := descGo_mem p d (i + 1) x h
   exact ⟨j, h1, by omega, by omega, h4⟩
theorem desc_mem {p : List Int} {x : Int} (h : x ∈ desc p) : ∃ j : Nat, x = (j : Int) ∧ j + 1 < p.length ∧ rd p (j : Int) > rd p ((j : Int) + 1) := by
 obtain ⟨j, h1, h2, h3, h4⟩ := descGo_mem p _ _ _ h
 exact ⟨j, h1, by omega, h4⟩
def codeGo (p : List Int) : Nat → Nat → List Int
 | 0, _ => []
 | d + 1, i => ((invRow p i (i + 1) (p.length - (i + 1))).length : Int) :: codeGo p d (i + 1)
def codeL (p : List Int) : List Int := codeGo p p.length 0
theorem codeGo_length (p : List Int) : ∀ d i, (codeGo p d i).length = d
 | 0, _ => rfl
 | d + 1, i => by simp [codeGo, codeGo_length p d]
theorem codeL_length (p : List Int) : (codeL p).length = p.length := codeGo_length p _ _
def fewer (x : Int) : List Int → Nat
 | [] => 0
 | y :: r => (if y < x then 1 else 0) + fewer x r
theorem fewer_row (p : List Int) (i : Nat) : ∀ d j, j + d = p.length → fewer (rd p (i : Int)) (p.drop j) = (invRow p i j d).length
 | 0, j, h => by rw [List.drop_eq_nil_of_le (by omega)]; rfl
 | d + 1, j, h => by
  rw [drop_rd p j (by omega), fewer, fewer_row p i d (j + 1) (by omega), invRow]
  by_cases e : rd p (j : Int) < rd p (i : Int)
  ·rw [if_pos e, if_pos e, List.length_cons]; omega
  ·rw [if_neg e, if_neg e]; omega
def upFrom : Nat → Nat → List Int
 | 0, _ => []
 | d + 1, i => (i : Int) :: upFrom d (i + 1)
def ident (n : Nat) : List Int := upFrom n 0
theorem upFrom_length : ∀ d i, (upFrom d i).length = d
 | 0, _ => rfl
 | d + 1, i => by simp [upFrom, upFrom_length d]
theorem ident_length (n : Nat) : (ident n).length = n := upFrom_length n 0
def woL (l : List Int) (i : Int) : List Int := l.take i.toNat ++ l.drop (i.toNat + 1)
def ocGo : List Int → List Int → List Int → Option (List Int)
 | _, acc, [] => some acc
 | left, acc, x :: r => if 0 ≤ x ∧ x ≤ (left.length : Int) - 1 then ocGo (woL left x) (acc ++ [rd left x]) r else none
def ocL (c : List Int) : Option (List Int) := ocGo (ident c.length) [] c
end Go.Proofs.YtdeoeogdnagibaaL
namespace Go.Proofs.YtdeoeogdnagibaaL
open Go.RowKit Go.Proofs.YtdeoeogdnagibaaW.PrintWords
set_option linter.unusedVariables false
set_option linter.unusedSimpArgs false
def invC : List Int → Nat
 | [] => 0
 | x :: r => fewer x r + invC r
theorem invFrom_invC (p : List Int) : ∀ d i, i + d = p.length → (invFrom p i d).length = invC (p.drop i)
 | 0, i, h => by rw [List.drop_eq_nil_of_le (by omega)]; rfl
 | d + 1, i, h => by
  rw [invFrom, List.length_append, invFrom_invC p d (i + 1) (by omega), drop_rd p i (by omega), invC, fewer_row p i (p.length - (i + 1)) (i + 1) (by omega)]
theorem invs_invC (p : List Int) : (invs p).length = invC p := by
 have := invFrom_invC p p.length 0 (by omega)
 simpa [invs] using this
theorem fewer_append (x : Int) (a b : List Int) : fewer x (a ++ b) = fewer x a + fewer x b := by
 induction a with
 | nil => simp [fewer]
 | cons y a ih => rw [List.cons_append, fewer, fewer, ih, Nat.add_assoc]
theorem invC_swap (a : List Int) (x y : Int) (b : List Int) : invC (a ++ x :: y :: b) + (if x < y then 1 else 0) = invC (a ++ y :: x :: b) + (if y < x then 1 else 0) := by
 induction a with
 | nil =>
  simp only [List.nil_append, invC, fewer]
  by_cases h1 : x < y
  ·have h2 : ¬ y < x := by omega
   simp only [if_pos h1, if_neg h2]; omega
  ·simp only [if_neg h1]
   by_cases h2 : y < x
   ·simp only [if_pos h2]; omega
   ·simp only [if_neg h2]; omega
 | cons c a ih =>
  simp only [List.cons_append, invC]
  have : fewer c (a ++ x :: y :: b) = fewer c (a ++ y :: x :: b) := by
   rw [fewer_append, fewer_append]
   simp only [fewer]; omega
  omega
theorem invC_trans : ∀ (M A : List Int) (x y : Int) (B : List Int), x ≠ y → x ∉ M → y ∉ M → (invC (A ++ x :: (M ++ y :: B)) + invC (A ++ y :: (M ++ x :: B))) % 2 = 1
 | [], A, x, y, B, h, _, _ => by
  have := invC_swap A x y B
  simp only [List.nil_append]
  by_cases h1 : x < y
  ·have h2 : ¬ y < x := by omega
   rw [if_pos h1, if_neg h2] at this; omega
  ·have h2 : y < x := by omega
   rw [if_neg h1, if_pos h2] at this; omega
 | m :: M, A, x, y, B, h, hx, hy => by
  have hxm : x ≠ m := fun e => hx (by simp [e])
  have hym : y ≠ m := fun e => hy (by simp [e])
  have h1 := invC_swap A x m (M ++ y :: B)
  have h2 := invC_trans M (A ++ [m]) x y B h (fun e => hx (by simp [e])) (fun e => hy (by simp [e]))
  have h3 := invC_swap A m y (M ++ x :: B)
  simp only [List.append_assoc, List.singleton_append, List.cons_append, List.nil_append] at h1 h2 h3 ⊢
  have e1 : (if x < m then 1 else 0) + (if m < x then 1 else 0) = 1 := by
   by_cases c : x < m
   ·rw [if_pos c, if_neg (by omega)]
   ·rw [if_neg c, if_pos (by omega)]
  have e2 : (if m < y then 1 else 0) + (if y < m then 1 else 0) = 1 := by
   by_cases c : m < y
   ·rw [if_pos c, if_neg (by omega)]
   ·rw [if_neg c, if_pos (by omega)]
  omega
def swp (p : List Int) (a b : Nat) : List Int := (p.set a (rd p (b : Int))).set b (rd p (a : Int))
theorem swp_length (p : List Int) (a b : Nat) : (swp p a b).length = p.length := by simp [swp]
theorem rd_set (p : List Int) (a : Nat) (v : Int) (i : Nat) (ha : a < p.length) : rd (p.set a v) (i : Int) = if a = i then v else rd p (i : Int) := by
 rw [rd_cast, rd_cast, List.getD_eq_getElem?_getD, List.getElem?_set]
 by_cases h : a = i
 ·rw [if_pos h, if_pos h, if_pos (by omega)]; rfl
 ·rw [if_neg h, if_neg h, ← List.getD_eq_getElem?_getD]
theorem swp_rd (p : List Int) (a b i : Nat) (ha : a < p.length) (hb : b < p.length) : rd (swp p a b) (i : Int) = if b = i then rd p (a : Int) else if a = i then rd p (b : Int) else rd p (i : Int) := by
 unfold swp
 rw [rd_set _ b _ i (by simpa using hb), rd_set p a _ i ha]
theorem split_two (p : List Int) (a b : Nat) (hab : a < b) (hb : b < p.length) : p = p.take a ++ rd p (a : Int) :: ((p.drop (a + 1)).take (b - (a + 1)) ++ rd p (b : Int) :: p.drop (b + 1)) := by
 have h1 : p = p.take a ++ p.drop a := (List.take_append_drop a p).symm
 have h2 : p.drop (a + 1) = (p.drop (a + 1)).take (b - (a + 1)) ++ (p.drop (a + 1)).drop (b - (a + 1)) := (List.take_append_drop _ _).symm
 rw [List.drop_drop, show a + 1 + (b - (a + 1)) = b by omega, drop_rd p b hb] at h2
 rw [drop_rd p a (by omega), h2] at h1
 exact h1
theorem swp_split (p : List Int) (a b : Nat) (hab : a < b) (hb : b < p.length) : swp p a b = p.take a ++ rd p (b : Int) :: ((p.drop (a + 1)).take (b - (a + 1)) ++ rd p (a : Int) :: p.drop (b + 1)) := by
 have hs := split_two p a b hab hb
 obtain ⟨A, hA⟩ : ∃ A, A = p.take a := ⟨_, rfl⟩
 obtain ⟨M, hM⟩ : ∃ M, M = (p.drop (a + 1)).take (b - (a + 1)) := ⟨_, rfl⟩
 obtain ⟨B, hB⟩ : ∃ B, B = p.drop (b + 1) := ⟨_, rfl⟩
 obtain ⟨x, hx⟩ : ∃ x, x = rd p (a : Int) := ⟨_, rfl⟩
 obtain ⟨y, hy⟩ : ∃ y, y = rd p (b : Int) := ⟨_, rfl⟩
 have lA : A.length = a := by rw [hA, List.length_take]; omega
 have lM : M.length = b - (a + 1) := by rw [hM, List.length_take, List.length_drop]; omega
 unfold swp
 rw [← hA, ← hM, ← hB, ← hx, ← hy] at hs ⊢
 rw [hs, List.set_append_right _ _ (by omega), lA, Nat.sub_self, List.set_cons_zero, List.set_append_right _ _ (by omega), lA, show b - a = (b - (a + 1)) + 1 by omega, List.set_cons_succ, List.set_append_right _ _ (by omega), lM, Nat.sub_self, List.set_cons_zero]
theorem swp_perm (p : List Int) (a b : Nat) (hab : a < b) (hb : b < p.length) : (swp p a b).Perm p := by
 rw [swp_split p a b hab hb]
 refine List.Perm.trans ?_ (List.Perm.of_eq (split_two p a b hab hb).symm)
 refine List.Perm.append_left _ ?_
 refine List.Perm.trans (List.Perm.cons _ List.perm_middle) (List.Perm.trans (List.Perm.swap _ _ _) (List.Perm.cons _ List.perm_middle.symm))
theorem swp_comm (p : List Int) (a b : Nat) (hab : a ≠ b) : swp p a b = swp p b a := by
 unfold swp
 exact List.set_comm _ _ hab
theorem invC_swp (p : List Int) (hp : p.Nodup) (a b : Nat) (hab : a ≠ b) (ha : a < p.length) (hb : b < p.length) : (invC p + invC (swp p a b)) % 2 = 1 := by
 have main : ∀ a b : Nat, a < b → b < p.length → (invC p + invC (swp p a b)) % 2 = 1 := by
  intro a b hab hb
  have hs := split_two p a b hab hb
  rw [swp_split p a b hab hb]
  have hn := hp
  rw [hs] at hn
  have hn2 := (List.nodup_append.1 hn).2.1
  obtain ⟨n1, n2⟩ := List.nodup_cons.1 hn2
  have n3 := (List.nodup_append.1 n2)
  have hxy : rd p (a : Int) ≠ rd p (b : Int) := fun e => n1 (by rw [e]; simp)
  have hx : rd p (a : Int) ∉ (p.drop (a + 1)).take (b - (a + 1)) := fun e => n1 (List.mem_append_left _ e)
  have hy : rd p (b : Int) ∉ (p.drop (a + 1)).take (b - (a + 1)) := fun e => n3.2.2 _ e _ (by simp) rfl
  have := invC_trans ((p.drop (a + 1)).take (b - (a + 1))) (p.take a) _ _ (p.drop (b + 1)) hxy hx hy
  rw [← hs] at this
  exact this
 rcases Nat.lt_or_gt_of_ne hab with h | h
 ·exact main a b h hb
 ·rw [swp_comm p a b hab]; exact main b a h ha
theorem invC_sorted : ∀ (l : List Int), l.Pairwise (· ≤ ·) → invC l = 0
 | [], _ => rfl
 | x :: r, h => by
  obtain ⟨h1, h2⟩ := List.pairwise_cons.1 h
  have : fewer x r = 0 := by
   clear h h2
   induction r with
   | nil => rfl
   | cons y r ih =>
    have hy := h1 y (by simp)
    rw [fewer, if_neg (by omega), ih (fun z hz => h1 z (by simp [hz]))]
  rw [invC, this, invC_sorted r h2]
theorem upFrom_pairwise : ∀ d i, (upFrom d i).Pairwise (· ≤ ·) ∧ ∀ x ∈ upFrom d i, (i : Int) ≤ x
 | 0, i => ⟨List.Pairwise.nil, by simp [upFrom]⟩
 | d + 1, i => by
  obtain ⟨h1, h2⟩ := upFrom_pairwise d (i + 1)
  refine ⟨List.pairwise_cons.2 ⟨fun y hy => by have := h2 y hy; omega, h1⟩, fun x hx => ?_⟩
  rcases List.mem_cons.1 hx with rfl | hx
  ·exact Int.le_refl _
  ·have := h2 x hx; omega
theorem invC_ident (n : Nat) : invC (ident n) = 0 := invC_sorted _ (upFrom_pairwise n 0).1
theorem rd_upFrom : ∀ (d i k : Nat), k < d → rd (upFrom d i) (k : Int) = ((i + k : Nat) : Int) := by
 intro d
 induction d with
 | zero => intro i k h; omega
 | succ d ih =>
  intro i k h
  cases k with
  | zero => rfl
  | succ k =>
   have := ih (i + 1) k (by omega)
   rw [rd_cast] at this ⊢
   rw [upFrom, List.getD_cons_succ, this]
   congr 1; omega
theorem rd_ident (n k : Nat) (h : k < n) : rd (ident n) (k : Int) = (k : Int) := by
 rw [ident, rd_upFrom n 0 k h, Nat.zero_add]
theorem ext_rd (p q : List Int) (hl : p.length = q.length) (h : ∀ i : Nat, i < p.length → rd p (i : Int) = rd q (i : Int)) : p = q := by
 refine List.ext_getElem hl (fun i h1 h2 => ?_)
 have := h i h1
 rwa [rd_lt p i h1, rd_lt q i h2] at this
end Go.Proofs.YtdeoeogdnagibaaL
namespace Go.Proofs.YtdeoeogdnagibaaL
open Go.RowKit Go.Proofs.YtdeoeogdnagibaaW.PrintWords
set_option linter.unusedVariables false
set_option linter.unusedSimpArgs false
def codeR : List Int → List Int
 | [] => []
 | x :: r => ((fewer x r : Nat) : Int) :: codeR r
theorem codeGo_R (p : List Int) : ∀ d i, i + d = p.length → codeGo p d i = codeR (p.drop i)
 | 0, i, h => by rw [List.drop_eq_nil_of_le (by omega)]; rfl
 | d + 1, i, h => by
  rw [codeGo, drop_rd p i (by omega), codeR, codeGo_R p d (i + 1) (by omega), fewer_row p i (p.length - (i + 1)) (i + 1) (by omega)]
theorem codeL_R (p : List Int) : codeL p = codeR p := by
 have := codeGo_R p p.length 0 (by omega)
 rwa [List.drop_zero] at this
theorem fewer_perm (x : Int) {a b : List Int} (h : a.Perm b) : fewer x a = fewer x b := by
 induction h with
 | nil => rfl
 | cons y _ ih => rw [fewer, fewer, ih]
 | swap y z l => rw [fewer, fewer, fewer, fewer]; omega
 | trans _ _ h1 h2 => rw [h1, h2]
theorem fewer_all (y : Int) : ∀ l : List Int, (∀ z ∈ l, z < y) → fewer y l = l.length
 | [], _ => rfl
 | z :: r, h => by
  rw [fewer, if_pos (h z List.mem_cons_self), fewer_all y r (fun w hw => h w (List.mem_cons_of_mem _ hw)), List.length_cons]; omega
theorem fewer_none (y : Int) : ∀ l : List Int, (∀ z ∈ l, ¬ z < y) → fewer y l = 0
 | [], _ => rfl
 | z :: r, h => by
  rw [fewer, if_neg (h z List.mem_cons_self), fewer_none y r (fun w hw => h w (List.mem_cons_of_mem _ hw))]
theorem sorted_mid {a b : List Int} {y : Int} (h : (a ++ y :: b).Pairwise (· < ·)) : fewer y (a ++ b) = a.length ∧ (a ++ b).Pairwise (· < ·) := by
 rw [List.pairwise_append, List.pairwise_cons] at h
 obtain ⟨h1, ⟨h2, h3⟩, h4⟩ := h
 refine ⟨?_, ?_⟩
 ·rw [fewer_append, fewer_all y a (fun z hz => h4 z hz y List.mem_cons_self), fewer_none y b (fun z hz => by have := h2 z hz; omega), Nat.add_zero]
 ·rw [List.pairwise_append]
  exact ⟨h1, h3, fun x hx z hz => h4 x hx z (List.mem_cons_of_mem _ hz)⟩
theorem rd_mid (a b : List Int) (y : Int) : rd (a ++ y :: b) ((a.length : Nat) : Int) = y := by
 rw [rd_lt _ _ (by simp)]; simp
theorem woL_mid (a b : List Int) (y : Int) : woL (a ++ y :: b) ((a.length : Nat) : Int) = a ++ b := by
 unfold woL
 rw [toNat_cast]
 have e2 : (a ++ y :: b).drop (a.length + 1) = b := by
  rw [show a ++ y :: b = (a ++ [y]) ++ b by simp]
  exact List.drop_left' (by simp)
 rw [e2, List.take_left' rfl]
theorem ocGo_order : ∀ (p left acc : List Int), left.Pairwise (· < ·) → p.Perm left → ocGo left acc (codeR p) = some (acc ++ p)
 | [], left, acc, _, _ => by rw [codeR, ocGo, List.append_nil]
 | y :: r, left, acc, hs, hp => by
  obtain ⟨a, b, rfl⟩ := List.append_of_mem (hp.subset List.mem_cons_self)
  have hr : r.Perm (a ++ b) := (hp.trans List.perm_middle).cons_inv
  obtain ⟨h1, h2⟩ := sorted_mid hs
  rw [codeR, fewer_perm y hr, h1, ocGo, if_pos ⟨Int.natCast_nonneg _, by simp; omega⟩, woL_mid, rd_mid, ocGo_order r (a ++ b) _ h2 hr, List.append_assoc]; rfl
theorem upFrom_lt : ∀ d i, (upFrom d i).Pairwise (· < ·) ∧ ∀ x ∈ upFrom d i, (i : Int) ≤ x ∧ x < ((i + d : Nat) : Int)
 | 0, i => ⟨List.Pairwise.nil, fun x hx => by cases hx⟩
 | d + 1, i => by
  obtain ⟨h1, h2⟩ := upFrom_lt d (i + 1)
  rw [upFrom]
  refine ⟨List.pairwise_cons.2 ⟨fun x hx => by have := h2 x hx; omega, h1⟩, fun x hx => ?_⟩
  rcases List.mem_cons.1 hx with rfl | hx
  ·omega
  ·have := h2 x hx; omega
theorem upFrom_has : ∀ (d i : Nat) (x : Int), (i : Int) ≤ x → x < ((i + d : Nat) : Int) → x ∈ upFrom d i
 | 0, i, x, h1, h2 => by omega
 | d + 1, i, x, h1, h2 => by
  rw [upFrom]
  by_cases e : x = i
  ·rw [e]; exact List.mem_cons_self
  ·exact List.mem_cons_of_mem _ (upFrom_has d (i + 1) x (by omega) (by omega))
theorem ident_lt (n : Nat) : (ident n).Pairwise (· < ·) := (upFrom_lt n 0).1
theorem perm_subset : ∀ (p l : List Int), p.Nodup → (∀ x ∈ p, x ∈ l) → p.length = l.length → p.Perm l
 | [], l, _, _, h => by
  obtain rfl : l = [] := List.eq_nil_of_length_eq_zero (by simpa using h.symm)
  exact List.Perm.nil
 | x :: r, l, hn, hs, hl => by
  obtain ⟨a, b, rfl⟩ := List.append_of_mem (hs x List.mem_cons_self)
  obtain ⟨n1, n2⟩ := List.nodup_cons.1 hn
  have := perm_subset r (a ++ b) n2 (fun z hz => by
   have := hs z (List.mem_cons_of_mem _ hz)
   rw [List.mem_append, List.mem_cons] at this
   rw [List.mem_append]
   rcases this with h | rfl | h
   ·exact .inl h
   ·exact absurd hz n1
   ·exact .inr h) (by simp at hl ⊢; omega)
  exact (this.cons x).trans List.perm_middle.symm
theorem isOrd_perm {p : List Int} (h : isOrd p = true) : p.Perm (ident p.length) := by
 obtain ⟨h1, h2⟩ := isOrd_all h
 refine perm_subset p _ h2 (fun x hx => ?_) (by rw [ident_length])
 have := h1 x hx
 exact upFrom_has _ 0 x (by omega) (by omega)
theorem ordGo_of (n : Int) : ∀ (r pre : List Int), (∀ x ∈ r, 0 ≤ x ∧ x ≤ n - 1 ∧ x ∉ pre) → r.Nodup → ordGo n pre r = true
 | [], _, _, _ => rfl
 | x :: r, pre, h, hn => by
  obtain ⟨n1, n2⟩ := List.nodup_cons.1 hn
  have hx := h x List.mem_cons_self
  rw [ordGo_cons, if_pos ⟨hx.1, hx.2.1⟩, if_neg hx.2.2]
  exact ordGo_of n r _ (fun z hz => by
   have := h z (List.mem_cons_of_mem _ hz)
   refine ⟨this.1, this.2.1, fun hm => ?_⟩
   rcases List.mem_append.1 hm with h3 | h3
   ·exact this.2.2 h3
   ·simp only [List.mem_singleton] at h3
    exact n1 (h3 ▸ hz)) n2
theorem isOrd_of_perm {p : List Int} {n : Nat} (h1 : 1 ≤ n) (h8 : n ≤ 8) (h : p.Perm (ident n)) : isOrd p = true := by
 have hl : p.length = n := by rw [h.length_eq, ident_length]
 unfold isOrd
 rw [if_pos ⟨by omega, by omega⟩]
 refine ordGo_of _ p [] (fun x hx => ?_) ?_
 ·have := (upFrom_lt n 0).2 x (h.subset hx)
  exact ⟨by omega, by omega, by simp⟩
 ·exact (h.nodup_iff).2 ((ident_lt n).imp (fun hab => Int.ne_of_lt hab))
theorem ocL_codeL {p : List Int} (h : isOrd p = true) : ocL (codeL p) = some p := by
 unfold ocL
 rw [codeL_length, codeL_R, ocGo_order p _ [] (ident_lt _) (isOrd_perm h)]; rfl
theorem fewer_le (x : Int) : ∀ l : List Int, fewer x l ≤ l.length
 | [] => Nat.le_refl _
 | z :: r => by
  have := fewer_le x r
  rw [fewer, List.length_cons]; split <;> omega
theorem descGo_has (p : List Int) : ∀ d i (j : Nat), i ≤ j → j < i + d → rd p (j : Int) > rd p ((j : Int) + 1) → (j : Int) ∈ descGo p d i
 | 0, i, j, h1, h2, _ => by omega
 | d + 1, i, j, h1, h2, h => by
  rw [descGo]
  by_cases e : j = i
  ·subst e; rw [if_pos h]; exact List.mem_cons_self
  ·have := descGo_has p d (i + 1) j (by omega) (by omega) h
   split
   ·exact List.mem_cons_of_mem _ this
   ·exact this
theorem desc_iff (p : List Int) (j : Nat) (hj : j + 1 < p.length) : (j : Int) ∈ desc p ↔ rd p (j : Int) > rd p ((j + 1 : Nat) : Int) := by
 constructor
 ·intro h
  obtain ⟨k, e, _, h2⟩ := desc_mem h
  obtain rfl : j = k := by omega
  exact h2
 ·intro h
  exact descGo_has p _ 0 j (by omega) (by omega) h
end Go.Proofs.YtdeoeogdnagibaaL
namespace Go.Proofs.YtdeoeogdnagibaaL
open Go.RowKit Go.Proofs.YtdeoeogdnagibaaW.PrintWords
set_option linter.unusedVariables false
set_option linter.unusedSimpArgs false
theorem invC_fall (p : List Int) (j : Nat) (hj : j + 1 < p.length) (h : rd p (j : Int) > rd p ((j : Int) + 1)) : invC p = invC (swp p j (j + 1)) + 1 := by
 have h' : rd p (j : Int) > rd p ((j + 1 : Nat) : Int) := h
 have e1 := split_two p j (j + 1) (by omega) hj
 have e2 := swp_split p j (j + 1) (by omega) hj
 simp only [Nat.sub_self, List.take_zero, List.nil_append] at e1 e2
 have := invC_swap (p.take j) (rd p (j : Int)) (rd p ((j + 1 : Nat) : Int)) (p.drop (j + 1 + 1))
 rw [← e1, ← e2, if_neg (by omega), if_pos (by omega)] at this
 omega
def leastF : Nat → List Int → List Int
 | 0, _ => []
 | k + 1, p => match desc p with
  | [] => []
  | a :: _ => a :: leastF k (swp p a.toNat (a.toNat + 1))
def leastL (p : List Int) : List Int := leastF (invC p) p
theorem leastF_length : ∀ k p, (leastF k p).length ≤ k
 | 0, _ => Nat.le_refl _
 | k + 1, p => by
  rw [leastF]
  split
  ·exact Nat.zero_le _
  ·have := leastF_length k (swp p (‹Int›).toNat ((‹Int›).toNat + 1))
   simp only [List.length_cons]; omega
theorem desc_head {p : List Int} {a : Int} {r : List Int} (h : desc p = a :: r) : ∃ j : Nat, a = (j : Int) ∧ j + 1 < p.length ∧ rd p (j : Int) > rd p ((j : Int) + 1) ∧ invC p = invC (swp p j (j + 1)) + 1 := by
 obtain ⟨j, e, hj, hr⟩ := desc_mem (p := p) (x := a) (by rw [h]; exact List.mem_cons_self)
 exact ⟨j, e, hj, hr, invC_fall p j hj hr⟩
theorem leastL_nil {p : List Int} (h : desc p = []) : leastL p = [] := by
 unfold leastL
 cases e : invC p with
 | zero => rfl
 | succ k => rw [leastF, h]
theorem leastL_cons {p : List Int} {a : Int} {r : List Int} (h : desc p = a :: r) : leastL p = a :: leastL (swp p a.toNat (a.toNat + 1)) := by
 obtain ⟨j, rfl, hj, hr, hc⟩ := desc_head h
 unfold leastL
 rw [hc, leastF, h]
 simp only [toNat_cast]
theorem invC_le (p : List Int) (h : p.length ≤ 8) : invC p ≤ 64 := by
 have := invs_length p h
 rw [invs_invC] at this; exact this
theorem leastL_length (p : List Int) (h : p.length ≤ 8) : (leastL p).length ≤ 64 := Nat.le_trans (leastF_length _ _) (invC_le p h)
end Go.Proofs.YtdeoeogdnagibaaL
namespace Go.Proofs.YtdeoeogdnagibaaL
open Go.RowKit Go.Proofs.YtdeoeogdnagibaaW.PrintWords
set_option linter.unusedVariables false
set_option linter.unusedSimpArgs false
def inB (n : Int) (x : Int) : Bool := decide (0 ≤ x) && decide (x ≤ n - 2)
def good (n : Int) (l : List Int) : Bool := decide (2 ≤ n) && decide (n ≤ 8) && decide (l.length ≤ 60) && l.all (inB n)
theorem good_iff {n : Int} {l : List Int} : good n l = true ↔ 2 ≤ n ∧ n ≤ 8 ∧ l.length ≤ 60 ∧ ∀ x ∈ l, 0 ≤ x ∧ x ≤ n - 2 := by
 unfold good inB
 simp only [Bool.and_eq_true, decide_eq_true_eq, List.all_eq_true, and_assoc]
def over (w r : Int) : Int := if w = r then r + 1 else if w = r + 1 then r else w
def wayT (w : Int) : List Int → List Int
 | [] => []
 | r :: l => over w r :: wayT (over w r) l
def wayL (w : Int) (l : List Int) : List Int := w :: wayT w l
def endL (w : Int) : List Int → Int
 | [] => w
 | r :: l => endL (over w r) l
theorem wayT_length (w : Int) (l : List Int) : (wayT w l).length = l.length := by
 induction l generalizing w with
 | nil => rfl
 | cons r l ih => simp [wayT, ih]
theorem wayL_length (w : Int) (l : List Int) : (wayL w l).length = l.length + 1 := by simp [wayL, wayT_length]
theorem rd_cons_succ (x : Int) (l : List Int) (i : Nat) : rd (x :: l) ((i + 1 : Nat) : Int) = rd l (i : Int) := by
 rw [rd_cast, rd_cast, List.getD_cons_succ]
theorem wayL_rd (w : Int) (l : List Int) : ∀ i : Nat, i ≤ l.length → rd (wayL w l) (i : Int) = endL w (l.take i) := by
  induction l generalizing w with
  | nil => intro i hi; obtain rfl : i = 0 := by simpa using hi
           rfl
  | cons r l ih =>
    intro i hi
    cases i with
    | zero => rfl
    | succ i =>
      rw [wayL, rd_cons_succ, List.take_succ_cons, endL]
      exact ih (over w r) i (by simpa using hi)
theorem wayL_last (w : Int) (l : List Int) : rd (wayL w l) (l.length : Int) = endL w l := by
 rw [wayL_rd w l l.length (Nat.le_refl _), List.take_length]
theorem over_bounds {n w r : Int} (hw : 0 ≤ w ∧ w ≤ n - 1) (hr : 0 ≤ r ∧ r ≤ n - 2) : 0 ≤ over w r ∧ over w r ≤ n - 1 := by
 unfold over
 split
 ·omega
 ·split <;> omega
theorem endL_bounds {n : Int} : ∀ (l : List Int) (w : Int), 0 ≤ w ∧ w ≤ n - 1 → (∀ x ∈ l, 0 ≤ x ∧ x ≤ n - 2) → 0 ≤ endL w l ∧ endL w l ≤ n - 1
 | [], w, hw, _ => hw
 | r :: l, w, hw, hr => endL_bounds l _ (over_bounds hw (hr r (by simp))) (fun x hx => hr x (by simp [hx]))
def resGo (l : List Int) : Nat → Nat → List Int
 | 0, _ => []
 | d + 1, i => endL (i : Int) l :: resGo l d (i + 1)
def resL (n : Int) (l : List Int) : List Int := resGo l n.toNat 0
theorem resGo_length (l : List Int) : ∀ d i, (resGo l d i).length = d
 | 0, _ => rfl
 | d + 1, i => by simp [resGo, resGo_length l d]
theorem resL_length (n : Int) (l : List Int) : (resL n l).length = n.toNat := resGo_length l _ _
def needL (n : Int) (l : List Int) : Int := (l.length : Int) - ((invs (resL n l)).length : Int)
theorem needL_bounds {n : Int} {l : List Int} (h : good n l = true) : -64 ≤ needL n l ∧ needL n l ≤ 60 := by
 obtain ⟨h1, h2, h3, _⟩ := good_iff.1 h
 have := invs_length (resL n l) (by rw [resL_length]; omega)
 unfold needL
 omega
end Go.Proofs.YtdeoeogdnagibaaL
namespace Go.Proofs.YtdeoeogdnagibaaL
open Go.RowKit Go.Proofs.YtdeoeogdnagibaaW.PrintWords
set_option linter.unusedVariables false
set_option linter.unusedSimpArgs false
def cntF : Nat → List Int → Nat
 | 0, _ => 0
 | d + 1, p => if (desc p).length = 0 then 1 else ((desc p).map fun x => cntF d (swp p x.toNat (x.toNat + 1))).sum
theorem sum_le (m : Nat) : ∀ l : List Nat, (∀ x ∈ l, x ≤ m) → l.sum ≤ l.length * m
 | [], _ => Nat.zero_le _
 | x :: r, h => by
  have h1 := h x (by simp)
  have h2 := sum_le m r (fun y hy => h y (by simp [hy]))
  simp only [List.sum_cons, List.length_cons, Nat.succ_mul]
  omega
theorem cntF_le : ∀ (d : Nat) (p : List Int), p.length ≤ 8 → cntF d p ≤ 8 ^ d
 | 0, _, _ => Nat.zero_le _
 | d + 1, p, h => by
  rw [cntF]
  split
  ·exact Nat.one_le_pow _ _ (by decide)
  ·refine Nat.le_trans (sum_le (8 ^ d) _ ?_) ?_
   ·intro x hx
    obtain ⟨y, _, rfl⟩ := List.mem_map.1 hx
    exact cntF_le d _ (by rw [swp_length]; exact h)
   ·rw [List.length_map, Nat.pow_succ, Nat.mul_comm (8 ^ d)]
    exact Nat.mul_le_mul_right _ (Nat.le_trans (desc_length p) h)
theorem fewer_len (x : Int) : ∀ l : List Int, fewer x l ≤ l.length := fewer_le x
theorem invC_tri : ∀ p : List Int, 2 * invC p ≤ p.length * (p.length - 1)
 | [] => Nat.le_refl _
 | x :: r => by
  have h1 := invC_tri r
  have h2 := fewer_len x r
  rw [invC, List.length_cons, Nat.add_sub_cancel]
  have h3 : (r.length + 1) * r.length = r.length * (r.length - 1) + 2 * r.length := by
   cases r.length with
   | zero => rfl
   | succ n => rw [Nat.add_sub_cancel, Nat.mul_comm (n + 1) n, ← Nat.add_mul]
  omega
theorem invC_six {p : List Int} (h : p.length ≤ 6) : invC p ≤ 15 := by
 have h1 := invC_tri p
 have h2 : p.length * (p.length - 1) ≤ 6 * 5 := Nat.mul_le_mul h (by omega)
 omega
theorem isOrd_swp {p : List Int} (h : isOrd p = true) (j : Nat) (hj : j + 1 < p.length) : isOrd (swp p j (j + 1)) = true := by
 have hl := isOrd_len h
 exact isOrd_of_perm hl.1 hl.2 ((swp_perm p j (j + 1) (by omega) hj).trans (isOrd_perm h))
def rkGo : Int → List Int → Int
 | acc, [] => acc
 | acc, x :: r => rkGo (acc * ((r.length : Int) + 1) + ((fewer x r : Nat) : Int)) r
def rankL (p : List Int) : Int := rkGo 0 p
theorem div_one {a b c e m : Int} (hc : 0 ≤ c) (hc' : c ≤ m) (he : 0 ≤ e) (he' : e ≤ m) (h : a * (m + 1) + c = b * (m + 1) + e) : a = b ∧ c = e := by
 have h1 : (a * (m + 1) + c) / (m + 1) = a := by
  rw [Int.add_comm, Int.add_mul_ediv_right _ _ (by omega), Int.ediv_eq_zero_of_lt hc (by omega), Int.zero_add]
 have h2 : (b * (m + 1) + e) / (m + 1) = b := by
  rw [Int.add_comm, Int.add_mul_ediv_right _ _ (by omega), Int.ediv_eq_zero_of_lt he (by omega), Int.zero_add]
 rw [h] at h1
 have h3 : a = b := h1.symm.trans h2
 subst h3
 exact ⟨rfl, by omega⟩
theorem rkGo_inj : ∀ (p q : List Int) (a b : Int), p.length = q.length → rkGo a p = rkGo b q → a = b ∧ codeR p = codeR q
 | [], [], a, b, _, h => ⟨h, rfl⟩
 | [], _ :: _, _, _, h, _ => by simp at h
 | _ :: _, [], _, _, h, _ => by simp at h
 | x :: p, y :: q, a, b, hl, h => by
  have hl' : p.length = q.length := by simpa using hl
  rw [rkGo, rkGo] at h
  obtain ⟨h1, h2⟩ := rkGo_inj p q _ _ hl' h
  rw [← hl'] at h1
  have h3 := fewer_len x p
  have h4 := fewer_len y q
  obtain ⟨h5, h6⟩ := div_one (by omega) (by omega) (by omega) (by omega) h1
  refine ⟨h5, ?_⟩
  rw [codeR, codeR, h2, h6]
theorem rank_inj {p q : List Int} (hp : isOrd p = true) (hq : isOrd q = true) (hl : p.length = q.length) (h : rankL p = rankL q) : p = q := by
 have h1 := (rkGo_inj p q 0 0 hl h).2
 have h2 : ocL (codeL p) = ocL (codeL q) := by rw [codeL_R, codeL_R, h1]
 rw [ocL_codeL hp, ocL_codeL hq] at h2
 exact Option.some.inj h2
def cntd (p : List Int) : Bool := isOrd p && (decide (2 ≤ p.length) && decide (p.length ≤ 6))
theorem cntd_iff {p : List Int} : cntd p = true ↔ isOrd p = true ∧ 2 ≤ p.length ∧ p.length ≤ 6 := by simp [cntd]
def fct : Nat → Nat
 | 0 => 1
 | n + 1 => (n + 1) * fct n
theorem rkGo_lt : ∀ (p : List Int) (a : Int), 0 ≤ a → 0 ≤ rkGo a p ∧ rkGo a p < (a + 1) * ((fct p.length : Nat) : Int)
 | [], a, h => by rw [rkGo, List.length_nil, fct]; omega
 | x :: r, a, h => by
  have h3 := fewer_len x r
  have h0 : 0 ≤ a * ((r.length : Int) + 1) + ((fewer x r : Nat) : Int) := by
   have := Int.mul_nonneg h (show (0 : Int) ≤ (r.length : Int) + 1 by omega)
   omega
  obtain ⟨h1, h2⟩ := rkGo_lt r _ h0
  rw [rkGo]
  refine ⟨h1, Int.lt_of_lt_of_le h2 ?_⟩
  rw [List.length_cons, fct, Int.natCast_mul, ← Int.mul_assoc]
  refine Int.mul_le_mul_of_nonneg_right ?_ (Int.natCast_nonneg _)
  rw [Int.add_mul a 1, Int.one_mul]
  have : ((r.length + 1 : Nat) : Int) = (r.length : Int) + 1 := by omega
  rw [this]
  omega
theorem rank_lt (p : List Int) : 0 ≤ rankL p ∧ rankL p < ((fct p.length : Nat) : Int) := by
 have := rkGo_lt p 0 (Int.le_refl _)
 rw [Int.zero_add, Int.one_mul] at this
 exact this
theorem over_inj {w v r : Int} (h : over w r = over v r) : w = v := by
 unfold over at h
 split at h <;> split at h <;> (try split at h) <;> (try split at h) <;> omega
theorem endL_inj : ∀ (l : List Int) (w v : Int), endL w l = endL v l → w = v
 | [], _, _, h => h
 | r :: l, w, v, h => over_inj (endL_inj l _ _ h)
theorem resGo_map (l : List Int) : ∀ d i, resGo l d i = (upFrom d i).map fun w => endL w l
 | 0, _ => rfl
 | d + 1, i => by rw [resGo, upFrom, List.map_cons, resGo_map l d (i + 1)]
theorem isOrd_resL {n : Int} {l : List Int} (h : good n l = true) : isOrd (resL n l) = true := by
 have hg := good_iff.1 h
 have hl : (resL n l).length = n.toNat := resL_length n l
 have hm : resL n l = (upFrom n.toNat 0).map fun w => endL w l := resGo_map l _ _
 unfold isOrd
 rw [if_pos (by omega)]
 refine ordGo_of _ _ [] (fun x hx => ?_) ?_
 ·rw [hm] at hx
  obtain ⟨w, hw, rfl⟩ := List.mem_map.1 hx
  have h1 := (upFrom_lt n.toNat 0).2 w hw
  have h2 := endL_bounds l w (n := n) (by omega) hg.2.2.2
  exact ⟨h2.1, by omega, by simp⟩
 ·rw [hm]
  refine List.Pairwise.map _ (fun a b hab h => ?_) (upFrom_lt n.toNat 0).1
  have := endL_inj l a b h
  omega
def cLad (n : Int) (l : List Int) : Bool := good n l && (decide (n ≤ 6) && decide (needL n l = 0))
theorem cLad_iff {n : Int} {l : List Int} : cLad n l = true ↔ good n l = true ∧ n ≤ 6 ∧ needL n l = 0 := by simp [cLad]
def rkS (r : Int) (p : List Int) : Nat := ((descGo p r.toNat 0).map fun x => cntF 16 (swp p x.toNat (x.toNat + 1))).sum
def rkLad : List Int → List Int → Nat
 | [], _ => 0
 | r :: rs, p => rkS r p + rkLad rs (swp p r.toNat (r.toNat + 1))
theorem rkS_le (r : Int) (p : List Int) (h : p.length ≤ 8) (hr : r.toNat ≤ 8) : rkS r p ≤ 8 * 8 ^ 16 := by
 unfold rkS
 refine Nat.le_trans (sum_le (8 ^ 16) _ ?_) ?_
 ·intro x hx
  obtain ⟨y, _, rfl⟩ := List.mem_map.1 hx
  exact cntF_le 16 _ (by rw [swp_length]; exact h)
 ·rw [List.length_map]
  exact Nat.mul_le_mul_right _ (Nat.le_trans (descGo_length p r.toNat 0) hr)
theorem descGo_filter (p : List Int) (r : Nat) : ∀ d i, i ≤ r → r ≤ i + d → (descGo p d i).filter (fun x => decide (x < (r : Int))) = descGo p (r - i) i
 | 0, i, h1, h2 => by rw [show r - i = 0 by omega]; rfl
 | d + 1, i, h1, h2 => by
  by_cases e : i = r
  ·subst e
   rw [Nat.sub_self, descGo, List.filter_eq_nil_iff]
   intro x hx
   obtain ⟨j, rfl, hj, _⟩ := descGo_mem p (d + 1) i x (by rw [descGo]; exact hx)
   simp
   omega
  ·rw [show r - i = (r - (i + 1)) + 1 by omega, descGo, descGo]
   by_cases f : rd p (i : Int) > rd p ((i : Int) + 1)
   ·rw [if_pos f, if_pos f, List.filter_cons, if_pos (by simp; omega), descGo_filter p r d (i + 1) (by omega) (by omega)]
   ·rw [if_neg f, if_neg f, descGo_filter p r d (i + 1) (by omega) (by omega)]
end Go.Proofs.YtdeoeogdnagibaaL
namespace Go.Proofs.YtdeoeogdnagibaaL
open Go.RowKit Go.Proofs.YtdeoeogdnagibaaW.PrintWords
set_option linter.unusedVariables false
set_option linter.unusedSimpArgs false
theorem rd_inj {p : List Int} (hp : p.Nodup) (x y : Int) (hx : 0 ≤ x ∧ x < p.length) (hy : 0 ≤ y ∧ y < p.length) (h : rd p x = rd p y) : x = y := by
 obtain ⟨i, rfl⟩ := Int.eq_ofNat_of_zero_le hx.1
 obtain ⟨j, rfl⟩ := Int.eq_ofNat_of_zero_le hy.1
 rw [rd_lt p i (by omega), rd_lt p j (by omega)] at h
 have hw := List.pairwise_iff_getElem.1 hp
 rcases Nat.lt_trichotomy i j with h1 | h1 | h1
 ·exact absurd h (hw i j (by omega) (by omega) h1)
 ·rw [h1]
 ·exact absurd h.symm (hw j i (by omega) (by omega) h1)
end Go.Proofs.YtdeoeogdnagibaaL
namespace Go.Proofs.YtdeoeogdnagibaaL
open Go.RowKit Go.Proofs.YtdeoeogdnagibaaW.PrintWords
set_option linter.unusedVariables false
set_option linter.unusedSimpArgs false
def listF : Nat → List Int → List (List Int)
 | 0, _ => []
 | d + 1, p => if (desc p).length = 0 then [[]] else (desc p).flatMap fun x => (listF d (swp p x.toNat (x.toNat + 1))).map fun r => x :: r
theorem listF_length : ∀ (d : Nat) (p : List Int), (listF d p).length = cntF d p
 | 0, _ => rfl
 | d + 1, p => by
  unfold listF cntF
  split
  ·rfl
  ·rw [List.length_flatMap]
   congr 1
   apply List.map_congr_left
   intro x _
   rw [List.length_map, listF_length d]
theorem listF_short : ∀ (d : Nat) (p : List Int), ∀ l ∈ listF d p, l.length < d
 | 0, _ => fun l hl => by cases hl
 | d + 1, p => fun l hl => by
  unfold listF at hl
  split at hl
  ·rw [List.mem_singleton] at hl
   rw [hl]
   exact Nat.succ_pos _
  ·obtain ⟨x, _, hx⟩ := List.mem_flatMap.1 hl
   obtain ⟨r, hr, rfl⟩ := List.mem_map.1 hx
   have := listF_short d _ r hr
   rw [List.length_cons]; omega
theorem rd_adj {p : List Int} (h : isOrd p = true) (j : Nat) (hj : j + 1 < p.length) : rd p (j : Int) ≠ rd p ((j : Int) + 1) := fun e => by
 have := rd_inj (isOrd_all h).2 (j : Int) ((j : Int) + 1) ⟨by omega, by omega⟩ ⟨by omega, by omega⟩ e
 omega
theorem cnt_part {d : Nat} {p : List Int} {x : Int} (hx : x ∈ desc p) : cntF d (swp p x.toNat (x.toNat + 1)) ≤ cntF (d + 1) p := by
 have h0 : ¬ (desc p).length = 0 := fun e => by rw [List.length_eq_zero_iff.1 e] at hx; cases hx
 have h1 : ∀ (l : List Nat) (y : Nat), y ∈ l → y ≤ l.sum := by
  intro l
  induction l with
  | nil => intro y hy; cases hy
  | cons a l ih =>
   intro y hy
   rw [List.sum_cons]
   rcases List.mem_cons.1 hy with rfl | hy
   ·omega
   ·have := ih y hy; omega
 have h2 : cntF (d + 1) p = ((desc p).map fun x => cntF d (swp p x.toNat (x.toNat + 1))).sum := by
  rw [cntF, if_neg h0]
 rw [h2]
 exact h1 _ _ (List.mem_map.2 ⟨x, hx, rfl⟩)
theorem mem_desc {p : List Int} {j : Nat} (hj : j + 1 < p.length) (h : rd p (j : Int) > rd p ((j : Int) + 1)) : (j : Int) ∈ desc p := by
 have go : ∀ d i, i ≤ j → j < i + d → (j : Int) ∈ descGo p d i := by
  intro d
  induction d with
  | zero => intro i h1 h2; omega
  | succ d ih =>
   intro i h1 h2
   unfold descGo
   by_cases e : i = j
   ·subst e; rw [if_pos h]; exact List.mem_cons_self
   ·have := ih (i + 1) (by omega) (by omega)
    split
    ·exact List.mem_cons_of_mem _ this
    ·exact this
 exact go _ 0 (by omega) (by omega)
end Go.Proofs.YtdeoeogdnagibaaL
namespace Go.Proofs.YtdeoeogdnagibaaL
open Go.RowKit Go.Proofs.YtdeoeogdnagibaaW.PrintWords
set_option linter.unusedVariables false
set_option linter.unusedSimpArgs false
theorem and255 (x : Int) (h0 : 0 ≤ x) (h1 : x < 9223372036854775808) : Go.bits .and .u64 x 255 = x % 256 := by
 have h := bits_mask .u64 63 (by decide) (fun n h₀ h₁ => by rw [IntKind.wrap_u64]; omega) 8 (by decide) x (by omega) (by omega)
 have e : ((2 : Int) ^ 8 - 1) = 255 := by decide
 have e2 : ((2 : Int) ^ 8) = 256 := by decide
 rw [e, e2] at h
 exact h
theorem top_byte (x : Int) : 0 ≤ wrap64 (Go.bits .and .u64 (IntKind.u64.wrap x / 1099511627776) 255) ∧ wrap64 (Go.bits .and .u64 (IntKind.u64.wrap x / 1099511627776) 255) ≤ 255 := by
 have e := IntKind.wrap_u64 x
 rw [and255 _ (by rw [e]; omega) (by rw [e]; omega), wrap_id (by omega) (by omega)]
 omega
theorem tmod_lt (x n : Int) (h0 : 0 ≤ x) (hn : 0 < n) : 0 ≤ Int.tmod x n ∧ Int.tmod x n < n := ⟨Int.tmod_nonneg _ h0, Int.tmod_lt_of_pos _ hn⟩
def isCode (c : List Int) : Prop := (∀ x ∈ c, 0 ≤ x ∧ x ≤ 255) ∧ c.length ≤ 1048576
theorem u8_bounds {x : Int} (h : (Lit.int .u8 x).wf = true) : 0 ≤ x ∧ x ≤ 255 := by
 simp only [Lit.wf, IntKind.min, IntKind.max, IntKind.signed, IntKind.bits, Bool.and_eq_true, decide_eq_true_eq, Bool.false_eq_true, if_false] at h
 omega
end Go.Proofs.YtdeoeogdnagibaaL
namespace Go.Proofs.YtdeoeogdnagibaaL
open Go.RowKit Go.Proofs.YtdeoeogdnagibaaW.PrintWords
set_option linter.unusedVariables false
set_option linter.unusedSimpArgs false
end Go.Proofs.YtdeoeogdnagibaaL
namespace Go.Proofs.YtdeoeogdnagibaaL
open Go.RowKit Go.Proofs.YtdeoeogdnagibaaW.PrintWords
set_option linter.unusedVariables false
set_option linter.unusedSimpArgs false
theorem rd_map (f : Int → Int) (xs : List Int) (i : Nat) (h : i < xs.length) : rd (xs.map f) (i : Int) = f (rd xs (i : Int)) := by
 rw [rd_lt _ _ (by simpa using h), rd_lt _ _ h, List.getElem_map]
theorem resL_rd (n : Int) (l : List Int) (i : Nat) (h : i < n.toNat) : rd (resL n l) (i : Int) = endL (i : Int) l := by
 unfold resL
 rw [resGo_map, rd_map _ _ i (by rw [upFrom_length]; exact h), rd_upFrom _ _ _ h, Nat.zero_add]
theorem ident_nodup (n : Nat) : (ident n).Nodup := (ident_lt n).imp (fun h e => by omega)
end Go.Proofs.YtdeoeogdnagibaaL
namespace Go.Proofs.YtdeoeogdnagibaaL
open Go.RowKit Go.Proofs.YtdeoeogdnagibaaW.PrintWords
set_option linter.unusedVariables false
set_option linter.unusedSimpArgs false
def lexL : List Int → List Int → Bool
 | [], b => decide (0 < b.length)
 | _ :: _, [] => false
 | x :: a, y :: b => if x = y then lexL a b else decide (x < y)
end Go.Proofs.YtdeoeogdnagibaaL
namespace Go.Proofs.YtdeoeogdnagibaaL
open Go.RowKit Go.Proofs.YtdeoeogdnagibaaW.PrintWords
set_option linter.unusedVariables false
set_option linter.unusedSimpArgs false
theorem resL_cons (n : Nat) (r : Int) (l : List Int) (h0 : 0 ≤ r) (h1 : r + 2 ≤ n) : resL (n : Int) (r :: l) = swp (resL (n : Int) l) r.toNat (r.toNat + 1) := by
 have hl : (resL (n : Int) l).length = n := by rw [resL_length]; omega
 refine ext_rd _ _ (by rw [swp_length, resL_length, resL_length]) (fun i hi => ?_)
 rw [resL_length] at hi
 rw [resL_rd _ _ i hi, swp_rd _ _ _ i (by omega) (by omega), endL]
 unfold over
 by_cases e1 : (i : Int) = r
 ·rw [if_pos e1, if_neg (by omega), if_pos (by omega), resL_rd _ _ (r.toNat + 1) (by omega), show ((r.toNat + 1 : Nat) : Int) = r + 1 by omega]
 ·rw [if_neg e1]
  by_cases e2 : (i : Int) = r + 1
  ·rw [if_pos e2, if_pos (by omega), resL_rd _ _ r.toNat (by omega), show ((r.toNat : Nat) : Int) = r by omega]
  ·rw [if_neg e2, if_neg (by omega), if_neg (by omega), resL_rd _ _ i hi]
theorem resL_nil (n : Nat) : resL (n : Int) [] = ident n := by
 refine ext_rd _ _ (by rw [resL_length, ident_length]; omega) (fun i hi => ?_)
 rw [resL_length] at hi
 rw [resL_rd _ _ i hi, rd_ident n i (by omega)]; rfl
theorem swp_swp (p : List Int) (a b : Nat) (hab : a ≠ b) (ha : a < p.length) (hb : b < p.length) : swp (swp p a b) a b = p := by
 refine ext_rd _ _ (by rw [swp_length, swp_length]) (fun i hi => ?_)
 have h1 : a < (swp p a b).length := by rw [swp_length]; exact ha
 have h2 : b < (swp p a b).length := by rw [swp_length]; exact hb
 rw [swp_rd _ _ _ i h1 h2, swp_rd _ _ _ a ha hb, swp_rd _ _ _ b ha hb, swp_rd _ _ _ i ha hb]
 by_cases e : b = i
 ·subst e; rw [if_pos rfl, if_neg (fun h => hab h.symm), if_pos rfl]
 ·rw [if_neg e]
  by_cases f : a = i
  ·subst f; rw [if_pos rfl, if_pos rfl]
  ·rw [if_neg f, if_neg e, if_neg f]
theorem invC_adj (p : List Int) (j : Nat) (hj : j + 1 < p.length) : invC p + (if rd p (j : Int) < rd p ((j + 1 : Nat) : Int) then 1 else 0) = invC (swp p j (j + 1)) + (if rd p ((j + 1 : Nat) : Int) < rd p (j : Int) then 1 else 0) := by
 have e1 := split_two p j (j + 1) (by omega) hj
 have e2 := swp_split p j (j + 1) (by omega) hj
 simp only [Nat.sub_self, List.take_zero, List.nil_append] at e1 e2
 have := invC_swap (p.take j) (rd p (j : Int)) (rd p ((j + 1 : Nat) : Int)) (p.drop (j + 1 + 1))
 rw [← e1, ← e2] at this
 exact this
theorem resL_nodup (n : Nat) (l : List Int) : (resL (n : Int) l).Nodup := by
 unfold resL
 rw [resGo_map, List.nodup_iff_pairwise_ne, List.pairwise_map]
 exact (ident_nodup _).imp (fun h e => h (endL_inj l _ _ e))
theorem inv_rungs (n : Nat) : ∀ l : List Int, (∀ x ∈ l, 0 ≤ x ∧ x + 2 ≤ n) → invC (resL (n : Int) l) ≤ l.length ∧ (invC (resL (n : Int) l) + l.length) % 2 = 0
 | [], _ => by rw [resL_nil, invC_ident]; exact ⟨Nat.le_refl _, rfl⟩
 | r :: l, h => by
  have hr := h r (by simp)
  have ih := inv_rungs n l (fun x hx => h x (by simp [hx]))
  have hl : (resL (n : Int) l).length = n := by rw [resL_length]; omega
  have hp := invC_swp _ (resL_nodup n l) r.toNat (r.toNat + 1) (by omega) (by omega) (by omega)
  have ha := invC_adj (resL (n : Int) l) r.toNat (by omega)
  rw [resL_cons n r l hr.1 hr.2, List.length_cons]
  refine ⟨?_, by omega⟩
  split at ha <;> split at ha <;> omega
theorem descGo_lt (p : List Int) : ∀ d i, (descGo p d i).Pairwise (· < ·)
 | 0, _ => by simp [descGo]
 | d + 1, i => by
  unfold descGo
  split
  ·rw [List.pairwise_cons]
   refine ⟨fun x hx => ?_, descGo_lt p d (i + 1)⟩
   obtain ⟨j, rfl, hj, _⟩ := descGo_mem p d (i + 1) x hx
   omega
  ·exact descGo_lt p d (i + 1)
theorem up_ge (p : List Int) (h0 : ∀ x ∈ p, 0 ≤ x ∧ x < p.length) (hd : ∀ j : Nat, j + 1 < p.length → rd p (j : Int) < rd p ((j + 1 : Nat) : Int)) : ∀ i : Nat, i < p.length → (i : Int) ≤ rd p (i : Int)
 | 0, h => (h0 _ (rd_mem p 0 h)).1
 | i + 1, h => by
  have h1 := up_ge p h0 hd i (by omega)
  have h2 := hd i h
  omega
theorem up_le (p : List Int) (h0 : ∀ x ∈ p, 0 ≤ x ∧ x < p.length) (hd : ∀ j : Nat, j + 1 < p.length → rd p (j : Int) < rd p ((j + 1 : Nat) : Int)) : ∀ d i : Nat, i + 1 + d = p.length → rd p (i : Int) ≤ (i : Int)
 | 0, i, h => by
  have := (h0 _ (rd_mem p i (by omega))).2
  omega
 | d + 1, i, h => by
  have h1 := up_le p h0 hd d (i + 1) (by omega)
  have h2 := hd i (by omega)
  omega
theorem desc_none {p : List Int} (ho : isOrd p = true) (h : desc p = []) : p = ident p.length := by
 have ha := isOrd_all ho
 have hd : ∀ j : Nat, j + 1 < p.length → rd p (j : Int) < rd p ((j + 1 : Nat) : Int) := fun j hj => by
  have h1 : ¬ rd p (j : Int) > rd p ((j + 1 : Nat) : Int) := fun e => by
   have := (desc_iff p j hj).2 e
   rw [h] at this; cases this
  have h2 : rd p (j : Int) ≠ rd p ((j + 1 : Nat) : Int) := fun e => by
   have := rd_inj ha.2 _ _ (by omega) (by omega) e
   omega
  omega
 refine ext_rd _ _ (by rw [ident_length]) (fun i hi => ?_)
 rw [rd_ident _ i hi]
 have h1 := up_ge p ha.1 hd i hi
 have h2 := up_le p ha.1 hd (p.length - (i + 1)) i (by omega)
 omega
def rowS (f : Nat → Nat → Nat) (a : Nat) : Nat → Nat → Nat
 | 0, _ => 0
 | d + 1, b => f a b + rowS f a d (b + 1)
def allS (f : Nat → Nat → Nat) (n : Nat) : Nat → Nat → Nat
 | 0, _ => 0
 | d + 1, a => rowS f a (n - (a + 1)) (a + 1) + allS f n d (a + 1)
def invI (p : List Int) (a b : Nat) : Nat := if rd p (a : Int) > rd p (b : Int) then 1 else 0
theorem invRow_S (p : List Int) (i : Nat) : ∀ d j, (invRow p i j d).length = rowS (invI p) i d j
 | 0, _ => rfl
 | d + 1, j => by
  have := invRow_S p i d (j + 1)
  unfold invRow rowS invI
  split
  ·rw [List.length_cons, this]; unfold invI; omega
  ·rw [this]; unfold invI; omega
theorem invFrom_S (p : List Int) : ∀ d i, (invFrom p i d).length = allS (invI p) p.length d i
 | 0, _ => rfl
 | d + 1, i => by rw [invFrom, List.length_append, invRow_S, allS, invFrom_S p d (i + 1)]
theorem invC_S (p : List Int) : invC p = allS (invI p) p.length p.length 0 := by rw [← invs_invC]; exact invFrom_S p _ _
theorem rowS_le (f g : Nat → Nat → Nat) (a : Nat) : ∀ d b, (∀ k, b ≤ k → k < b + d → f a k ≤ g a k) → rowS f a d b ≤ rowS g a d b
 | 0, _, _ => Nat.le_refl _
 | d + 1, b, h => by
  have h1 := h b (by omega) (by omega)
  have h2 := rowS_le f g a d (b + 1) (fun k h1 h2 => h k (by omega) (by omega))
  rw [rowS, rowS]; omega
theorem allS_le (f g : Nat → Nat → Nat) (n : Nat) : ∀ d a, a + d = n → (∀ i k, i < k → k < n → f i k ≤ g i k) → allS f n d a ≤ allS g n d a
 | 0, _, _, _ => Nat.le_refl _
 | d + 1, a, hd, h => by
  have h1 := rowS_le f g a (n - (a + 1)) (a + 1) (fun k h1 h2 => h a k (by omega) (by omega))
  have h2 := allS_le f g n d (a + 1) (by omega) h
  rw [allS, allS]; omega
theorem invI_le (p : List Int) (a b : Nat) : invI p a b ≤ 1 := by unfold invI; split <;> omega
end Go.Proofs.YtdeoeogdnagibaaL
namespace Go.Proofs.YtdeoeogdnagibaaL
open Go.RowKit Go.Proofs.YtdeoeogdnagibaaW.PrintWords
set_option linter.unusedVariables false
set_option linter.unusedSimpArgs false
theorem cntF_stable : ∀ (d : Nat) (p : List Int), invC p < d → cntF d p = cntF (d + 1) p
 | 0, p, h => by omega
 | d + 1, p, h => by
  rw [cntF, cntF]
  split
  ·rfl
  ·congr 1
   apply List.map_congr_left
   intro x hx
   obtain ⟨j, rfl, hj, hr⟩ := desc_mem hx
   have := invC_fall p j hj hr
   rw [toNat_cast]
   exact cntF_stable d _ (by omega)
def cnt16 (p : List Int) (x : Int) : Nat := cntF 16 (swp p x.toNat (x.toNat + 1))
theorem cntF_sum {p : List Int} (h : invC p ≤ 15) (hd : desc p ≠ []) : cntF 16 p = ((desc p).map (cnt16 p)).sum := by
 have e : ∀ d, invC p ≤ d → ((desc p).map fun x => cntF d (swp p x.toNat (x.toNat + 1))) = (desc p).map fun x => cntF (d + 1) (swp p x.toNat (x.toNat + 1)) := fun d hdd => by
  apply List.map_congr_left
  intro x hx
  obtain ⟨j, rfl, hj, hr⟩ := desc_mem hx
  have := invC_fall p j hj hr
  rw [toNat_cast]
  exact cntF_stable d _ (by omega)
 have e2 : ∀ d, cntF (d + 1) p = ((desc p).map fun x => cntF d (swp p x.toNat (x.toNat + 1))).sum := fun d => by rw [cntF, if_neg (by rw [List.length_eq_zero_iff]; exact hd)]
 exact (e2 15).trans (congrArg List.sum (e 15 h))
def pickL (p : List Int) : List Int → Nat → Option (Int × Nat)
 | [], _ => none
 | x :: ds, r => if r < cnt16 p x then some (x, r) else pickL p ds (r - cnt16 p x)
theorem pickL_some (p : List Int) : ∀ (ds : List Int) (r : Nat), r < (ds.map (cnt16 p)).sum → ∃ x r', pickL p ds r = some (x, r') ∧ x ∈ ds ∧ r' < cnt16 p x
 | [], r, h => by simp at h
 | x :: ds, r, h => by
  rw [List.map_cons, List.sum_cons] at h
  unfold pickL
  by_cases e : r < cnt16 p x
  ·rw [if_pos e]; exact ⟨x, r, rfl, by simp, e⟩
  ·rw [if_neg e]
   obtain ⟨y, r', h1, h2, h3⟩ := pickL_some p ds (r - cnt16 p x) (by omega)
   exact ⟨y, r', h1, by simp [h2], h3⟩
def lorF : Nat → List Int → Nat → List Int
 | 0, _, _ => []
 | k + 1, p, r => match pickL p (desc p) r with
  | none => []
  | some (x, r') => x :: lorF k (swp p x.toNat (x.toNat + 1)) r'
theorem cnt16_le (p : List Int) (x : Int) (h : p.length ≤ 8) : cnt16 p x ≤ 8 ^ 16 := cntF_le 16 _ (by rw [swp_length]; exact h)
theorem desc_nil_inv {p : List Int} (h : desc p = []) (hn : isOrd p = true) : invC p = 0 := by
 have ha := isOrd_all hn
 have hp : p.Pairwise (· ≤ ·) := by
  have hd : ∀ i : Nat, i + 1 < p.length → rd p (i : Int) ≤ rd p ((i + 1 : Nat) : Int) := fun i hi => by
   refine Int.not_lt.1 (fun e => ?_)
   have := (desc_iff p i hi).2 e
   rw [h] at this; cases this
  have hm : ∀ (d i : Nat), i + d < p.length → rd p (i : Int) ≤ rd p ((i + d : Nat) : Int) := by
   intro d
   induction d with
   | zero => intro i _; exact Int.le_refl _
   | succ d ih =>
    intro i hi
    have h1 := ih i (by omega)
    have h2 := hd (i + d) (by omega)
    exact Int.le_trans h1 h2
  rw [List.pairwise_iff_getElem]
  intro i j hi hj hij
  have := hm (j - i) i (by omega)
  rw [show i + (j - i) = j by omega, rd_lt p i hi, rd_lt p j hj] at this
  exact this
 exact invC_sorted p hp
def lorM (p : List Int) (r : Int) : Int × List Int × Bool := if cntd p = true ∧ 0 ≤ r ∧ r < ((cntF 16 p : Nat) : Int) then ((p.length : Int), lorF (invC p) p r.toNat, true) else (0, [], false)
end Go.Proofs.YtdeoeogdnagibaaL
namespace Go.Proofs.YtdeoeogdnagibaaL
open Go.RowKit Go.Proofs.YtdeoeogdnagibaaW.PrintWords
set_option linter.unusedVariables false
set_option linter.unusedSimpArgs false
theorem flatMap_congr {α β : Type} {f g : α → List β} : ∀ {l : List α}, (∀ x ∈ l, f x = g x) → l.flatMap f = l.flatMap g
 | [], _ => rfl
 | x :: l, h => by rw [List.flatMap_cons, List.flatMap_cons, h x (by simp), flatMap_congr (fun y hy => h y (by simp [hy]))]
theorem listF_nil {d : Nat} {p : List Int} (h : desc p = []) : listF (d + 1) p = [[]] := by rw [listF, h]; rfl
theorem listF_cons {d : Nat} {p : List Int} (h : desc p ≠ []) : listF (d + 1) p = (desc p).flatMap fun x => (listF d (swp p x.toNat (x.toNat + 1))).map fun r => x :: r := by
 rw [listF, if_neg (by rw [List.length_eq_zero_iff]; exact h)]
theorem desc_nil_any {p : List Int} (h : desc p = []) : invC p = 0 := by
 have hp : p.Pairwise (· ≤ ·) := by
  have hd : ∀ i : Nat, i + 1 < p.length → rd p (i : Int) ≤ rd p ((i + 1 : Nat) : Int) := fun i hi => by
   refine Int.not_lt.1 (fun e => ?_)
   have := (desc_iff p i hi).2 e
   rw [h] at this; cases this
  have hm : ∀ (d i : Nat), i + d < p.length → rd p (i : Int) ≤ rd p ((i + d : Nat) : Int) := by
   intro d
   induction d with
   | zero => intro i _; exact Int.le_refl _
   | succ d ih =>
    intro i hi
    have h1 := ih i (by omega)
    have h2 := hd (i + d) (by omega)
    exact Int.le_trans h1 h2
  rw [List.pairwise_iff_getElem]
  intro i j hi hj hij
  have := hm (j - i) i (by omega)
  rw [show i + (j - i) = j by omega, rd_lt p i hi, rd_lt p j hj] at this
  exact this
 exact invC_sorted p hp
theorem listF_all (n : Nat) : ∀ (d : Nat) (p : List Int), isOrd p = true → p.length = n → invC p < d → ∀ l ∈ listF d p, l.length = invC p ∧ (∀ x ∈ l, 0 ≤ x ∧ x + 2 ≤ n) ∧ resL (n : Int) l = p
 | 0, p, _, _, h => by omega
 | d + 1, p, ho, hn, h => fun l hl => by
  by_cases e : desc p = []
  ·rw [listF_nil e, List.mem_singleton] at hl
   subst hl
   have := desc_none ho e
   rw [hn] at this
   rw [resL_nil]
   refine ⟨?_, by simp, this.symm⟩
   rw [desc_nil_inv e ho]; rfl
  ·rw [listF_cons e] at hl
   obtain ⟨x, hx, hm⟩ := List.mem_flatMap.1 hl
   obtain ⟨r, hr, rfl⟩ := List.mem_map.1 hm
   obtain ⟨j, rfl, hj, hf⟩ := desc_mem hx
   have hc := invC_fall p j hj hf
   rw [toNat_cast] at hr
   obtain ⟨h1, h2, h3⟩ := listF_all n d (swp p j (j + 1)) (isOrd_swp ho j hj) (by rw [swp_length]; exact hn) (by omega) r hr
   refine ⟨by rw [List.length_cons]; omega, ?_, ?_⟩
   ·intro y hy
    rcases List.mem_cons.1 hy with rfl | hy
    ·omega
    ·exact h2 y hy
   ·rw [resL_cons n _ _ (by omega) (by omega), h3, toNat_cast, swp_swp p j (j + 1) (by omega) (by omega) hj]
theorem listF_stable : ∀ (d : Nat) (p : List Int), invC p < d → listF d p = listF (d + 1) p
 | 0, p, h => by omega
 | d + 1, p, h => by
  by_cases e : desc p = []
  ·rw [listF_nil e, listF_nil e]
  ·rw [listF_cons e, listF_cons e]
   apply flatMap_congr
   intro x hx
   obtain ⟨j, rfl, hj, hr⟩ := desc_mem hx
   have := invC_fall p j hj hr
   rw [toNat_cast, listF_stable d _ (by omega)]
theorem listF_next {p : List Int} (h : invC p ≤ 15) (hd : desc p ≠ []) : listF 16 p = (desc p).flatMap fun x => (listF 16 (swp p x.toNat (x.toNat + 1))).map fun r => x :: r := by
 rw [listF_cons hd]
 apply flatMap_congr
 intro x hx
 obtain ⟨j, rfl, hj, hr⟩ := desc_mem hx
 have := invC_fall p j hj hr
 rw [toNat_cast, listF_stable 15 _ (by omega)]
theorem inv15 {p : List Int} (h : p.length ≤ 6) : invC p ≤ 15 := by
 have h1 : ∀ n : Nat, n ≤ 6 → allS (fun _ _ => 1) n n 0 ≤ 15 := by decide
 rw [invC_S]
 exact Nat.le_trans (allS_le (invI p) (fun _ _ => 1) p.length p.length 0 (by omega) (fun i k _ _ => invI_le p i k)) (h1 _ h)
theorem pick_at (p : List Int) (x : Int) (r' : Nat) : ∀ (ds : List Int) (r : Nat), pickL p ds r = some (x, r') → (ds.flatMap fun x => (listF 16 (swp p x.toNat (x.toNat + 1))).map fun r => x :: r)[r]? = ((listF 16 (swp p x.toNat (x.toNat + 1)))[r']?).map fun r => x :: r
 | [], r, h => by cases h
 | y :: ds, r, h => by
  rw [pickL] at h
  have hl : ((listF 16 (swp p y.toNat (y.toNat + 1))).map fun r => y :: r).length = cnt16 p y := by rw [List.length_map, listF_length]; rfl
  rw [List.flatMap_cons, List.getElem?_append, hl]
  by_cases e : r < cnt16 p y
  ·rw [if_pos e] at h
   simp only [Option.some.injEq, Prod.mk.injEq] at h
   obtain ⟨rfl, rfl⟩ := h
   rw [if_pos e, List.getElem?_map]
  ·rw [if_neg e] at h
   rw [if_neg e]
   exact pick_at p x r' ds _ h
theorem lorF_at : ∀ (m : Nat) (p : List Int) (r : Nat), invC p = m → isOrd p = true → p.length ≤ 6 → r < cntF 16 p → (listF 16 p)[r]? = some (lorF m p r)
 | 0, p, r, hm, ho, h6, hr => by
  have hd : desc p = [] := by
   cases e : desc p with
   | nil => rfl
   | cons a t => obtain ⟨j, rfl, hj, hf, hc⟩ := desc_head e; omega
  rw [← listF_length, listF_nil hd, List.length_singleton] at hr
  rw [listF_nil hd, show r = 0 by omega]; rfl
 | m + 1, p, r, hm, ho, h6, hr => by
  have h15 := inv15 h6
  have hd : desc p ≠ [] := fun e => by have := desc_nil_inv e ho; omega
  rw [cntF_sum h15 hd] at hr
  obtain ⟨x, r', h1, h2, h3⟩ := pickL_some p (desc p) r hr
  obtain ⟨j, rfl, hj, hf⟩ := desc_mem h2
  have hc := invC_fall p j hj hf
  rw [listF_next h15 hd, pick_at p _ _ _ _ h1, lorF, h1]
  have ih := lorF_at m (swp p j (j + 1)) r' (by omega) (isOrd_swp ho j hj) (by rw [swp_length]; exact h6) (by unfold cnt16 at h3; rw [toNat_cast] at h3; exact h3)
  simp only [toNat_cast]
  rw [ih]; rfl
theorem pick_sum (p : List Int) (x : Int) (r' : Nat) : ∀ (ds : List Int) (r : Nat), ds.Pairwise (· < ·) → pickL p ds r = some (x, r') → r = ((ds.filter fun y => decide (y < x)).map (cnt16 p)).sum + r' ∧ x ∈ ds
 | [], r, _, h => by cases h
 | y :: ds, r, hp, h => by
  rw [List.pairwise_cons] at hp
  rw [pickL] at h
  by_cases e : r < cnt16 p y
  ·rw [if_pos e] at h
   simp only [Option.some.injEq, Prod.mk.injEq] at h
   obtain ⟨rfl, rfl⟩ := h
   have : (y :: ds).filter (fun z => decide (z < y)) = [] := by
    rw [List.filter_eq_nil_iff]
    intro z hz
    rcases List.mem_cons.1 hz with rfl | hz
    ·simp
    ·have := hp.1 z hz; simp; omega
   rw [this]
   exact ⟨by simp, by simp⟩
  ·rw [if_neg e] at h
   obtain ⟨h1, h2⟩ := pick_sum p x r' ds _ hp.2 h
   have hy := hp.1 x h2
   rw [List.filter_cons, if_pos (by simpa using hy), List.map_cons, List.sum_cons]
   exact ⟨by omega, List.mem_cons_of_mem _ h2⟩
theorem rkS_desc (p : List Int) (j : Nat) (hj : j + 1 < p.length) : rkS (j : Int) p = (((desc p).filter fun y => decide (y < (j : Int))).map (cnt16 p)).sum := by
 unfold rkS desc
 rw [toNat_cast, descGo_filter p j (p.length - 1) 0 (by omega) (by omega)]
 rfl
theorem rk_lor : ∀ (m : Nat) (p : List Int) (r : Nat), invC p = m → isOrd p = true → p.length ≤ 6 → r < cntF 16 p → rkLad (lorF m p r) p = r
 | 0, p, r, hm, ho, h6, hr => by
  have hd : desc p = [] := by
   cases e : desc p with
   | nil => rfl
   | cons a t => obtain ⟨j, rfl, hj, hf, hc⟩ := desc_head e; omega
  rw [← listF_length, listF_nil hd, List.length_singleton] at hr
  rw [lorF, rkLad]; omega
 | m + 1, p, r, hm, ho, h6, hr => by
  have h15 := inv15 h6
  have hd : desc p ≠ [] := fun e => by have := desc_nil_inv e ho; omega
  rw [cntF_sum h15 hd] at hr
  obtain ⟨x, r', h1, h2, h3⟩ := pickL_some p (desc p) r hr
  have hs := (pick_sum p x r' (desc p) r (descGo_lt p _ _) h1).1
  obtain ⟨j, rfl, hj, hf⟩ := desc_mem h2
  have hc := invC_fall p j hj hf
  have ih := rk_lor m (swp p j (j + 1)) r' (by omega) (isOrd_swp ho j hj) (by rw [swp_length]; exact h6) (by unfold cnt16 at h3; rw [toNat_cast] at h3; exact h3)
  rw [lorF, h1]
  simp only [toNat_cast]
  rw [rkLad, toNat_cast, ih, rkS_desc p j hj]
  exact hs.symm
theorem least_mem (n : Nat) : ∀ (l : List Int) (d : Nat), (∀ x ∈ l, 0 ≤ x ∧ x + 2 ≤ n) → isOrd (resL (n : Int) l) = true → invC (resL (n : Int) l) = l.length → l.length < d → l ∈ listF d (resL (n : Int) l)
 | [], d, h, ho, hk, hd => by
  obtain ⟨e, rfl⟩ : ∃ e, d = e + 1 := ⟨d - 1, by simp at hd; omega⟩
  have hn : desc (resL (n : Int) []) = [] := by
   cases e : desc (resL (n : Int) []) with
   | nil => rfl
   | cons a t => obtain ⟨j, rfl, hj, hf, hc⟩ := desc_head e; rw [hk] at hc; simp at hc
  rw [listF_nil hn]; simp
 | r :: l, d, h, ho, hk, hd => by
  obtain ⟨e, rfl⟩ : ∃ e, d = e + 1 := ⟨d - 1, by rw [List.length_cons] at hd; omega⟩
  rw [List.length_cons] at hd
  have hr := h r (by simp)
  have hl : (resL (n : Int) l).length = n := by rw [resL_length]; omega
  have hc := resL_cons n r l hr.1 hr.2
  have hle := (inv_rungs n l (fun x hx => h x (by simp [hx]))).1
  have hlp : (resL (n : Int) (r :: l)).length = n := by rw [resL_length]; omega
  have hs : swp (resL (n : Int) (r :: l)) r.toNat (r.toNat + 1) = resL (n : Int) l := by
   rw [hc, swp_swp _ _ _ (by omega) (by omega) (by omega)]
  have ha := invC_adj (resL (n : Int) (r :: l)) r.toNat (by omega)
  rw [hs, hk, List.length_cons] at ha
  have hf : rd (resL (n : Int) (r :: l)) (r.toNat : Int) > rd (resL (n : Int) (r :: l)) ((r.toNat + 1 : Nat) : Int) := by
   split at ha <;> (try split at ha) <;> omega
  have hm : ((r.toNat : Nat) : Int) ∈ desc (resL (n : Int) (r :: l)) := (desc_iff _ _ (by omega)).2 hf
  have ho' : isOrd (resL (n : Int) l) = true := by rw [← hs]; exact isOrd_swp ho _ (by omega)
  have hk' : invC (resL (n : Int) l) = l.length := by split at ha <;> (try split at ha) <;> omega
  have hr0 : ((r.toNat : Nat) : Int) = r := by omega
  rw [hr0] at hm
  rw [listF_cons (fun e_ => by rw [e_] at hm; cases hm)]
  refine List.mem_flatMap.2 ⟨r, hm, List.mem_map.2 ⟨l, ?_, rfl⟩⟩
  rw [hs]
  exact least_mem n l e (fun x hx => h x (by simp [hx])) ho' hk' (by omega)
theorem listF_lex : ∀ (d : Nat) (p : List Int), (listF d p).Pairwise (fun x y => lexL x y = true)
 | 0, p => by rw [listF]; exact List.Pairwise.nil
 | d + 1, p => by
  by_cases e : desc p = []
  ·rw [listF_nil e]; exact List.pairwise_singleton _ _
  ·rw [listF_cons e, List.pairwise_flatMap]
   refine ⟨fun x _ => ?_, ?_⟩
   ·rw [List.pairwise_map]
    refine (listF_lex d (swp p x.toNat (x.toNat + 1))).imp (fun h => ?_)
    rw [lexL, if_pos rfl]; exact h
   ·refine (descGo_lt p (p.length - 1) 0).imp (fun h => ?_)
    intro a ha b hb
    obtain ⟨a', _, rfl⟩ := List.mem_map.1 ha
    obtain ⟨b', _, rfl⟩ := List.mem_map.1 hb
    rw [lexL, if_neg (by omega)]; exact decide_eq_true h
theorem listF_head : ∀ (d : Nat) (p : List Int), isOrd p = true → invC p < d → ∃ t, listF d p = leastL p :: t
 | 0, p, _, h => by omega
 | d + 1, p, ho, h => by
  cases e : desc p with
  | nil => rw [listF_nil e, leastL_nil e]; exact ⟨[], rfl⟩
  | cons a ds =>
   obtain ⟨j, rfl, hj, hr, hc⟩ := desc_head e
   obtain ⟨t, ht⟩ := listF_head d (swp p j (j + 1)) (isOrd_swp ho j hj) (by omega)
   rw [listF_cons (by rw [e]; simp), e, List.flatMap_cons, leastL_cons e, toNat_cast, ht, List.map_cons, List.cons_append]
   exact ⟨_, rfl⟩
def cfS (p : List Int) (i : Nat) : Nat := ((descGo p i 0).map (cnt16 p)).sum
def cf1 (p : List Int) (r : Nat) : Nat := if rd p (r : Int) < rd p ((r : Int) + 1) then 0 else cnt16 p (r : Int)
theorem descGo_end (p : List Int) : ∀ d i, descGo p (d + 1) i = descGo p d i ++ (if rd p ((i + d : Nat) : Int) > rd p (((i + d : Nat) : Int) + 1) then [((i + d : Nat) : Int)] else [])
 | 0, i => by rw [descGo, descGo, descGo, Nat.add_zero]; split <;> rfl
 | d + 1, i => by
  rw [descGo, descGo_end p d (i + 1), descGo, show i + 1 + d = i + (d + 1) by omega]
  split <;> rfl
theorem cfS_next {p : List Int} (ho : isOrd p = true) (i : Nat) (hi : i + 1 < p.length) : cfS p (i + 1) = cfS p i + cf1 p i := by
 unfold cfS cf1
 rw [descGo_end, Nat.zero_add]
 have := rd_adj ho i hi
 by_cases e : rd p (i : Int) > rd p ((i : Int) + 1)
 ·rw [if_pos e, if_neg (by omega)]; simp
 ·rw [if_neg e, if_pos (by omega)]; simp
theorem cfS_all {p : List Int} (h6 : p.length ≤ 6) (hd : desc p ≠ []) : cfS p (p.length - 1) = cntF 16 p := (cntF_sum (inv15 h6) hd).symm
theorem cfS_le (p : List Int) (h6 : p.length ≤ 6) (i : Nat) (hi : i ≤ 6) : cfS p i ≤ 6 * 8 ^ 16 := by
 unfold cfS
 refine Nat.le_trans (sum_le (8 ^ 16) _ ?_) ?_
 ·intro x hx
  obtain ⟨y, _, rfl⟩ := List.mem_map.1 hx
  exact cnt16_le p y (by omega)
 ·rw [List.length_map]
  exact Nat.mul_le_mul_right _ (Nat.le_trans (descGo_length p i 0) hi)
theorem cLad_rank (n : Int) (l : List Int) (h : cLad n l = true) : cntd (resL n l) = true ∧ rkLad l (resL n l) < cntF 16 (resL n l) ∧ lorF (invC (resL n l)) (resL n l) (rkLad l (resL n l)) = l := by
 obtain ⟨hg, h6, hz⟩ := cLad_iff.1 h
 obtain ⟨g2, g8, g60, gb⟩ := good_iff.1 hg
 obtain ⟨nn, rfl⟩ := Int.eq_ofNat_of_zero_le (show 0 ≤ n by omega)
 have ho := isOrd_resL hg
 have hlen : (resL (nn : Int) l).length = nn := by rw [resL_length]; omega
 have hii := invs_invC (resL (nn : Int) l)
 have hk : invC (resL (nn : Int) l) = l.length := by unfold needL at hz; omega
 have h15 := inv15 (show (resL (nn : Int) l).length ≤ 6 by omega)
 have hm := least_mem nn l 16 (fun x hx => by have := gb x hx; omega) ho hk (by omega)
 obtain ⟨i, hi, he⟩ := List.getElem_of_mem hm
 have hi2 : i < cntF 16 (resL (nn : Int) l) := by rw [← listF_length]; exact hi
 have e1 := lorF_at _ (resL (nn : Int) l) i rfl ho (by omega) hi2
 rw [List.getElem?_eq_getElem hi, he] at e1
 have e2 := Option.some.inj e1
 have e3 := rk_lor _ (resL (nn : Int) l) i rfl ho (by omega) hi2
 rw [← e2] at e3
 exact ⟨cntd_iff.2 ⟨ho, by omega, by omega⟩, by rw [e3]; exact hi2, by rw [e3, ← e2]⟩
theorem lor_all {p : List Int} (h : cntd p = true) (r : Nat) (hr : r < cntF 16 p) : cLad (p.length : Int) (lorF (invC p) p r) = true ∧ resL (p.length : Int) (lorF (invC p) p r) = p ∧ rkLad (lorF (invC p) p r) p = r ∧ (lorF (invC p) p r).length = invC p ∧ (listF 16 p)[r]? = some (lorF (invC p) p r) := by
 obtain ⟨ho, h2, h6⟩ := cntd_iff.1 h
 have h15 := inv15 h6
 have e := lorF_at _ p r rfl ho h6 hr
 obtain ⟨h1, hb, h3⟩ := listF_all p.length 16 p ho rfl (by omega) _ (List.mem_of_getElem? e)
 have hg : good (p.length : Int) (lorF (invC p) p r) = true := good_iff.2 ⟨by omega, by omega, by omega, fun x hx => by have := hb x hx; omega⟩
 refine ⟨cLad_iff.2 ⟨hg, by omega, ?_⟩, h3, rk_lor _ p r rfl ho h6 hr, h1, e⟩
 unfold needL
 rw [h3, invs_invC, h1]; omega
end Go.Proofs.YtdeoeogdnagibaaL

