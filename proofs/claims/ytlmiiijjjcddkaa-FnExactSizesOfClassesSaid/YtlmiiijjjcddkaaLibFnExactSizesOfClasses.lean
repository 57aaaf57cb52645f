-- The plain laws of these sessions that this claim uses, in one text.
import Derived.Test.YtlmiiijjjcddkaaLim
namespace Go.Proofs.YtlmiiijjjcddkaaL
open Go.RowKit Go.Proofs.YtlmiiijjjcddkaaW.PrintWords
set_option linter.unusedVariables false
set_option linter.unusedSimpArgs false
theorem wrap_id {x : Int} (h0 : -9223372036854775808 ≤ x) (h1 : x ≤ 9223372036854775807) : wrap64 x = x := by
 unfold wrap64; omega
theorem rd_cast (xs : List Int) (i : Nat) : rd xs (i : Int) = xs.getD i 0 := rfl
theorem rd_lt (xs : List Int) (i : Nat) (h : i < xs.length) : rd xs (i : Int) = xs[i] := by
 rw [rd_cast, List.getD_eq_getElem?_getD, List.getElem?_eq_getElem h]; rfl
theorem rd_mem (xs : List Int) (i : Nat) (h : i < xs.length) : rd xs (i : Int) ∈ xs := by
 rw [rd_lt xs i h]; exact List.getElem_mem h
theorem drop_rd (xs : List Int) (i : Nat) (h : i < xs.length) : xs.drop i = rd xs (i : Int) :: xs.drop (i + 1) := by
 rw [rd_lt xs i h]; exact List.drop_eq_getElem_cons h
theorem take_rd (xs : List Int) (i : Nat) (h : i < xs.length) : xs.take (i + 1) = xs.take i ++ [rd xs (i : Int)] := by
 rw [rd_lt xs i h]; exact List.take_succ_eq_append_getElem h
theorem toNat_cast (i : Nat) : ((i : Int)).toNat = i := Int.toNat_natCast i
theorem cast_lt {i n : Nat} (h : i < n) : ((i : Int) < (n : Int)) := Int.ofNat_lt.mpr h
theorem cast_nlt {i n : Nat} (h : ¬ i < n) : ¬ ((i : Int) < (n : Int)) := fun k => h (Int.ofNat_lt.mp k)
theorem succ_wrap {i n : Nat} (h : i < n) (hn : n ≤ 140737488355328) : wrap64 ((i : Int) + 1) = ((i + 1 : Nat) : Int) := by
 rw [wrap_id (by omega) (by omega)]; omega
def ordGo (n : Int) : List Int → List Int → Bool
 | _, [] => true
 | pre, x :: r => if 0 ≤ x ∧ x ≤ n - 1 then (if x ∈ pre then false else ordGo n (pre ++ [x]) r) else false
def isOrd (p : List Int) : Bool := if 1 ≤ p.length ∧ p.length ≤ 8 then ordGo p.length [] p else false
theorem ordGo_cons (n : Int) (pre : List Int) (x : Int) (r : List Int) : ordGo n pre (x :: r) = if 0 ≤ x ∧ x ≤ n - 1 then (if x ∈ pre then false else ordGo n (pre ++ [x]) r) else false := rfl
theorem ordGo_all {n : Int} : ∀ (r pre : List Int), ordGo n pre r = true → (∀ x ∈ r, 0 ≤ x ∧ x ≤ n - 1 ∧ x ∉ pre) ∧ r.Nodup
 | [], _, _ => ⟨by simp, List.nodup_nil⟩
 | x :: r, pre, h => by
  unfold ordGo at h
  split at h
  ·rename_i hx
   split at h
   ·cases h
   ·rename_i hm
    obtain ⟨h1, h2⟩ := ordGo_all r (pre ++ [x]) h
    refine ⟨fun y hy => ?_, List.nodup_cons.2 ⟨fun hx' => ?_, h2⟩⟩
    ·rcases List.mem_cons.1 hy with rfl | hy
     ·exact ⟨hx.1, hx.2, hm⟩
     ·have := h1 y hy
      exact ⟨this.1, this.2.1, fun hp => this.2.2 (List.mem_append_left _ hp)⟩
    ·exact (h1 x hx').2.2 (List.mem_append_right _ (by simp))
  ·cases h
theorem isOrd_len {p : List Int} (h : isOrd p = true) : 1 ≤ p.length ∧ p.length ≤ 8 := by
 unfold isOrd at h
 split at h
 ·assumption
 ·cases h
theorem isOrd_all {p : List Int} (h : isOrd p = true) : (∀ x ∈ p, 0 ≤ x ∧ x < p.length) ∧ p.Nodup := by
 have hl := isOrd_len h
 unfold isOrd at h
 rw [if_pos hl] at h
 obtain ⟨h1, h2⟩ := ordGo_all p [] h
 exact ⟨fun x hx => by have := h1 x hx; omega, h2⟩
def fromOn (k : Int) : Nat → List Int
 | 0 => []
 | n + 1 => k :: fromOn (k + 1) n
theorem fromOn_length (k : Int) (n : Nat) : (fromOn k n).length = n := by
 induction n generalizing k with
 | zero => rfl
 | succ n ih => simp [fromOn, ih]
end Go.Proofs.YtlmiiijjjcddkaaL
namespace Go.Proofs.YtlmiiijjjcddkaaL
open Go.RowKit Go.Proofs.YtlmiiijjjcddkaaW.PrintWords
set_option linter.unusedVariables false
set_option linter.unusedSimpArgs false
def invRow (p : List Int) (i : Nat) : Nat → Nat → List (List Int)
 | _, 0 => []
 | j, d + 1 => if rd p (i : Int) > rd p (j : Int) then [(i : Int), (j : Int)] :: invRow p i (j + 1) d else invRow p i (j + 1) d
def invFrom (p : List Int) : Nat → Nat → List (List Int)
 | _, 0 => []
 | i, d + 1 => invRow p i (i + 1) (p.length - (i + 1)) ++ invFrom p (i + 1) d
def invs (p : List Int) : List (List Int) := invFrom p 0 p.length
end Go.Proofs.YtlmiiijjjcddkaaL
namespace Go.Proofs.YtlmiiijjjcddkaaL
open Go.RowKit Go.Proofs.YtlmiiijjjcddkaaW.PrintWords
set_option linter.unusedVariables false
set_option linter.unusedSimpArgs false
def descGo (p : List Int) : Nat → Nat → List Int
 | 0, _ => []
 | d + 1, i => if rd p (i : Int) > rd p ((i : Int) + 1) then (i : Int) :: descGo p d (i + 1) else descGo p d (i + 1)
def desc (p : List Int) : List Int := descGo p (p.length - 1) 0
theorem descGo_length (p : List Int) : ∀ d i, (descGo p d i).length ≤ d
 | 0, _ => Nat.le_refl _
 | d + 1, i => by
  unfold descGo
  have := descGo_length p d (i + 1)
  split
  ·simp; omega
  ·omega
theorem desc_length (p : List Int) : (desc p).length ≤ p.length := by
 have := descGo_length p (p.length - 1) 0
 unfold desc; omega
theorem descGo_mem (p : List Int) : ∀ d i x, x ∈ descGo p d i → ∃ j : Nat, x = (j : Int) ∧ i ≤ j ∧ j < i + d ∧ rd p (j : Int) > rd p ((j : Int) + 1)
 | 0, _, x, h => by simp [descGo] at h
 | d + 1, i, x, h => by
  unfold descGo at h
  split at h
  ·rename_i hc
   rcases List.mem_cons.1 h with rfl | h
   ·exact ⟨i, rfl, Nat.le_refl _, by omega, hc⟩
   ·obtain ⟨j, h1, h2, h3, h4⟩ := descGo_mem p d (i + 1) x h
    exact ⟨j, h1, by omega, by omega, h4⟩
  ·obtain ⟨j, h1, h2, h3, h4⟩ := descGo_mem p d (i + 1) x h
   exact ⟨j, h1, by omega, by omega, h4⟩
theorem desc_mem {p : List Int} {x : Int} (h : x ∈ desc p) : ∃ j : Nat, x = (j : Int) ∧ j + 1 < p.length ∧ rd p (j : Int) > rd p ((j : Int) + 1) := by
 obtain ⟨j, h1, h2, h3, h4⟩ := descGo_mem p _ _ _ h
 exact ⟨j, h1, by omega, h4⟩
def codeGo (p : List Int) : Nat → Nat → List Int
 | 0, _ => []
 | d + 1, i => ((invRow p i (i + 1) (p.length - (i + 1))).length : Int) :: codeGo p d (i + 1)
def codeL (p : List Int) : List Int := codeGo p p.length 0
theorem codeGo_length (p : List Int) : ∀ d i, (codeGo p d i).length = d
 | 0, _ => rfl
 | d + 1, i => by simp [codeGo, codeGo_length p d]
theorem codeL_length (p : List Int) : (codeL p).length = p.length := codeGo_length p _ _
def fewer (x : Int) : List Int → Nat
 | [] => 0
 | y :: r => (if y < x then 1 else 0) + fewer x r
theorem fewer_row (p : List Int) (i : Nat) : ∀ d j, j + d = p.length → fewer (rd p (i : Int)) (p.drop j) = (invRow p i j d).length
 | 0, j, h => by rw [List.drop_eq_nil_of_le (by omega)]; rfl
 | d + 1, j, h => by
  rw [drop_rd p j (by omega), fewer, fewer_row p i d (j + 1) (by omega), invRow]
  by_cases e : rd p (j : Int) < rd p (i : Int)
  ·rw [if_pos e, if_pos e, List.length_cons]; omega
  ·rw [if_neg e, if_neg e]; omega
def upFrom : Nat → Nat → List Int
 | 0, _ => []
 | d + 1, i => (i : Int) :: upFrom d (i + 1)
def ident (n : Nat) : List Int := upFrom n 0
theorem upFrom_length : ∀ d i, (upFrom d i).length = d
 | 0, _ => rfl
 | d + 1, i => by simp [upFrom, upFrom_length d]
theorem ident_length (n : Nat) : (ident n).length = n := upFrom_length n 0
def woL (l : List Int) (i : Int) : List Int := l.take i.toNat ++ l.drop (i.toNat + 1)
def ocGo : List Int → List Int → List Int → Option (List Int)
 | _, acc, [] => some acc
 | left, acc, x :: r => if 0 ≤ x ∧ x ≤ (left.length : Int) - 1 then ocGo (woL left x) (acc ++ [rd left x]) r else none
def ocL (c : List Int) : Option (List Int) := ocGo (ident c.length) [] c
end Go.Proofs.YtlmiiijjjcddkaaL
namespace Go.Proofs.YtlmiiijjjcddkaaL
open Go.RowKit Go.Proofs.YtlmiiijjjcddkaaW.PrintWords
set_option linter.unusedVariables false
set_option linter.unusedSimpArgs false
def invC : List Int → Nat
 | [] => 0
 | x :: r => fewer x r + invC r
theorem invFrom_invC (p : List Int) : ∀ d i, i + d = p.length → (invFrom p i d).length = invC (p.drop i)
 | 0, i, h => by rw [List.drop_eq_nil_of_le (by omega)]; rfl
 | d + 1, i, h => by
  rw [invFrom, List.length_append, invFrom_invC p d (i + 1) (by omega), drop_rd p i (by omega), invC, fewer_row p i (p.length - (i + 1)) (i + 1) (by omega)]
theorem invs_invC (p : List Int) : (invs p).length = invC p := by
 have := invFrom_invC p p.length 0 (by omega)
 simpa [invs] using this
theorem fewer_append (x : Int) (a b : List Int) : fewer x (a ++ b) = fewer x a + fewer x b := by
 induction a with
 | nil => simp [fewer]
 | cons y a ih => rw [List.cons_append, fewer, fewer, ih, Nat.add_assoc]
theorem invC_swap (a : List Int) (x y : Int) (b : List Int) : invC (a ++ x :: y :: b) + (if x < y then 1 else 0) = invC (a ++ y :: x :: b) + (if y < x then 1 else 0) := by
 induction a with
 | nil =>
  simp only [List.nil_append, invC, fewer]
  by_cases h1 : x < y
  ·have h2 : ¬ y < x := by omega
   simp only [if_pos h1, if_neg h2]; omega
  ·simp only [if_neg h1]
   by_cases h2 : y < x
   ·simp only [if_pos h2]; omega
   ·simp only [if_neg h2]; omega
 | cons c a ih =>
  simp only [List.cons_append, invC]
  have : fewer c (a ++ x :: y :: b) = fewer c (a ++ y :: x :: b) := by
   rw [fewer_append, fewer_append]
   simp only [fewer]; omega
  omega
theorem invC_trans : ∀ (M A : List Int) (x y : Int) (B : List Int), x ≠ y → x ∉ M → y ∉ M → (invC (A ++ x :: (M ++ y :: B)) + invC (A ++ y :: (M ++ x :: B))) % 2 = 1
 | [], A, x, y, B, h, _, _ => by
  have := invC_swap A x y B
  simp only [List.nil_append]
  by_cases h1 : x < y
  ·have h2 : ¬ y < x := by omega
   rw [if_pos h1, if_neg h2] at this; omega
  ·have h2 : y < x := by omega
   rw [if_neg h1, if_pos h2] at this; omega
 | m :: M, A, x, y, B, h, hx, hy => by
  have hxm : x ≠ m := fun e => hx (by simp [e])
  have hym : y ≠ m := fun e => hy (by simp [e])
  have h1 := invC_swap A x m (M ++ y :: B)
  have h2 := invC_trans M (A ++ [m]) x y B h (fun e => hx (by simp [e])) (fun e => hy (by simp [e]))
  have h3 := invC_swap A m y (M ++ x :: B)
  simp only [List.append_assoc, List.singleton_append, List.cons_append, List.nil_append] at h1 h2 h3 ⊢
  have e1 : (if x < m then 1 else 0) + (if m < x then 1 else 0) = 1 := by
   by_cases c : x < m
   ·rw [if_pos c, if_neg (by omega)]
   ·rw [if_neg c, if_pos (by omega)]
  have e2 : (if m < y then 1 else 0) + (if y < m then 1 else 0) = 1 := by
   by_cases c : m < y
   ·rw [if_pos c, if_neg (by omega)]
   ·rw [if_neg c, if_pos (by omega)]
  omega
def swp (p : List Int) (a b : Nat) : List Int := (p.set a (rd p (b : Int))).set b (rd p (a : Int))
theorem swp_length (p : List Int) (a b : Nat) : (swp p a b).length = p.length := by simp [swp]
theorem rd_set (p : List Int) (a : Nat) (v : Int) (i : Nat) (ha : a < p.length) : rd (p.set a v) (i : Int) = if a = i then v else rd p (i : Int) := by
 rw [rd_cast, rd_cast, List.getD_eq_getElem?_getD, List.getElem?_set]
 by_cases h : a = i
 ·rw [if_pos h, if_pos h, if_pos (by omega)]; rfl
 ·rw [if_neg h, if_neg h, ← List.getD_eq_getElem?_getD]
theorem swp_rd (p : List Int) (a b i : Nat) (ha : a < p.length) (hb : b < p.length) : rd (swp p a b) (i : Int) = if b = i then rd p (a : Int) else if a = i then rd p (b : Int) else rd p (i : Int) := by
 unfold swp
 rw [rd_set _ b _ i (by simpa using hb), rd_set p a _ i ha]
theorem split_two (p : List Int) (a b : Nat) (hab : a < b) (hb : b < p.length) : p = p.take a ++ rd p (a : Int) :: ((p.drop (a + 1)).take (b - (a + 1)) ++ rd p (b : Int) :: p.drop (b + 1)) := by
 have h1 : p = p.take a ++ p.drop a := (List.take_append_drop a p).symm
 have h2 : p.drop (a + 1) = (p.drop (a + 1)).take (b - (a + 1)) ++ (p.drop (a + 1)).drop (b - (a + 1)) := (List.take_append_drop _ _).symm
 rw [List.drop_drop, show a + 1 + (b - (a + 1)) = b by omega, drop_rd p b hb] at h2
 rw [drop_rd p a (by omega), h2] at h1
 exact h1
theorem swp_split (p : List Int) (a b : Nat) (hab : a < b) (hb : b < p.length) : swp p a b = p.take a ++ rd p (b : Int) :: ((p.drop (a + 1)).take (b - (a + 1)) ++ rd p (a : Int) :: p.drop (b + 1)) := by
 have hs := split_two p a b hab hb
 obtain ⟨A, hA⟩ : ∃ A, A = p.take a := ⟨_, rfl⟩
 obtain ⟨M, hM⟩ : ∃ M, M = (p.drop (a + 1)).take (b - (a + 1)) := ⟨_, rfl⟩
 obtain ⟨B, hB⟩ : ∃ B, B = p.drop (b + 1) := ⟨_, rfl⟩
 obtain ⟨x, hx⟩ : ∃ x, x = rd p (a : Int) := ⟨_, rfl⟩
 obtain ⟨y, hy⟩ : ∃ y, y = rd p (b : Int) := ⟨_, rfl⟩
 have lA : A.length = a := by rw [hA, List.length_take]; omega
 have lM : M.length = b - (a + 1) := by rw [hM, List.length_take, List.length_drop]; omega
 unfold swp
 rw [← hA, ← hM, ← hB, ← hx, ← hy] at hs ⊢
 rw [hs, List.set_append_right _ _ (by omega), lA, Nat.sub_self, List.set_cons_zero, List.set_append_right _ _ (by omega), lA, show b - a = (b - (a + 1)) + 1 by omega, List.set_cons_succ, List.set_append_right _ _ (by omega), lM, Nat.sub_self, List.set_cons_zero]
theorem swp_perm (p : List Int) (a b : Nat) (hab : a < b) (hb : b < p.length) : (swp p a b).Perm p := by
 rw [swp_split p a b hab hb]
 refine List.Perm.trans ?_ (List.Perm.of_eq (split_two p a b hab hb).symm)
 refine List.Perm.append_left _ ?_
 refine List.Perm.trans (List.Perm.cons _ List.perm_middle) (List.Perm.trans (List.Perm.swap _ _ _) (List.Perm.cons _ List.perm_middle.symm))
theorem swp_comm (p : List Int) (a b : Nat) (hab : a ≠ b) : swp p a b = swp p b a := by
 unfold swp
 exact List.set_comm _ _ hab
theorem invC_swp (p : List Int) (hp : p.Nodup) (a b : Nat) (hab : a ≠ b) (ha : a < p.length) (hb : b < p.length) : (invC p + invC (swp p a b)) % 2 = 1 := by
 have main : ∀ a b : Nat, a < b → b < p.length → (invC p + invC (swp p a b)) % 2 = 1 := by
  intro a b hab hb
  have hs := split_two p a b hab hb
  rw [swp_split p a b hab hb]
  have hn := hp
  rw [hs] at hn
  have hn2 := (List.nodup_append.1 hn).2.1
  obtain ⟨n1, n2⟩ := List.nodup_cons.1 hn2
  have n3 := (List.nodup_append.1 n2)
  have hxy : rd p (a : Int) ≠ rd p (b : Int) := fun e => n1 (by rw [e]; simp)
  have hx : rd p (a : Int) ∉ (p.drop (a + 1)).take (b - (a + 1)) := fun e => n1 (List.mem_append_left _ e)
  have hy : rd p (b : Int) ∉ (p.drop (a + 1)).take (b - (a + 1)) := fun e => n3.2.2 _ e _ (by simp) rfl
  have := invC_trans ((p.drop (a + 1)).take (b - (a + 1))) (p.take a) _ _ (p.drop (b + 1)) hxy hx hy
  rw [← hs] at this
  exact this
 rcases Nat.lt_or_gt_of_ne hab with h | h
 ·exact main a b h hb
 ·rw [swp_comm p a b hab]; exact main b a h ha
theorem invC_sorted : ∀ (l : List Int), l.Pairwise (· ≤ ·) → invC l = 0
 | [], _ => rfl
 | x :: r, h => by
  obtain ⟨h1, h2⟩ := List.pairwise_cons.1 h
  have : fewer x r = 0 := by
   clear h h2
   induction r with
   | nil => rfl
   | cons y r ih =>
    have hy := h1 y (by simp)
    rw [fewer, if_neg (by omega), ih (fun z hz => h1 z (by simp [hz]))]
  rw [invC, this, invC_sorted r h2]
theorem upFrom_pairwise : ∀ d i, (upFrom d i).Pairwise (· ≤ ·) ∧ ∀ x ∈ upFrom d i, (i : Int) ≤ x
 | 0, i => ⟨List.Pairwise.nil, by simp [upFrom]⟩
 | d + 1, i => by
  obtain ⟨h1, h2⟩ := upFrom_pairwise d (i + 1)
  refine ⟨List.pairwise_cons.2 ⟨fun y hy => by have := h2 y hy; omega, h1⟩, fun x hx => ?_⟩
  rcases List.mem_cons.1 hx with rfl | hx
  ·exact Int.le_refl _
  ·have := h2 x hx; omega
theorem invC_ident (n : Nat) : invC (ident n) = 0 := invC_sorted _ (upFrom_pairwise n 0).1
theorem rd_upFrom : ∀ (d i k : Nat), k < d → rd (upFrom d i) (k : Int) = ((i + k : Nat) : Int) := by
 intro d
 induction d with
 | zero => intro i k h; omega
 | succ d ih =>
  intro i k h
  cases k with
  | zero => rfl
  | succ k =>
   have := ih (i + 1) k (by omega)
   rw [rd_cast] at this ⊢
   rw [upFrom, List.getD_cons_succ, this]
   congr 1; omega
theorem rd_ident (n k : Nat) (h : k < n) : rd (ident n) (k : Int) = (k : Int) := by
 rw [ident, rd_upFrom n 0 k h, Nat.zero_add]
theorem ext_rd (p q : List Int) (hl : p.length = q.length) (h : ∀ i : Nat, i < p.length → rd p (i : Int) = rd q (i : Int)) : p = q := by
 refine List.ext_getElem hl (fun i h1 h2 => ?_)
 have := h i h1
 rwa [rd_lt p i h1, rd_lt q i h2] at this
end Go.Proofs.YtlmiiijjjcddkaaL
namespace Go.Proofs.YtlmiiijjjcddkaaL
open Go.RowKit Go.Proofs.YtlmiiijjjcddkaaW.PrintWords
set_option linter.unusedVariables false
set_option linter.unusedSimpArgs false
def codeR : List Int → List Int
 | [] => []
 | x :: r => ((fewer x r : Nat) : Int) :: codeR r
theorem codeGo_R (p : List Int) : ∀ d i, i + d = p.length → codeGo p d i = codeR (p.drop i)
 | 0, i, h => by rw [List.drop_eq_nil_of_le (by omega)]; rfl
 | d + 1, i, h => by
  rw [codeGo, drop_rd p i (by omega), codeR, codeGo_R p d (i + 1) (by omega), fewer_row p i (p.length - (i + 1)) (i + 1) (by omega)]
theorem codeL_R (p : List Int) : codeL p = codeR p := by
 have := codeGo_R p p.length 0 (by omega)
 rwa [List.drop_zero] at this
theorem fewer_perm (x : Int) {a b : List Int} (h : a.Perm b) : fewer x a = fewer x b := by
 induction h with
 | nil => rfl
 | cons y _ ih => rw [fewer, fewer, ih]
 | swap y z l => rw [fewer, fewer, fewer, fewer]; omega
 | trans _ _ h1 h2 => rw [h1, h2]
theorem fewer_all (y : Int) : ∀ l : List Int, (∀ z ∈ l, z < y) → fewer y l = l.length
 | [], _ => rfl
 | z :: r, h => by
  rw [fewer, if_pos (h z List.mem_cons_self), fewer_all y r (fun w hw => h w (List.mem_cons_of_mem _ hw)), List.length_cons]; omega
theorem fewer_none (y : Int) : ∀ l : List Int, (∀ z ∈ l, ¬ z < y) → fewer y l = 0
 | [], _ => rfl
 | z :: r, h => by
  rw [fewer, if_neg (h z List.mem_cons_self), fewer_none y r (fun w hw => h w (List.mem_cons_of_mem _ hw))]
theorem sorted_mid {a b : List Int} {y : Int} (h : (a ++ y :: b).Pairwise (· < ·)) : fewer y (a ++ b) = a.length ∧ (a ++ b).Pairwise (· < ·) := by
 rw [List.pairwise_append, List.pairwise_cons] at h
 obtain ⟨h1, ⟨h2, h3⟩, h4⟩ := h
 refine ⟨?_, ?_⟩
 ·rw [fewer_append, fewer_all y a (fun z hz => h4 z hz y List.mem_cons_self), fewer_none y b (fun z hz => by have := h2 z hz; omega), Nat.add_zero]
 ·rw [List.pairwise_append]
  exact ⟨h1, h3, fun x hx z hz => h4 x hx z (List.mem_cons_of_mem _ hz)⟩
theorem rd_mid (a b : List Int) (y : Int) : rd (a ++ y :: b) ((a.length : Nat) : Int) = y := by
 rw [rd_lt _ _ (by simp)]; simp
theorem woL_mid (a b : List Int) (y : Int) : woL (a ++ y :: b) ((a.length : Nat) : Int) = a ++ b := by
 unfold woL
 rw [toNat_cast]
 have e2 : (a ++ y :: b).drop (a.length + 1) = b := by
  rw [show a ++ y :: b = (a ++ [y]) ++ b by simp]
  exact List.drop_left' (by simp)
 rw [e2, List.take_left' rfl]
theorem ocGo_order : ∀ (p left acc : List Int), left.Pairwise (· < ·) → p.Perm left → ocGo left acc (codeR p) = some (acc ++ p)
 | [], left, acc, _, _ => by rw [codeR, ocGo, List.append_nil]
 | y :: r, left, acc, hs, hp => by
  obtain ⟨a, b, rfl⟩ := List.append_of_mem (hp.subset List.mem_cons_self)
  have hr : r.Perm (a ++ b) := (hp.trans List.perm_middle).cons_inv
  obtain ⟨h1, h2⟩ := sorted_mid hs
  rw [codeR, fewer_perm y hr, h1, ocGo, if_pos ⟨Int.natCast_nonneg _, by simp; omega⟩, woL_mid, rd_mid, ocGo_order r (a ++ b) _ h2 hr, List.append_assoc]; rfl
theorem upFrom_lt : ∀ d i, (upFrom d i).Pairwise (· < ·) ∧ ∀ x ∈ upFrom d i, (i : Int) ≤ x ∧ x < ((i + d : Nat) : Int)
 | 0, i => ⟨List.Pairwise.nil, fun x hx => by cases hx⟩
 | d + 1, i => by
  obtain ⟨h1, h2⟩ := upFrom_lt d (i + 1)
  rw [upFrom]
  refine ⟨List.pairwise_cons.2 ⟨fun x hx => by have := h2 x hx; omega, h1⟩, fun x hx => ?_⟩
  rcases List.mem_cons.1 hx with rfl | hx
  ·omega
  ·have := h2 x hx; omega
theorem upFrom_has : ∀ (d i : Nat) (x : Int), (i : Int) ≤ x → x < ((i + d : Nat) : Int) → x ∈ upFrom d i
 | 0, i, x, h1, h2 => by omega
 | d + 1, i, x, h1, h2 => by
  rw [upFrom]
  by_cases e : x = i
  ·rw [e]; exact List.mem_cons_self
  ·exact List.mem_cons_of_mem _ (upFrom_has d (i + 1) x (by omega) (by omega))
theorem ident_lt (n : Nat) : (ident n).Pairwise (· < ·) := (upFrom_lt n 0).1
theorem perm_subset : ∀ (p l : List Int), p.Nodup → (∀ x ∈ p, x ∈ l) → p.length = l.length → p.Perm l
 | [], l, _, _, h => by
  obtain rfl : l = [] := List.eq_nil_of_length_eq_zero (by simpa using h.symm)
  exact List.Perm.nil
 | x :: r, l, hn, hs, hl => by
  obtain ⟨a, b, rfl⟩ := List.append_of_mem (hs x List.mem_cons_self)
  obtain ⟨n1, n2⟩ := List.nodup_cons.1 hn
  have := perm_subset r (a ++ b) n2 (fun z hz => by
   have := hs z (List.mem_cons_of_mem _ hz)
   rw [List.mem_append, List.mem_cons] at this
   rw [List.mem_append]
   rcases this with h | rfl | h
   ·exact .inl h
   ·exact absurd hz n1
   ·exact .inr h) (by simp at hl ⊢; omega)
  exact (this.cons x).trans List.perm_middle.symm
theorem isOrd_perm {p : List Int} (h : isOrd p = true) : p.Perm (ident p.length) := by
 obtain ⟨h1, h2⟩ := isOrd_all h
 refine perm_subset p _ h2 (fun x hx => ?_) (by rw [ident_length])
 have := h1 x hx
 exact upFrom_has _ 0 x (by omega) (by omega)
theorem ordGo_of (n : Int) : ∀ (r pre : List Int), (∀ x ∈ r, 0 ≤ x ∧ x ≤ n - 1 ∧ x ∉ pre) → r.Nodup → ordGo n pre r = true
 | [], _, _, _ => rfl
 | x :: r, pre, h, hn => by
  obtain ⟨n1, n2⟩ := List.nodup_cons.1 hn
  have hx := h x List.mem_cons_self
  rw [ordGo_cons, if_pos ⟨hx.1, hx.2.1⟩, if_neg hx.2.2]
  exact ordGo_of n r _ (fun z hz => by
   have := h z (List.mem_cons_of_mem _ hz)
   refine ⟨this.1, this.2.1, fun hm => ?_⟩
   rcases List.mem_append.1 hm with h3 | h3
   ·exact this.2.2 h3
   ·simp only [List.mem_singleton] at h3
    exact n1 (h3 ▸ hz)) n2
theorem isOrd_of_perm {p : List Int} {n : Nat} (h1 : 1 ≤ n) (h8 : n ≤ 8) (h : p.Perm (ident n)) : isOrd p = true := by
 have hl : p.length = n := by rw [h.length_eq, ident_length]
 unfold isOrd
 rw [if_pos ⟨by omega, by omega⟩]
 refine ordGo_of _ p [] (fun x hx => ?_) ?_
 ·have := (upFrom_lt n 0).2 x (h.subset hx)
  exact ⟨by omega, by omega, by simp⟩
 ·exact (h.nodup_iff).2 ((ident_lt n).imp (fun hab => Int.ne_of_lt hab))
theorem ocL_codeL {p : List Int} (h : isOrd p = true) : ocL (codeL p) = some p := by
 unfold ocL
 rw [codeL_length, codeL_R, ocGo_order p _ [] (ident_lt _) (isOrd_perm h)]; rfl
theorem fewer_le (x : Int) : ∀ l : List Int, fewer x l ≤ l.length
 | [] => Nat.le_refl _
 | z :: r => by
  have := fewer_le x r
  rw [fewer, List.length_cons]; split <;> omega
theorem descGo_has (p : List Int) : ∀ d i (j : Nat), i ≤ j → j < i + d → rd p (j : Int) > rd p ((j : Int) + 1) → (j : Int) ∈ descGo p d i
 | 0, i, j, h1, h2, _ => by omega
 | d + 1, i, j, h1, h2, h => by
  rw [descGo]
  by_cases e : j = i
  ·subst e; rw [if_pos h]; exact List.mem_cons_self
  ·have := descGo_has p d (i + 1) j (by omega) (by omega) h
   split
   ·exact List.mem_cons_of_mem _ this
   ·exact this
theorem desc_iff (p : List Int) (j : Nat) (hj : j + 1 < p.length) : (j : Int) ∈ desc p ↔ rd p (j : Int) > rd p ((j + 1 : Nat) : Int) := by
 constructor
 ·intro h
  obtain ⟨k, e, _, h2⟩ := desc_mem h
  obtain rfl : j = k := by omega
  exact h2
 ·intro h
  exact descGo_has p _ 0 j (by omega) (by omega) h
end Go.Proofs.YtlmiiijjjcddkaaL
namespace Go.Proofs.YtlmiiijjjcddkaaL
open Go.RowKit Go.Proofs.YtlmiiijjjcddkaaW.PrintWords
set_option linter.unusedVariables false
set_option linter.unusedSimpArgs false
theorem invC_fall (p : List Int) (j : Nat) (hj : j + 1 < p.length) (h : rd p (j : Int) > rd p ((j : Int) + 1)) : invC p = invC (swp p j (j + 1)) + 1 := by
 have h' : rd p (j : Int) > rd p ((j + 1 : Nat) : Int) := h
 have e1 := split_two p j (j + 1) (by omega) hj
 have e2 := swp_split p j (j + 1) (by omega) hj
 simp only [Nat.sub_self, List.take_zero, List.nil_append] at e1 e2
 have := invC_swap (p.take j) (rd p (j : Int)) (rd p ((j + 1 : Nat) : Int)) (p.drop (j + 1 + 1))
 rw [← e1, ← e2, if_neg (by omega), if_pos (by omega)] at this
 omega
theorem desc_head {p : List Int} {a : Int} {r : List Int} (h : desc p = a :: r) : ∃ j : Nat, a = (j : Int) ∧ j + 1 < p.length ∧ rd p (j : Int) > rd p ((j : Int) + 1) ∧ invC p = invC (swp p j (j + 1)) + 1 := by
 obtain ⟨j, e, hj, hr⟩ := desc_mem (p := p) (x := a) (by rw [h]; exact List.mem_cons_self)
 exact ⟨j, e, hj, hr, invC_fall p j hj hr⟩
end Go.Proofs.YtlmiiijjjcddkaaL
namespace Go.Proofs.YtlmiiijjjcddkaaL
open Go.RowKit Go.Proofs.YtlmiiijjjcddkaaW.PrintWords
set_option linter.unusedVariables false
set_option linter.unusedSimpArgs false
def inB (n : Int) (x : Int) : Bool := decide (0 ≤ x) && decide (x ≤ n - 2)
def good (n : Int) (l : List Int) : Bool := decide (2 ≤ n) && decide (n ≤ 8) && decide (l.length ≤ 60) && l.all (inB n)
def over (w r : Int) : Int := if w = r then r + 1 else if w = r + 1 then r else w
def endL (w : Int) : List Int → Int
 | [] => w
 | r :: l => endL (over w r) l
def resGo (l : List Int) : Nat → Nat → List Int
 | 0, _ => []
 | d + 1, i => endL (i : Int) l :: resGo l d (i + 1)
def resL (n : Int) (l : List Int) : List Int := resGo l n.toNat 0
theorem resGo_length (l : List Int) : ∀ d i, (resGo l d i).length = d
 | 0, _ => rfl
 | d + 1, i => by simp [resGo, resGo_length l d]
theorem resL_length (n : Int) (l : List Int) : (resL n l).length = n.toNat := resGo_length l _ _
end Go.Proofs.YtlmiiijjjcddkaaL
namespace Go.Proofs.YtlmiiijjjcddkaaL
open Go.RowKit Go.Proofs.YtlmiiijjjcddkaaW.PrintWords
set_option linter.unusedVariables false
set_option linter.unusedSimpArgs false
def cntF : Nat → List Int → Nat
 | 0, _ => 0
 | d + 1, p => if (desc p).length = 0 then 1 else ((desc p).map fun x => cntF d (swp p x.toNat (x.toNat + 1))).sum
theorem sum_le (m : Nat) : ∀ l : List Nat, (∀ x ∈ l, x ≤ m) → l.sum ≤ l.length * m
 | [], _ => Nat.zero_le _
 | x :: r, h => by
  have h1 := h x (by simp)
  have h2 := sum_le m r (fun y hy => h y (by simp [hy]))
  simp only [List.sum_cons, List.length_cons, Nat.succ_mul]
  omega
theorem cntF_le : ∀ (d : Nat) (p : List Int), p.length ≤ 8 → cntF d p ≤ 8 ^ d
 | 0, _, _ => Nat.zero_le _
 | d + 1, p, h => by
  rw [cntF]
  split
  ·exact Nat.one_le_pow _ _ (by decide)
  ·refine Nat.le_trans (sum_le (8 ^ d) _ ?_) ?_
   ·intro x hx
    obtain ⟨y, _, rfl⟩ := List.mem_map.1 hx
    exact cntF_le d _ (by rw [swp_length]; exact h)
   ·rw [List.length_map, Nat.pow_succ, Nat.mul_comm (8 ^ d)]
    exact Nat.mul_le_mul_right _ (Nat.le_trans (desc_length p) h)
theorem fewer_len (x : Int) : ∀ l : List Int, fewer x l ≤ l.length := fewer_le x
theorem invC_tri : ∀ p : List Int, 2 * invC p ≤ p.length * (p.length - 1)
 | [] => Nat.le_refl _
 | x :: r => by
  have h1 := invC_tri r
  have h2 := fewer_len x r
  rw [invC, List.length_cons, Nat.add_sub_cancel]
  have h3 : (r.length + 1) * r.length = r.length * (r.length - 1) + 2 * r.length := by
   cases r.length with
   | zero => rfl
   | succ n => rw [Nat.add_sub_cancel, Nat.mul_comm (n + 1) n, ← Nat.add_mul]
  omega
theorem invC_six {p : List Int} (h : p.length ≤ 6) : invC p ≤ 15 := by
 have h1 := invC_tri p
 have h2 : p.length * (p.length - 1) ≤ 6 * 5 := Nat.mul_le_mul h (by omega)
 omega
theorem isOrd_swp {p : List Int} (h : isOrd p = true) (j : Nat) (hj : j + 1 < p.length) : isOrd (swp p j (j + 1)) = true := by
 have hl := isOrd_len h
 exact isOrd_of_perm hl.1 hl.2 ((swp_perm p j (j + 1) (by omega) hj).trans (isOrd_perm h))
def rkGo : Int → List Int → Int
 | acc, [] => acc
 | acc, x :: r => rkGo (acc * ((r.length : Int) + 1) + ((fewer x r : Nat) : Int)) r
def rankL (p : List Int) : Int := rkGo 0 p
theorem div_one {a b c e m : Int} (hc : 0 ≤ c) (hc' : c ≤ m) (he : 0 ≤ e) (he' : e ≤ m) (h : a * (m + 1) + c = b * (m + 1) + e) : a = b ∧ c = e := by
 have h1 : (a * (m + 1) + c) / (m + 1) = a := by
  rw [Int.add_comm, Int.add_mul_ediv_right _ _ (by omega), Int.ediv_eq_zero_of_lt hc (by omega), Int.zero_add]
 have h2 : (b * (m + 1) + e) / (m + 1) = b := by
  rw [Int.add_comm, Int.add_mul_ediv_right _ _ (by omega), Int.ediv_eq_zero_of_lt he (by omega), Int.zero_add]
 rw [h] at h1
 have h3 : a = b := h1.symm.trans h2
 subst h3
 exact ⟨rfl, by omega⟩
theorem rkGo_inj : ∀ (p q : List Int) (a b : Int), p.length = q.length → rkGo a p = rkGo b q → a = b ∧ codeR p = codeR q
 | [], [], a, b, _, h => ⟨h, rfl⟩
 | [], _ :: _, _, _, h, _ => by simp at h
 | _ :: _, [], _, _, h, _ => by simp at h
 | x :: p, y :: q, a, b, hl, h => by
  have hl' : p.length = q.length := by simpa using hl
  rw [rkGo, rkGo] at h
  obtain ⟨h1, h2⟩ := rkGo_inj p q _ _ hl' h
  rw [← hl'] at h1
  have h3 := fewer_len x p
  have h4 := fewer_len y q
  obtain ⟨h5, h6⟩ := div_one (by omega) (by omega) (by omega) (by omega) h1
  refine ⟨h5, ?_⟩
  rw [codeR, codeR, h2, h6]
theorem rank_inj {p q : List Int} (hp : isOrd p = true) (hq : isOrd q = true) (hl : p.length = q.length) (h : rankL p = rankL q) : p = q := by
 have h1 := (rkGo_inj p q 0 0 hl h).2
 have h2 : ocL (codeL p) = ocL (codeL q) := by rw [codeL_R, codeL_R, h1]
 rw [ocL_codeL hp, ocL_codeL hq] at h2
 exact Option.some.inj h2
def cntd (p : List Int) : Bool := isOrd p && (decide (2 ≤ p.length) && decide (p.length ≤ 6))
theorem cntd_iff {p : List Int} : cntd p = true ↔ isOrd p = true ∧ 2 ≤ p.length ∧ p.length ≤ 6 := by simp [cntd]
def fct : Nat → Nat
 | 0 => 1
 | n + 1 => (n + 1) * fct n
theorem rkGo_lt : ∀ (p : List Int) (a : Int), 0 ≤ a → 0 ≤ rkGo a p ∧ rkGo a p < (a + 1) * ((fct p.length : Nat) : Int)
 | [], a, h => by rw [rkGo, List.length_nil, fct]; omega
 | x :: r, a, h => by
  have h3 := fewer_len x r
  have h0 : 0 ≤ a * ((r.length : Int) + 1) + ((fewer x r : Nat) : Int) := by
   have := Int.mul_nonneg h (show (0 : Int) ≤ (r.length : Int) + 1 by omega)
   omega
  obtain ⟨h1, h2⟩ := rkGo_lt r _ h0
  rw [rkGo]
  refine ⟨h1, Int.lt_of_lt_of_le h2 ?_⟩
  rw [List.length_cons, fct, Int.natCast_mul, ← Int.mul_assoc]
  refine Int.mul_le_mul_of_nonneg_right ?_ (Int.natCast_nonneg _)
  rw [Int.add_mul a 1, Int.one_mul]
  have : ((r.length + 1 : Nat) : Int) = (r.length : Int) + 1 := by omega
  rw [this]
  omega
theorem rank_lt (p : List Int) : 0 ≤ rankL p ∧ rankL p < ((fct p.length : Nat) : Int) := by
 have := rkGo_lt p 0 (Int.le_refl _)
 rw [Int.zero_add, Int.one_mul] at this
 exact this
theorem over_inj {w v r : Int} (h : over w r = over v r) : w = v := by
 unfold over at h
 split at h <;> split at h <;> (try split at h) <;> (try split at h) <;> omega
theorem endL_inj : ∀ (l : List Int) (w v : Int), endL w l = endL v l → w = v
 | [], _, _, h => h
 | r :: l, w, v, h => over_inj (endL_inj l _ _ h)
theorem resGo_map (l : List Int) : ∀ d i, resGo l d i = (upFrom d i).map fun w => endL w l
 | 0, _ => rfl
 | d + 1, i => by rw [resGo, upFrom, List.map_cons, resGo_map l d (i + 1)]
end Go.Proofs.YtlmiiijjjcddkaaL
namespace Go.Proofs.YtlmiiijjjcddkaaL
open Go.RowKit Go.Proofs.YtlmiiijjjcddkaaW.PrintWords
set_option linter.unusedVariables false
set_option linter.unusedSimpArgs false
theorem nodup_bound : ∀ (n : Nat) (l : List Int), l.Nodup → (∀ x ∈ l, 0 ≤ x ∧ x < n) → l.length ≤ n
  | 0, l, _, h => by
    cases l with
    | nil => exact Nat.le_refl _
    | cons x r => have := h x (by simp); omega
  | n + 1, l, hn, h => by
    by_cases hm : (n : Int) ∈ l
    · have h1 := List.length_erase_of_mem hm
      have h2 := nodup_bound n (l.erase (n : Int)) (hn.erase _) (fun x hx => by
        obtain ⟨h3, h4⟩ := hn.mem_erase_iff.1 hx
        have := h x h4
        omega)
      have h5 : 0 < l.length := List.length_pos_of_mem hm
      omega
    · have := nodup_bound n l hn (fun x hx => by
        have h1 := h x hx
        have h2 : x ≠ (n : Int) := fun e => hm (e ▸ hx)
        omega)
      omega
theorem rd_inj {p : List Int} (hp : p.Nodup) (x y : Int) (hx : 0 ≤ x ∧ x < p.length) (hy : 0 ≤ y ∧ y < p.length) (h : rd p x = rd p y) : x = y := by
 obtain ⟨i, rfl⟩ := Int.eq_ofNat_of_zero_le hx.1
 obtain ⟨j, rfl⟩ := Int.eq_ofNat_of_zero_le hy.1
 rw [rd_lt p i (by omega), rd_lt p j (by omega)] at h
 have hw := List.pairwise_iff_getElem.1 hp
 rcases Nat.lt_trichotomy i j with h1 | h1 | h1
 ·exact absurd h (hw i j (by omega) (by omega) h1)
 ·rw [h1]
 ·exact absurd h.symm (hw j i (by omega) (by omega) h1)
end Go.Proofs.YtlmiiijjjcddkaaL
namespace Go.Proofs.YtlmiiijjjcddkaaL
open Go.RowKit Go.Proofs.YtlmiiijjjcddkaaW.PrintWords
set_option linter.unusedVariables false
set_option linter.unusedSimpArgs false
def listF : Nat → List Int → List (List Int)
 | 0, _ => []
 | d + 1, p => if (desc p).length = 0 then [[]] else (desc p).flatMap fun x => (listF d (swp p x.toNat (x.toNat + 1))).map fun r => x :: r
theorem listF_length : ∀ (d : Nat) (p : List Int), (listF d p).length = cntF d p
 | 0, _ => rfl
 | d + 1, p => by
  unfold listF cntF
  split
  ·rfl
  ·rw [List.length_flatMap]
   congr 1
   apply List.map_congr_left
   intro x _
   rw [List.length_map, listF_length d]
theorem listF_short : ∀ (d : Nat) (p : List Int), ∀ l ∈ listF d p, l.length < d
 | 0, _ => fun l hl => by cases hl
 | d + 1, p => fun l hl => by
  unfold listF at hl
  split at hl
  ·rw [List.mem_singleton] at hl
   rw [hl]
   exact Nat.succ_pos _
  ·obtain ⟨x, _, hx⟩ := List.mem_flatMap.1 hl
   obtain ⟨r, hr, rfl⟩ := List.mem_map.1 hx
   have := listF_short d _ r hr
   rw [List.length_cons]; omega
theorem rd_adj {p : List Int} (h : isOrd p = true) (j : Nat) (hj : j + 1 < p.length) : rd p (j : Int) ≠ rd p ((j : Int) + 1) := fun e => by
 have := rd_inj (isOrd_all h).2 (j : Int) ((j : Int) + 1) ⟨by omega, by omega⟩ ⟨by omega, by omega⟩ e
 omega
theorem cnt_part {d : Nat} {p : List Int} {x : Int} (hx : x ∈ desc p) : cntF d (swp p x.toNat (x.toNat + 1)) ≤ cntF (d + 1) p := by
 have h0 : ¬ (desc p).length = 0 := fun e => by rw [List.length_eq_zero_iff.1 e] at hx; cases hx
 have h1 : ∀ (l : List Nat) (y : Nat), y ∈ l → y ≤ l.sum := by
  intro l
  induction l with
  | nil => intro y hy; cases hy
  | cons a l ih =>
   intro y hy
   rw [List.sum_cons]
   rcases List.mem_cons.1 hy with rfl | hy
   ·omega
   ·have := ih y hy; omega
 have h2 : cntF (d + 1) p = ((desc p).map fun x => cntF d (swp p x.toNat (x.toNat + 1))).sum := by
  rw [cntF, if_neg h0]
 rw [h2]
 exact h1 _ _ (List.mem_map.2 ⟨x, hx, rfl⟩)
theorem mem_desc {p : List Int} {j : Nat} (hj : j + 1 < p.length) (h : rd p (j : Int) > rd p ((j : Int) + 1)) : (j : Int) ∈ desc p := by
 have go : ∀ d i, i ≤ j → j < i + d → (j : Int) ∈ descGo p d i := by
  intro d
  induction d with
  | zero => intro i h1 h2; omega
  | succ d ih =>
   intro i h1 h2
   unfold descGo
   by_cases e : i = j
   ·subst e; rw [if_pos h]; exact List.mem_cons_self
   ·have := ih (i + 1) (by omega) (by omega)
    split
    ·exact List.mem_cons_of_mem _ this
    ·exact this
 exact go _ 0 (by omega) (by omega)
end Go.Proofs.YtlmiiijjjcddkaaL
namespace Go.Proofs.YtlmiiijjjcddkaaL
open Go.RowKit Go.Proofs.YtlmiiijjjcddkaaW.PrintWords
set_option linter.unusedVariables false
set_option linter.unusedSimpArgs false
def farI (r x : Int) : Bool := decide (2 ≤ x - r) || decide (2 ≤ r - x)
def freeL (l : List Int) (i : Nat) : Bool := (l.take i).all (farI (rd l (i : Int)))
def bestL (l : List Int) : Nat → Int
 | 0 => -1
 | i + 1 => if freeL l i = true then (if bestL l i < 0 then (i : Int) else if rd l (i : Int) < rd l (bestL l i) then (i : Int) else bestL l i) else bestL l i
theorem bestL_range (l : List Int) : ∀ n : Nat, -1 ≤ bestL l n ∧ bestL l n < n
 | 0 => by unfold bestL; omega
 | n + 1 => by
  have := bestL_range l n
  unfold bestL
  repeat' split
  all_goals omega
theorem bestL_zero (l : List Int) : freeL l 0 = true := by unfold freeL; rw [List.take_zero]; rfl
theorem bestL_pos (l : List Int) : ∀ n : Nat, 0 < n → 0 ≤ bestL l n
 | 0, h => by omega
 | 1, _ => by
  unfold bestL
  rw [if_pos (bestL_zero l), if_pos (show bestL l 0 < 0 by unfold bestL; omega)]
  omega
 | n + 2, _ => by
  have := bestL_pos l (n + 1) (by omega)
  rw [bestL]
  repeat' split
  all_goals omega
theorem bestL_free (l : List Int) : ∀ n : Nat, 0 ≤ bestL l n → freeL l (bestL l n).toNat = true
 | 0, h => by unfold bestL at h; omega
 | n + 1, h => by
  have ih := bestL_free l n
  unfold bestL at h ⊢
  split
  ·rename_i hf
   rw [if_pos hf] at h
   split
   ·rw [Int.toNat_natCast]; exact hf
   ·rename_i h1
    split
    ·rw [Int.toNat_natCast]; exact hf
    ·exact ih (by omega)
  ·rename_i hf
   rw [if_neg hf] at h
   exact ih h
theorem bestL_least (l : List Int) : ∀ (n j : Nat), j < n → freeL l j = true → rd l (bestL l n) ≤ rd l (j : Int)
 | 0, _, h, _ => by omega
 | n + 1, j, h, hf => by
  have ih := bestL_least l n j
  unfold bestL
  by_cases hn : freeL l n = true
  ·rw [if_pos hn]
   by_cases e : j = n
   ·subst e
    split
    ·exact Int.le_refl _
    ·split <;> omega
   ·have := ih (by omega) hf
    rw [if_neg (show ¬ bestL l n < 0 by have := bestL_pos l n (by omega); omega)]
    split <;> omega
  ·rw [if_neg hn]
   have : j ≠ n := fun e => hn (e ▸ hf)
   exact ih (by omega) hf
theorem free_far (l : List Int) (i j : Nat) (hij : i < j) (hj : j < l.length) (hf : freeL l j = true) : rd l (i : Int) ≠ rd l (j : Int) := by
 have h1 : rd l (i : Int) ∈ l.take j := by
  rw [rd_lt l i (by omega)]
  exact List.mem_take_iff_getElem.2 ⟨i, by omega, rfl⟩
 have h2 := List.all_eq_true.1 hf _ h1
 unfold farI at h2
 simp at h2
 omega
theorem free_same (l : List Int) (i j : Nat) (hi : i < l.length) (hj : j < l.length) (fi : freeL l i = true) (fj : freeL l j = true) (h : rd l (i : Int) = rd l (j : Int)) : i = j := by
 rcases Nat.lt_trichotomy i j with h1 | h1 | h1
 ·exact absurd h (free_far l i j h1 hj fj)
 ·exact h1
 ·exact absurd h.symm (free_far l j i h1 hi fi)
theorem bestL_only (l : List Int) (i : Nat) (hi : i < l.length) (fi : freeL l i = true) (hl : ∀ j, j < l.length → freeL l j = true → rd l (i : Int) ≤ rd l (j : Int)) : bestL l l.length = (i : Int) := by
 have h0 := bestL_pos l l.length (by omega)
 have h1 := bestL_range l l.length
 obtain ⟨b, hb⟩ : ∃ b : Nat, bestL l l.length = (b : Int) := ⟨(bestL l l.length).toNat, by omega⟩
 have h2 := bestL_free l l.length h0
 have h3 := bestL_least l l.length i hi fi
 rw [hb] at h1 h2 h3 ⊢
 rw [Int.toNat_natCast] at h2
 have h4 := hl b (by omega) h2
 rw [free_same l b i (by omega) hi h2 fi (by omega)]
def nfGo : Nat → List Int → List Int
 | 0, _ => []
 | d + 1, l => rd l (bestL l l.length) :: nfGo d (woL l (bestL l l.length))
def nfL (l : List Int) : List Int := nfGo l.length l
theorem nfGo_length : ∀ (d : Nat) (l : List Int), (nfGo d l).length = d
 | 0, _ => rfl
 | d + 1, l => by rw [nfGo, List.length_cons, nfGo_length d]
theorem nfL_length (l : List Int) : (nfL l).length = l.length := nfGo_length _ _
theorem woL_len (l : List Int) (i : Int) (h0 : 0 ≤ i) (h1 : i < l.length) : (woL l i).length + 1 = l.length := by
 unfold woL
 rw [List.length_append, List.length_take, List.length_drop]
 omega
theorem woL_mem (l : List Int) (i x : Int) (h : x ∈ woL l i) : x ∈ l := by
 unfold woL at h
 rcases List.mem_append.1 h with h | h
 ·exact List.mem_of_mem_take h
 ·exact List.mem_of_mem_drop h
theorem free_few (l : List Int) (m : Nat) (hm : ∀ x ∈ l, 0 ≤ x ∧ x < m) (os : List Nat) (hn : os.Nodup) (ho : ∀ i ∈ os, i < l.length ∧ freeL l i = true) : os.length ≤ m := by
 have h1 : (os.map fun i : Nat => rd l (i : Int)).length ≤ m := by
  refine nodup_bound m _ ?_ ?_
  ·refine List.pairwise_map.2 (List.Pairwise.imp_of_mem ?_ hn)
   intro a b ha hb hab e
   exact hab (free_same l a b (ho a ha).1 (ho b hb).1 (ho a ha).2 (ho b hb).2 e)
  ·intro x hx
   obtain ⟨i, hi, rfl⟩ := List.mem_map.1 hx
   exact hm _ (rd_mem l i (ho i hi).1)
 simpa using h1
def lexL : List Int → List Int → Bool
 | [], b => decide (0 < b.length)
 | _ :: _, [] => false
 | x :: a, y :: b => if x = y then lexL a b else decide (x < y)
end Go.Proofs.YtlmiiijjjcddkaaL
namespace Go.Proofs.YtlmiiijjjcddkaaL
open Go.RowKit Go.Proofs.YtlmiiijjjcddkaaW.PrintWords
set_option linter.unusedVariables false
set_option linter.unusedSimpArgs false
theorem farI_comm (a b : Int) : farI a b = farI b a := by unfold farI; exact Bool.or_comm _ _
theorem farI_ne {a b : Int} (h : farI a b = true) : a ≠ b := by unfold farI at h; simp at h; omega
def frB : List Int → Int → Bool
 | [], _ => false
 | x :: l, r => if x = r then true else farI r x && frB l r
theorem frB_mem : ∀ {l : List Int} {r : Int}, frB l r = true → r ∈ l
 | [], _, h => by cases h
 | x :: l, r, h => by
  unfold frB at h
  by_cases e : x = r
  ·subst e; exact List.mem_cons_self
  ·rw [if_neg e, Bool.and_eq_true] at h
   exact List.mem_cons_of_mem _ (frB_mem h.2)
theorem frB_split (r : Int) : ∀ (p q : List Int), p.all (farI r) = true → frB (p ++ r :: q) r = true ∧ (p ++ r :: q).erase r = p ++ q
 | [], q, _ => ⟨by rw [List.nil_append, frB, if_pos rfl], by simp⟩
 | x :: p, q, h => by
  rw [List.all_cons, Bool.and_eq_true] at h
  have ih := frB_split r p q h.2
  have hx : x ≠ r := fun e => farI_ne h.1 e.symm
  refine ⟨by rw [List.cons_append, frB, if_neg hx, h.1, ih.1]; rfl, ?_⟩
  rw [List.cons_append, List.erase_cons_tail (by simpa using hx), ih.2]; rfl
theorem frB_iff : ∀ (l : List Int) (r : Int), frB l r = true ↔ ∃ p q, l = p ++ r :: q ∧ p.all (farI r) = true
 | [], r => ⟨fun h => (by cases h), by rintro ⟨p, q, h, _⟩; cases p <;> cases h⟩
 | x :: l, r => by
  constructor
  ·intro h
   unfold frB at h
   by_cases e : x = r
   ·subst e; exact ⟨[], l, rfl, rfl⟩
   ·rw [if_neg e, Bool.and_eq_true] at h
    obtain ⟨p, q, rfl, hp⟩ := (frB_iff l r).1 h.2
    exact ⟨x :: p, q, rfl, by rw [List.all_cons, h.1, hp]; rfl⟩
  ·rintro ⟨p, q, h, hp⟩
   rw [h]; exact (frB_split r p q hp).1
theorem cut_rd (l : List Int) (i : Nat) (hi : i < l.length) : l = l.take i ++ rd l (i : Int) :: l.drop (i + 1) := by
 rw [← drop_rd l i hi, List.take_append_drop]
theorem freeL_fr (l : List Int) (i : Nat) (hi : i < l.length) (h : freeL l i = true) : frB l (rd l (i : Int)) = true ∧ woL l (i : Int) = l.erase (rd l (i : Int)) := by
 have e := cut_rd l i hi
 have hs := frB_split (rd l (i : Int)) (l.take i) (l.drop (i + 1)) h
 rw [← e] at hs
 refine ⟨hs.1, ?_⟩
 rw [hs.2]; unfold woL; rw [Int.toNat_natCast]
theorem fr_freeL (l : List Int) (r : Int) (h : frB l r = true) : ∃ i : Nat, i < l.length ∧ rd l (i : Int) = r ∧ freeL l i = true := by
 obtain ⟨p, q, rfl, hp⟩ := (frB_iff l r).1 h
 have hl : p.length < (p ++ r :: q).length := by simp
 have hr : rd (p ++ r :: q) (p.length : Int) = r := by rw [rd_lt _ _ hl]; simp
 refine ⟨p.length, hl, hr, ?_⟩
 unfold freeL
 rw [hr, List.take_left]; exact hp
def Sl (x y : List Int) : Prop := ∃ u a b v, x = u ++ a :: b :: v ∧ y = u ++ b :: a :: v ∧ farI a b = true
inductive Rch (l : List Int) : List Int → Prop
 | refl : Rch l l
 | step {x y : List Int} : Rch l x → Sl x y → Rch l y
theorem Sl.cons {x y : List Int} (c : Int) (h : Sl x y) : Sl (c :: x) (c :: y) := by
 obtain ⟨u, a, b, v, rfl, rfl, h⟩ := h
 exact ⟨c :: u, a, b, v, rfl, rfl, h⟩
theorem Sl.symm {x y : List Int} (h : Sl x y) : Sl y x := by
 obtain ⟨u, a, b, v, rfl, rfl, h⟩ := h
 exact ⟨u, b, a, v, rfl, rfl, by rw [farI_comm]; exact h⟩
theorem Sl.length {x y : List Int} (h : Sl x y) : y.length = x.length := by
 obtain ⟨u, a, b, v, rfl, rfl, h⟩ := h
 simp
theorem Sl.mem {x y : List Int} (h : Sl x y) (z : Int) (hz : z ∈ y) : z ∈ x := by
 obtain ⟨u, a, b, v, rfl, rfl, h⟩ := h
 simp only [List.mem_append, List.mem_cons] at hz ⊢
 rcases hz with h | h | h | h <;> simp [h]
theorem Rch.cons {l x : List Int} (c : Int) (h : Rch l x) : Rch (c :: l) (c :: x) := by
 induction h with
 | refl => exact .refl
 | step _ hs ih => exact .step ih (hs.cons c)
theorem Rch.trans {l x y : List Int} (h : Rch l x) (h2 : Rch x y) : Rch l y := by
 induction h2 with
 | refl => exact h
 | step _ hs ih => exact .step ih hs
theorem Rch.symm {l x : List Int} (h : Rch l x) : Rch x l := by
 induction h with
 | refl => exact .refl
 | step _ hs ih => exact (Rch.step .refl hs.symm).trans ih
theorem Rch.length {l x : List Int} (h : Rch l x) : x.length = l.length := by
 induction h with
 | refl => rfl
 | step _ hs ih => rw [hs.length, ih]
theorem Rch.mem {l x : List Int} (h : Rch l x) (z : Int) (hz : z ∈ x) : z ∈ l := by
 induction h with
 | refl => exact hz
 | step _ hs ih => exact ih (hs.mem z hz)
theorem fr_reach : ∀ (l : List Int) (r : Int), frB l r = true → Rch l (r :: l.erase r)
 | [], _, h => by cases h
 | x :: l, r, h => by
  unfold frB at h
  by_cases e : x = r
  ·subst e; rw [List.erase_cons_head]; exact .refl
  ·rw [if_neg e, Bool.and_eq_true] at h
   rw [List.erase_cons_tail (by simpa using e)]
   exact .step ((fr_reach l r h.2).cons x) ⟨[], x, r, l.erase r, rfl, rfl, by rw [farI_comm]; exact h.1⟩
def sevn : List Int := [0, 1, 2, 3, 4, 5, 6]
theorem sevn_mem (x : Int) : x ∈ sevn ↔ 0 ≤ x ∧ x ≤ 6 := by unfold sevn; simp; omega
theorem sevn_lt : sevn.Pairwise (· < ·) := by unfold sevn; decide
def exts : Nat → List Int → List (List Int)
 | 0, _ => [[]]
 | d + 1, l => (sevn.filter (frB l)).flatMap fun r => (exts d (l.erase r)).map (r :: ·)
theorem mem_exts (d : Nat) (l x : List Int) : x ∈ exts (d + 1) l ↔ ∃ r y, x = r :: y ∧ (0 ≤ r ∧ r ≤ 6) ∧ frB l r = true ∧ y ∈ exts d (l.erase r) := by
 rw [exts, List.mem_flatMap]
 constructor
 ·rintro ⟨r, hr, hx⟩
  rw [List.mem_filter] at hr
  obtain ⟨y, hy, rfl⟩ := List.mem_map.1 hx
  exact ⟨r, y, rfl, (sevn_mem r).1 hr.1, hr.2, hy⟩
 ·rintro ⟨r, y, rfl, hr, hf, hy⟩
  exact ⟨r, List.mem_filter.2 ⟨(sevn_mem r).2 hr, hf⟩, List.mem_map.2 ⟨y, hy, rfl⟩⟩
theorem erase_len {l : List Int} {r : Int} {d : Nat} (h : l.length = d + 1) (hf : frB l r = true) : (l.erase r).length = d := by
 rw [List.length_erase_of_mem (frB_mem hf)]; omega
theorem exts_reach : ∀ (d : Nat) (l x : List Int), l.length = d → x ∈ exts d l → Rch l x
 | 0, l, x, h, hx => by
  obtain rfl : l = [] := List.eq_nil_of_length_eq_zero h
  obtain rfl : x = [] := by simpa [exts] using hx
  exact .refl
 | d + 1, l, x, h, hx => by
  obtain ⟨r, y, rfl, hr, hf, hy⟩ := (mem_exts d l x).1 hx
  exact (fr_reach l r hf).trans ((exts_reach d (l.erase r) y (erase_len h hf) hy).cons r)
theorem exts_self : ∀ (l : List Int), (∀ x ∈ l, 0 ≤ x ∧ x ≤ 6) → l ∈ exts l.length l
 | [], _ => by simp [exts]
 | a :: l, h => (mem_exts _ _ _).2 ⟨a, l, rfl, h a (by simp), by rw [frB, if_pos rfl], by rw [List.erase_cons_head]; exact exts_self l (fun x hx => h x (by simp [hx]))⟩
theorem fr_back {a b : Int} (hab : farI a b = true) : ∀ (l : List Int), frB l a = true → frB (l.erase a) b = true → frB l b = true
 | [], h, _ => by cases h
 | x :: l, h, h2 => by
  by_cases e : x = a
  ·subst e
   rw [List.erase_cons_head] at h2
   rw [frB, if_neg (farI_ne hab), h2, farI_comm, hab]; rfl
  ·rw [List.erase_cons_tail (by simpa using e)] at h2
   unfold frB at h h2 ⊢
   rw [if_neg e, Bool.and_eq_true] at h
   by_cases e2 : x = b
   ·rw [if_pos e2]
   ·rw [if_neg e2, Bool.and_eq_true] at h2
    rw [if_neg e2, h2.1, fr_back hab l h.2 h2.2]; rfl
theorem fr_on {a b : Int} (hab : farI a b = true) : ∀ (l : List Int), frB l a = true → frB l b = true → frB (l.erase b) a = true
 | [], h, _ => by cases h
 | x :: l, h, h2 => by
  have hne := farI_ne hab
  by_cases e : x = b
  ·subst e
   rw [List.erase_cons_head]
   unfold frB at h
   rw [if_neg (Ne.symm hne), Bool.and_eq_true] at h
   exact h.2
  ·rw [List.erase_cons_tail (by simpa using e)]
   unfold frB at h h2 ⊢
   rw [if_neg e, Bool.and_eq_true] at h2
   by_cases e2 : x = a
   ·rw [if_pos e2]
   ·rw [if_neg e2, Bool.and_eq_true] at h
    rw [if_neg e2, h.1, fr_on hab l h.2 h2.2]; rfl
theorem exts_closed : ∀ (d : Nat) (l x y : List Int), x ∈ exts d l → Sl x y → y ∈ exts d l
 | 0, l, x, y, hx, hs => by
  obtain rfl : x = [] := by simpa [exts] using hx
  obtain ⟨u, a, b, v, h, _, _⟩ := hs
  cases u <;> cases h
 | d + 1, l, x, y, hx, hs => by
  obtain ⟨r, z, rfl, hr, hf, hz⟩ := (mem_exts d l x).1 hx
  obtain ⟨u, a, b, v, h, rfl, hab⟩ := hs
  cases u with
  | cons c u =>
   obtain ⟨rfl, rfl⟩ := List.cons.inj h
   exact (mem_exts d l _).2 ⟨r, u ++ b :: a :: v, rfl, hr, hf, exts_closed d _ _ _ hz ⟨u, a, b, v, rfl, rfl, hab⟩⟩
  | nil =>
   obtain ⟨rfl, rfl⟩ := List.cons.inj h
   cases d with
   | zero => simp [exts] at hz
   | succ d =>
    obtain ⟨b', v', e, hb, hf2, hv⟩ := (mem_exts d _ _).1 hz
    obtain ⟨rfl, rfl⟩ := List.cons.inj e
    have hb2 := fr_back hab l hf hf2
    refine (mem_exts (d + 1) l _).2 ⟨b, r :: v, rfl, hb, hb2, (mem_exts d _ _).2 ⟨r, v, rfl, hr, fr_on hab l hf hb2, ?_⟩⟩
    rw [List.erase_comm]; exact hv
theorem exts_iff (l x : List Int) (hl : ∀ z ∈ l, 0 ≤ z ∧ z ≤ 6) : x ∈ exts l.length l ↔ Rch l x := by
 refine ⟨exts_reach _ l x rfl, fun h => ?_⟩
 induction h with
 | refl => exact exts_self l hl
 | step _ hs ih => exact exts_closed _ l _ _ ih hs
theorem lexL_irr : ∀ a : List Int, lexL a a = false
 | [] => rfl
 | x :: a => by rw [lexL, if_pos rfl]; exact lexL_irr a
theorem lexL_trans : ∀ (a b c : List Int), lexL a b = true → lexL b c = true → lexL a c = true
 | [], [], _, h, _ => by cases h
 | [], _ :: _, [], _, h => by cases h
 | [], _ :: _, _ :: _, _, _ => rfl
 | _ :: _, [], _, h, _ => by cases h
 | _ :: _, _ :: _, [], _, h => by cases h
 | x :: a, y :: b, z :: c, h, h2 => by
  rw [lexL] at h h2 ⊢
  by_cases e : x = y
  ·subst e
   rw [if_pos rfl] at h
   by_cases e2 : x = z
   ·rw [if_pos e2] at h2 ⊢; exact lexL_trans a b c h h2
   ·rw [if_neg e2] at h2 ⊢; exact h2
  ·rw [if_neg e] at h
   have h3 := of_decide_eq_true h
   by_cases e2 : y = z
   ·subst e2; rw [if_neg e]; exact h
   ·rw [if_neg e2] at h2
    have h4 := of_decide_eq_true h2
    rw [if_neg (show ¬ x = z by omega)]
    exact decide_eq_true (by omega)
def SortL (A : List (List Int)) : Prop := A.Pairwise fun x y => lexL x y = true
theorem sort_ext : ∀ (A B : List (List Int)), SortL A → SortL B → (∀ x, x ∈ A ↔ x ∈ B) → A = B
 | [], [], _, _, _ => rfl
 | [], b :: B, _, _, h => by have := (h b).2 (by simp); cases this
 | a :: A, [], _, _, h => by have := (h a).1 (by simp); cases this
 | a :: A, b :: B, hA, hB, h => by
  unfold SortL at hA hB
  rw [List.pairwise_cons] at hA hB
  have e : a = b := by
   rcases List.mem_cons.1 ((h a).1 (by simp)) with e | h1
   ·exact e
   ·rcases List.mem_cons.1 ((h b).2 (by simp)) with e | h2
    ·exact e.symm
    ·have := lexL_trans _ _ _ (hA.1 b h2) (hB.1 a h1)
     rw [lexL_irr] at this; cases this
  subst e
  rw [sort_ext A B hA.2 hB.2 fun x => ⟨fun hx => ?_, fun hx => ?_⟩]
  ·rcases List.mem_cons.1 ((h x).1 (by simp [hx])) with rfl | h1
   ·have := hA.1 x hx; rw [lexL_irr] at this; cases this
   ·exact h1
  ·rcases List.mem_cons.1 ((h x).2 (by simp [hx])) with rfl | h1
   ·have := hB.1 x hx; rw [lexL_irr] at this; cases this
   ·exact h1
theorem exts_sort : ∀ (d : Nat) (l : List Int), SortL (exts d l)
 | 0, l => by unfold SortL exts; exact List.pairwise_singleton _ _
 | d + 1, l => by
  unfold SortL
  rw [exts, List.pairwise_flatMap]
  refine ⟨fun r hr => ?_, ?_⟩
  ·rw [List.pairwise_map]
   refine (exts_sort d (l.erase r)).imp fun h => ?_
   rw [lexL, if_pos rfl]; exact h
  ·refine (sevn_lt.filter (frB l)).imp fun {a b} hab => ?_
   intro x hx y hy
   obtain ⟨x', _, rfl⟩ := List.mem_map.1 hx
   obtain ⟨y', _, rfl⟩ := List.mem_map.1 hy
   rw [lexL, if_neg (by omega)]
   exact decide_eq_true hab
theorem SortL.nodup {A : List (List Int)} (h : SortL A) : A.Nodup := by
 refine List.nodup_iff_pairwise_ne.2 (List.Pairwise.imp (fun {a b} hab => ?_) h)
 intro e; subst e; rw [lexL_irr] at hab; cases hab
theorem sub_length : ∀ (A B : List (List Int)), A.Nodup → (∀ x ∈ A, x ∈ B) → A.length ≤ B.length
 | [], B, _, _ => Nat.zero_le _
 | a :: A, B, hn, h => by
  rw [List.nodup_cons] at hn
  have hm := h a (by simp)
  have := sub_length A (B.erase a) hn.2 (fun x hx => (List.mem_erase_of_ne (fun e => hn.1 (by rw [← e]; exact hx))).2 (h x (by simp [hx])))
  rw [List.length_erase_of_mem hm] at this
  have hp := List.length_pos_of_mem hm
  rw [List.length_cons]; omega
end Go.Proofs.YtlmiiijjjcddkaaL
namespace Go.Proofs.YtlmiiijjjcddkaaL
open Go.RowKit Go.Proofs.YtlmiiijjjcddkaaW.PrintWords
set_option linter.unusedVariables false
set_option linter.unusedSimpArgs false
def slideC (l : List Int) (a : Int) : Bool := decide (0 ≤ a ∧ a + 1 < l.length ∧ (rd l a - rd l (a + 1) ≥ 2 ∨ rd l (a + 1) - rd l a ≥ 2))
def slideL (l : List Int) (a : Int) : List Int := swp l a.toNat (a.toNat + 1)
def flipC (l : List Int) (a : Int) : Bool := decide (0 ≤ a ∧ a + 2 < l.length ∧ rd l a = rd l (a + 2) ∧ (rd l a - rd l (a + 1) = 1 ∨ rd l (a + 1) - rd l a = 1))
def flipL (l : List Int) (a : Int) : List Int := ((l.set a.toNat (rd l (a + 1))).set (a.toNat + 1) (rd l a)).set (a.toNat + 2) (rd l (a + 1))
theorem flipL_length (l : List Int) (a : Int) : (flipL l a).length = l.length := by simp [flipL]
theorem small_rd {l : List Int} (h : ∀ x ∈ l, 0 ≤ x ∧ x ≤ 1000) (a : Int) (h0 : 0 ≤ a) (h1 : a < l.length) : 0 ≤ rd l a ∧ rd l a ≤ 1000 := by
 have := rd_mem l a.toNat (by omega)
 rw [Int.toNat_of_nonneg h0] at this
 exact h _ this
theorem flipL_eq (l : List Int) (i : Nat) (h : i + 2 < l.length) : l.take i ++ [rd l ((i : Int) + 1), rd l (i : Int), rd l ((i : Int) + 1)] ++ l.drop (i + 3) = flipL l (i : Int) := by
 unfold flipL
 rw [toNat_cast]
 refine List.ext_getElem (by simp; omega) (fun q h1 h2 => ?_)
 rw [List.getElem_set, List.getElem_set, List.getElem_set]
 rcases Nat.lt_or_ge q i with c | c
 ·rw [if_neg (by omega), if_neg (by omega), if_neg (by omega), List.getElem_append_left (by simp; omega), List.getElem_append_left (by rw [List.length_take]; omega), List.getElem_take]
 ·rcases Nat.lt_or_ge q (i + 3) with d | d
  ·have e : q = i ∨ q = i + 1 ∨ q = i + 2 := by omega
   have hl : (l.take i).length = i := by rw [List.length_take]; omega
   rw [List.getElem_append_left (by simp; omega), List.getElem_append_right (by omega)]
   rcases e with rfl | rfl | rfl
   ·rw [if_neg (by omega), if_neg (by omega), if_pos rfl]; simp [hl]
   ·rw [if_neg (by omega), if_pos rfl]; simp [hl]
   ·rw [if_pos rfl]; simp [hl]
  ·have hl : (l.take i ++ [rd l ((i : Int) + 1), rd l (i : Int), rd l ((i : Int) + 1)]).length = i + 3 := by simp; omega
   rw [if_neg (by omega), if_neg (by omega), if_neg (by omega), List.getElem_append_right (by omega), List.getElem_drop]
   simp only [hl]
   congr 1; omega
end Go.Proofs.YtlmiiijjjcddkaaL
namespace Go.Proofs.YtlmiiijjjcddkaaL
open Go.RowKit Go.Proofs.YtlmiiijjjcddkaaW.PrintWords
set_option linter.unusedVariables false
set_option linter.unusedSimpArgs false
def rdR (all : List (List Int)) (i : Int) : List Int := all.getD i.toNat []
theorem rdR_lt (all : List (List Int)) (i : Nat) (h : i < all.length) : rdR all (i : Int) = all[i] := by
 unfold rdR; rw [Int.toNat_natCast, List.getD_eq_getElem?_getD, List.getElem?_eq_getElem h]; rfl
theorem rdR_mem (all : List (List Int)) (i : Nat) (h : i < all.length) : rdR all (i : Int) ∈ all := by
 rw [rdR_lt all i h]; exact List.getElem_mem h
theorem rdR_mem' {all : List (List Int)} {o : Int} (h : 0 ≤ o ∧ o < (all.length : Int)) : rdR all o ∈ all := by
 obtain ⟨k, rfl⟩ := Int.eq_ofNat_of_zero_le h.1
 exact rdR_mem all k (by omega)
theorem rdR_app (all : List (List Int)) (y : List Int) {o : Int} (h : 0 ≤ o ∧ o < (all.length : Int)) : rdR (all ++ [y]) o = rdR all o := by
 obtain ⟨k, rfl⟩ := Int.eq_ofNat_of_zero_le h.1
 rw [rdR_lt all k (by omega), rdR_lt _ k (by simp; omega), List.getElem_append_left (by omega)]
theorem rdR_last (all : List (List Int)) (y : List Int) : rdR (all ++ [y]) (all.length : Int) = y := by
 rw [rdR_lt _ _ (by simp), List.getElem_append_right (Nat.le_refl _)]; simp
theorem slide_at (u v : List Int) (a b : Int) : rd (u ++ a :: b :: v) (u.length : Int) = a ∧ rd (u ++ a :: b :: v) ((u.length : Int) + 1) = b ∧ slideL (u ++ a :: b :: v) (u.length : Int) = u ++ b :: a :: v := by
 have e1 : rd (u ++ a :: b :: v) (u.length : Int) = a := by rw [rd_lt _ _ (by simp)]; simp
 have e2 : rd (u ++ a :: b :: v) ((u.length : Int) + 1) = b := by
  rw [show ((u.length : Int) + 1) = ((u.length + 1 : Nat) : Int) by omega, rd_lt _ _ (by simp), List.getElem_append_right (by omega)]; simp
 refine ⟨e1, e2, ?_⟩
 unfold slideL swp
 rw [Int.toNat_natCast, show ((u.length + 1 : Nat) : Int) = (u.length : Int) + 1 by omega, e1, e2]
 simp
theorem Sl.slide {x y : List Int} (h : Sl x y) : ∃ a : Nat, slideC x (a : Int) = true ∧ slideL x (a : Int) = y := by
 obtain ⟨u, a, b, v, rfl, rfl, h⟩ := h
 obtain ⟨e1, e2, e3⟩ := slide_at u v a b
 refine ⟨u.length, ?_, e3⟩
 unfold slideC
 rw [e1, e2]
 unfold farI at h
 simp at h
 exact decide_eq_true ⟨by omega, by simp; omega, by omega⟩
theorem slide_Sl {x : List Int} {a : Nat} (h : slideC x (a : Int) = true) : Sl x (slideL x (a : Int)) := by
 have h1 := of_decide_eq_true h
 have e : x = x.take a ++ rd x (a : Int) :: rd x ((a + 1 : Nat) : Int) :: x.drop (a + 2) := by
  rw [← drop_rd x (a + 1) (by omega), ← drop_rd x a (by omega), List.take_append_drop]
 have hl : (x.take a).length = a := by rw [List.length_take]; omega
 refine ⟨x.take a, rd x (a : Int), rd x ((a + 1 : Nat) : Int), x.drop (a + 2), e, ?_, ?_⟩
 ·have := (slide_at (x.take a) (x.drop (a + 2)) (rd x (a : Int)) (rd x ((a + 1 : Nat) : Int))).2.2
  rw [hl, ← e] at this
  exact this
 ·unfold farI
  have h2 := h1.2.2
  rw [show (a : Int) + 1 = ((a + 1 : Nat) : Int) by omega] at h2
  simp only [Bool.or_eq_true, decide_eq_true_eq]
  omega
structure SInv (l : List Int) (all : List (List Int)) (order : List Int) : Prop where
 len : order.length = all.length
 ran : ∀ o ∈ order, 0 ≤ o ∧ o < (all.length : Int)
 cov : ∀ i : Nat, i < all.length → (i : Int) ∈ order
 srt : SortL (order.map (rdR all))
 rch : ∀ x ∈ all, Rch l x
 self : l ∈ all
theorem SInv.start (l : List Int) : SInv l [l] [0] :=
 ⟨rfl, fun o ho => by simp at ho; subst ho; simp, fun i hi => by simp at hi; subst hi; simp, by unfold SortL; exact List.pairwise_singleton _ _, fun x hx => by simp at hx; subst hx; exact .refl, by simp⟩
theorem SInv.mem {l : List Int} {all : List (List Int)} {order : List Int} (h : SInv l all order) (x : List Int) : x ∈ order.map (rdR all) ↔ x ∈ all := by
 rw [List.mem_map]
 constructor
 ·rintro ⟨o, ho, rfl⟩
  exact rdR_mem' (h.ran o ho)
 ·intro hx
  obtain ⟨i, hi, e⟩ := List.getElem_of_mem hx
  exact ⟨(i : Int), h.cov i hi, by rw [rdR_lt all i hi]; exact e⟩
theorem SInv.lt {l : List Int} {all : List (List Int)} {order : List Int} (h : SInv l all order) (i j : Nat) (hij : i < j) (hj : j < order.length) : lexL (rdR all (rd order (i : Int))) (rdR all (rd order (j : Int))) = true := by
 have := List.pairwise_iff_getElem.1 h.srt i j (by rw [List.length_map]; omega) (by rw [List.length_map]; omega) hij
 rw [List.getElem_map, List.getElem_map] at this
 rw [rd_lt order i (by omega), rd_lt order j hj]
 exact this
theorem SInv.few {l : List Int} {all : List (List Int)} {order : List Int} (h : SInv l all order) (hl : ∀ z ∈ l, 0 ≤ z ∧ z ≤ 6) : all.length ≤ (exts l.length l).length := by
 have := sub_length (order.map (rdR all)) (exts l.length l) h.srt.nodup (fun x hx => (exts_iff l x hl).2 (h.rch x ((h.mem x).1 hx)))
 rw [List.length_map, h.len] at this
 exact this
def Clo (all : List (List Int)) (K : Nat) : Prop := ∀ k : Nat, k < K → ∀ a : Nat, slideC (rdR all (k : Int)) (a : Int) = true → slideL (rdR all (k : Int)) (a : Int) ∈ all
def Cla (all : List (List Int)) (k A : Nat) : Prop := ∀ a : Nat, a < A → slideC (rdR all (k : Int)) (a : Int) = true → slideL (rdR all (k : Int)) (a : Int) ∈ all
theorem Clo.more {all : List (List Int)} {K : Nat} (h : Clo all K) (hK : K ≤ all.length) (y : List Int) : Clo (all ++ [y]) K := by
 intro k hk a hc
 rw [rdR_app all y ⟨by omega, by omega⟩] at hc ⊢
 exact List.mem_append_left _ (h k hk a hc)
theorem Cla.more {all : List (List Int)} {k A : Nat} (h : Cla all k A) (hK : k < all.length) (y : List Int) : Cla (all ++ [y]) k A := by
 intro a ha hc
 rw [rdR_app all y ⟨by omega, by omega⟩] at hc ⊢
 exact List.mem_append_left _ (h a ha hc)
theorem Cla.next {all : List (List Int)} {k A : Nat} (h : Cla all k A) (hA : slideC (rdR all (k : Int)) (A : Int) = true → slideL (rdR all (k : Int)) (A : Int) ∈ all) : Cla all k (A + 1) := by
 intro a ha hc
 by_cases e : a = A
 ·subst e; exact hA hc
 ·exact h a (by omega) hc
theorem Clo.next {all : List (List Int)} {k A : Nat} (h : Clo all k) (h2 : Cla all k A) (hA : (rdR all (k : Int)).length ≤ A) : Clo all (k + 1) := by
 intro q hq a hc
 by_cases e : q = k
 ·subst e
  have := (of_decide_eq_true hc).2.1
  exact h2 a (by omega) hc
 ·exact h q (by omega) a hc
theorem SInv.done {l : List Int} {all : List (List Int)} {order : List Int} (h : SInv l all order) (hc : Clo all all.length) (hl : ∀ z ∈ l, 0 ≤ z ∧ z ≤ 6) : order.map (rdR all) = exts l.length l := by
 refine sort_ext _ _ h.srt (exts_sort _ _) fun x => ?_
 rw [h.mem, exts_iff l x hl]
 refine ⟨h.rch x, fun hr => ?_⟩
 induction hr with
 | refl => exact h.self
 | step _ hs ih =>
  obtain ⟨i, hi, e⟩ := List.getElem_of_mem ih
  obtain ⟨a, h1, h2⟩ := hs.slide
  have e2 := (rdR_lt all i hi).trans e
  have := hc i hi a (by rw [e2]; exact h1)
  rw [e2, h2] at this
  exact this
theorem SInv.put {l : List Int} {all : List (List Int)} {order : List Int} (h : SInv l all order) (y : List Int) (hy : Rch l y) (p : Nat) (hp : p ≤ order.length) (hA : ∀ i : Nat, i < p → lexL (rdR all (rd order (i : Int))) y = true) (hB : ∀ i : Nat, p ≤ i → i < order.length → lexL y (rdR all (rd order (i : Int))) = true) :
    SInv l (all ++ [y]) (order.take p ++ (all.length : Int) :: order.drop p) := by
  have hm : order.map (rdR (all ++ [y])) = order.map (rdR all) := List.map_congr_left fun o ho => rdR_app all y (h.ran o ho)
  refine ⟨?_, ?_, ?_, ?_, ?_, List.mem_append_left _ h.self⟩
  · have := h.len; simp; omega
  · intro o ho
    have hh : o = (all.length : Int) ∨ o ∈ order := by
      rcases List.mem_append.1 ho with h1 | h1
      · exact .inr (List.mem_of_mem_take h1)
      · rcases List.mem_cons.1 h1 with h2 | h2
        · exact .inl h2
        · exact .inr (List.mem_of_mem_drop h2)
    rcases hh with rfl | h2
    · simp; omega
    · have := h.ran o h2; simp; omega
  · intro i hi
    by_cases e : i = all.length
    · subst e; simp
    · have h1 := h.cov i (by simp at hi; omega)
      rw [← List.take_append_drop p order, List.mem_append] at h1
      rcases h1 with h2 | h2
      · exact List.mem_append_left _ h2
      · exact List.mem_append_right _ (List.mem_cons_of_mem _ h2)
  · have hs := h.srt
    unfold SortL at hs ⊢
    rw [List.map_append, List.map_cons, rdR_last, List.map_take, List.map_drop, hm]
    rw [← List.take_append_drop p (order.map (rdR all)), List.pairwise_append] at hs
    have hlt : ∀ x ∈ (order.map (rdR all)).take p, lexL x y = true := by
      intro x hx
      obtain ⟨i, hi, e⟩ := List.getElem_of_mem hx
      rw [List.length_take] at hi
      have := hA i (by omega)
      rw [List.getElem_take, List.getElem_map] at e
      rw [rd_lt order i (by omega), e] at this
      exact this
    have hgt : ∀ x ∈ (order.map (rdR all)).drop p, lexL y x = true := by
      intro x hx
      obtain ⟨i, hi, e⟩ := List.getElem_of_mem hx
      rw [List.length_drop, List.length_map] at hi
      have := hB (p + i) (by omega) (by omega)
      rw [List.getElem_drop, List.getElem_map] at e
      rw [rd_lt order (p + i) (by omega), e] at this
      exact this
    rw [List.pairwise_append]
    refine ⟨hs.1, List.pairwise_cons.2 ⟨hgt, hs.2.1⟩, fun a ha b hb => ?_⟩
    rcases List.mem_cons.1 hb with rfl | hb
    · exact hlt a ha
    · exact lexL_trans _ _ _ (hlt a ha) (hgt b hb)
  · intro x hx
    rcases List.mem_append.1 hx with h1 | h1
    · exact h.rch x h1
    · rw [List.mem_singleton] at h1; subst h1; exact hy
end Go.Proofs.YtlmiiijjjcddkaaL
namespace Go.Proofs.YtlmiiijjjcddkaaL
open Go.RowKit Go.Proofs.YtlmiiijjjcddkaaW.PrintWords
set_option linter.unusedVariables false
set_option linter.unusedSimpArgs false
theorem up_head {A : List Int} {r : Int} (hA : A.Pairwise (· < ·)) (hr : r ∈ A) (hm : ∀ x ∈ A, r ≤ x) : ∃ t, A = r :: t := by
 cases A with
 | nil => cases hr
 | cons a t =>
  rcases List.mem_cons.1 hr with rfl | h
  ·exact ⟨t, rfl⟩
  ·have h1 := (List.pairwise_cons.1 hA).1 r h
   have h2 := hm a (by simp)
   omega
theorem nf_head : ∀ (d : Nat) (l : List Int), l.length = d → (∀ x ∈ l, 0 ≤ x ∧ x ≤ 6) → ∃ t, exts d l = nfGo d l :: t
 | 0, l, _, _ => ⟨[], rfl⟩
 | d + 1, l, h, hl => by
  have h0 := bestL_pos l l.length (by omega)
  have h1 := bestL_range l l.length
  obtain ⟨b, hb⟩ : ∃ b : Nat, bestL l l.length = (b : Int) := ⟨(bestL l l.length).toNat, by omega⟩
  have h2 := bestL_free l l.length h0
  rw [hb, Int.toNat_natCast] at h2
  have hbl : b < l.length := by omega
  obtain ⟨f1, f2⟩ := freeL_fr l b hbl h2
  have hr : rd l (b : Int) ∈ l := rd_mem l b hbl
  obtain ⟨t, ht⟩ := up_head (sevn_lt.filter (frB l)) (List.mem_filter.2 ⟨(sevn_mem _).2 (hl _ hr), f1⟩) (fun x hx => by
   rw [List.mem_filter] at hx
   obtain ⟨i, hi, e, hf⟩ := fr_freeL l x hx.2
   have := bestL_least l l.length i hi hf
   rw [hb, e] at this
   exact this)
  obtain ⟨t2, ht2⟩ := nf_head d (l.erase (rd l (b : Int))) (erase_len h f1) (fun x hx => hl x (List.mem_of_mem_erase hx))
  rw [exts, ht, List.flatMap_cons, ht2, List.map_cons, List.cons_append, nfGo, hb, f2]
  exact ⟨_, rfl⟩
def in6 (l : List Int) : Prop := ∀ x ∈ l, 0 ≤ x ∧ x ≤ 6
theorem nf_rch {l : List Int} (hl : in6 l) : Rch l (nfL l) := by
 obtain ⟨t, ht⟩ := nf_head l.length l rfl hl
 exact exts_reach _ l _ rfl (by rw [ht]; exact List.mem_cons_self)
theorem Rch.in6 {l x : List Int} (h : Rch l x) (hl : in6 l) : in6 x := fun z hz => hl z (h.mem z hz)
theorem nf_eq {l x : List Int} (hl : in6 l) (h : Rch l x) : nfL x = nfL l := by
 have hx := h.in6 hl
 obtain ⟨t, ht⟩ := nf_head l.length l rfl hl
 obtain ⟨s, hs⟩ := nf_head x.length x rfl hx
 have e : exts x.length x = exts l.length l := sort_ext _ _ (exts_sort _ _) (exts_sort _ _) fun y => by
  rw [exts_iff x y hx, exts_iff l y hl]
  exact ⟨fun h2 => h.trans h2, fun h2 => h.symm.trans h2⟩
 rw [hs, ht] at e
 exact (List.cons.inj e).1
theorem nf_le {l x : List Int} (hl : in6 l) (h : Rch l x) : x = nfL l ∨ lexL (nfL l) x = true := by
 obtain ⟨t, ht⟩ := nf_head l.length l rfl hl
 have hm := (exts_iff l x hl).2 h
 have hs := exts_sort l.length l
 rw [ht] at hm hs
 rcases List.mem_cons.1 hm with e | e
 ·exact .inl e
 ·exact .inr ((List.pairwise_cons.1 hs).1 x e)
theorem nf_nf {l : List Int} (hl : in6 l) : nfL (nfL l) = nfL l := nf_eq hl (nf_rch hl)
structure PL (L : List (List Int)) : Prop where
 few : L.length ≤ 800
 srt : SortL L
 len : ∀ x ∈ L, x.length ≤ 60
 bds : ∀ x ∈ L, in6 x
 clo : ∀ x ∈ L, ∀ y, Sl x y → y ∈ L
theorem PL.rch {L : List (List Int)} (h : PL L) {x y : List Int} (hx : x ∈ L) (hr : Rch x y) : y ∈ L := by
 induction hr with
 | refl => exact hx
 | step _ hs ih => exact h.clo _ ih _ hs
theorem PL.lt {L : List (List Int)} (h : PL L) (i j : Nat) (hij : i < j) (hj : j < L.length) : lexL (rdR L (i : Int)) (rdR L (j : Int)) = true := by
 rw [rdR_lt L i (by omega), rdR_lt L j hj]
 exact List.pairwise_iff_getElem.1 h.srt i j (by omega) hj hij
theorem PL.inj {L : List (List Int)} (h : PL L) (i j : Nat) (hi : i < L.length) (hj : j < L.length) (e : rdR L (i : Int) = rdR L (j : Int)) : i = j := by
 rcases Nat.lt_trichotomy i j with h1 | h1 | h1
 ·have := h.lt i j h1 hj; rw [e, lexL_irr] at this; cases this
 ·exact h1
 ·have := h.lt j i h1 hi; rw [e, lexL_irr] at this; cases this
theorem PL.has {L : List (List Int)} {y : List Int} (hy : y ∈ L) : ∃ j : Nat, j < L.length ∧ rdR L (j : Int) = y := by
 obtain ⟨j, hj, e⟩ := List.getElem_of_mem hy
 exact ⟨j, hj, by rw [rdR_lt L j hj, e]⟩
theorem PL.mem {L : List (List Int)} (j : Nat) (hj : j < L.length) : rdR L (j : Int) ∈ L := rdR_mem L j hj
def isH (L : List (List Int)) (j : Nat) : Bool := decide (nfL (rdR L (j : Int)) = rdR L (j : Int))
theorem PL.first {L : List (List Int)} (h : PL L) (j : Nat) (hj : j < L.length) : ∃ i : Nat, i ≤ j ∧ rdR L (i : Int) = nfL (rdR L (j : Int)) ∧ isH L i = true := by
 have hm := PL.mem j hj
 have hb := h.bds _ hm
 obtain ⟨i, hi, e⟩ := PL.has (h.rch hm (nf_rch hb))
 refine ⟨i, ?_, e, by unfold isH; rw [e]; exact decide_eq_true (nf_nf hb)⟩
 refine Nat.not_lt.1 (fun hij => ?_)
 have h1 := h.lt j i hij hi
 rw [e] at h1
 rcases nf_le hb .refl with h2 | h2
 ·rw [← h2, lexL_irr] at h1; cases h1
 ·have := lexL_trans _ _ _ h1 h2; rw [lexL_irr] at this; cases this
def rankH (L : List (List Int)) (i : Nat) : Nat := ((List.range i).filter (isH L)).length
theorem rankH_next (L : List (List Int)) (i : Nat) : (List.range (i + 1)).filter (isH L) = (List.range i).filter (isH L) ++ (if isH L i = true then [i] else []) := by
 rw [List.range_succ, List.filter_append]
 congr 1
 by_cases e : isH L i = true
 ·rw [if_pos e, List.filter_cons, if_pos e]; rfl
 ·rw [if_neg e, List.filter_cons, if_neg e]; rfl
def ClsAt (L : List (List Int)) (i j : Nat) (c : Int) : Prop := (∃ m : Nat, m < i ∧ rdR L (m : Int) = nfL (rdR L (j : Int)) ∧ c = (rankH L m : Int)) ∨ ((∀ m : Nat, m < i → rdR L (m : Int) ≠ nfL (rdR L (j : Int))) ∧ c = -1)
structure OI (L : List (List Int)) (i : Nat) (C H : List Int) : Prop where
 len : C.length = L.length
 hds : H = ((List.range i).filter (isH L)).map (fun j : Nat => (j : Int))
 val : ∀ j : Nat, j < L.length → ClsAt L i j (rd C (j : Int))
theorem OI.len_H {L : List (List Int)} {i : Nat} {C H : List Int} (h : OI L i C H) : H.length = rankH L i := by rw [h.hds, List.length_map]; rfl
theorem OI.start (L : List (List Int)) : OI L 0 (List.replicate L.length (-1)) [] :=
 ⟨List.length_replicate, rfl, fun j hj => .inr ⟨fun m hm => by omega, by rw [rd_lt _ j (by rw [List.length_replicate]; exact hj)]; simp⟩⟩
theorem OI.skip {L : List (List Int)} (hL : PL L) {i : Nat} {C H : List Int} (h : OI L i C H) (hi : i < L.length) (hc : 0 ≤ rd C (i : Int)) : OI L (i + 1) C H := by
 have hn : isH L i = false := by
  rcases h.val i hi with ⟨m, hm, e, _⟩ | ⟨_, e⟩
  ·refine decide_eq_false (fun e2 => ?_)
   rw [e2] at e
   have := hL.inj m i (by omega) hi e
   omega
  ·omega
 refine ⟨h.len, by rw [rankH_next, hn, if_neg (by simp), List.append_nil]; exact h.hds, fun j hj => ?_⟩
 rcases h.val j hj with ⟨m, hm, e, e2⟩ | ⟨e, e2⟩
 ·exact .inl ⟨m, by omega, e, e2⟩
 ·refine .inr ⟨fun m hm e3 => ?_, e2⟩
  by_cases hmi : m = i
  ·subst hmi
   have : isH L m = true := decide_eq_true (by rw [e3]; exact nf_nf (hL.bds _ (PL.mem j hj)))
   rw [hn] at this; cases this
  ·exact e m (by omega) e3
theorem OI.fresh {L : List (List Int)} (hL : PL L) {i : Nat} {C H : List Int} (h : OI L i C H) (hi : i < L.length) (hc : rd C (i : Int) < 0) : isH L i = true ∧ ∀ j : Nat, j < L.length → nfL (rdR L (j : Int)) = rdR L (i : Int) → rd C (j : Int) = -1 := by
 obtain ⟨m, hm, e, hh⟩ := hL.first i hi
 have hmi : m = i := by
  rcases h.val i hi with ⟨q, hq, e3, e4⟩ | ⟨e3, _⟩
  ·omega
  ·by_cases e5 : m = i
   ·exact e5
   ·exact absurd e (e3 m (by omega))
 subst hmi
 refine ⟨hh, fun j hj ej => ?_⟩
 rcases h.val j hj with ⟨q, hq, e3, e4⟩ | ⟨_, e4⟩
 ·rw [ej] at e3
  have := hL.inj q m (by omega) hi e3
  omega
 ·exact e4
theorem OI.next {L : List (List Int)} (hL : PL L) {i : Nat} {C C' H : List Int} (h : OI L i C H) (hi : i < L.length) (hh : isH L i = true) (hl : C'.length = L.length) (hv : ∀ j : Nat, j < L.length → rd C' (j : Int) = if nfL (rdR L (j : Int)) = rdR L (i : Int) then (H.length : Int) else rd C (j : Int)) : OI L (i + 1) C' (H ++ [(i : Int)]) := by
 refine ⟨hl, by rw [rankH_next, if_pos hh, List.map_append, ← h.hds]; rfl, fun j hj => ?_⟩
 rw [hv j hj]
 by_cases e : nfL (rdR L (j : Int)) = rdR L (i : Int)
 ·rw [if_pos e]
  exact .inl ⟨i, by omega, e.symm, by rw [h.len_H]⟩
 ·rw [if_neg e]
  rcases h.val j hj with ⟨m, hm, e2, e3⟩ | ⟨e2, e3⟩
  ·exact .inl ⟨m, by omega, e2, e3⟩
  ·refine .inr ⟨fun m hm e4 => ?_, e3⟩
   by_cases hmi : m = i
   ·subst hmi; exact e e4.symm
   ·exact e2 m (by omega) e4
structure BI (L : List (List Int)) (C0 : List Int) (i : Nat) (r : Int) (C Q : List Int) : Prop where
 len : C.length = L.length
 qs : ∀ x ∈ Q, ∃ j : Nat, x = (j : Int) ∧ j < L.length ∧ nfL (rdR L (j : Int)) = rdR L (i : Int)
 nd : Q.Nodup
 self : (i : Int) ∈ Q
 val : ∀ j : Nat, j < L.length → rd C (j : Int) = if (j : Int) ∈ Q then r else rd C0 (j : Int)
theorem rd_set_at (C : List Int) (j k : Nat) (v : Int) (hj : j < C.length) : rd (C.set j v) (k : Int) = if k = j then v else rd C (k : Int) := by
 unfold rd
 rw [Int.toNat_natCast, List.getD_eq_getElem?_getD, List.getD_eq_getElem?_getD, List.getElem?_set]
 by_cases e : j = k
 ·subst e; rw [if_pos rfl, if_pos hj, if_pos rfl]; rfl
 ·rw [if_neg e, if_neg (fun x => e x.symm)]
theorem BI.start {L : List (List Int)} {C0 : List Int} {i : Nat} {r : Int} (hi : i < L.length) (hh : isH L i = true) (hl : C0.length = L.length) : BI L C0 i r (C0.set i r) [(i : Int)] := by
 refine ⟨by rw [List.length_set]; exact hl, fun x hx => ⟨i, by simpa using hx, hi, of_decide_eq_true hh⟩, by simp, by simp, fun j hj => ?_⟩
 rw [rd_set_at C0 i j r (by omega)]
 by_cases e : j = i
 ·subst e; simp
 ·rw [if_neg e, if_neg (by simp; omega)]
theorem BI.few {L : List (List Int)} (hL : PL L) {C0 : List Int} {i : Nat} {r : Int} {C Q : List Int} (h : BI L C0 i r C Q) : Q.length ≤ L.length := by
 refine nodup_bound L.length Q h.nd (fun x hx => ?_)
 obtain ⟨j, rfl, hj, _⟩ := h.qs x hx
 omega
theorem BI.put {L : List (List Int)} {C0 : List Int} {i : Nat} {r : Int} {C Q : List Int} (h : BI L C0 i r C Q) (j : Nat) (hj : j < L.length) (hn : nfL (rdR L (j : Int)) = rdR L (i : Int)) (hq : (j : Int) ∉ Q) : BI L C0 i r (C.set j r) (Q ++ [(j : Int)]) := by
 refine ⟨by rw [List.length_set]; exact h.len, fun x hx => ?_, ?_, by simp [h.self], fun k hk => ?_⟩
 ·rcases List.mem_append.1 hx with hx | hx
  ·exact h.qs x hx
  ·exact ⟨j, by simpa using hx, hj, hn⟩
 ·rw [List.nodup_append]
  exact ⟨h.nd, by simp, fun a ha b hb => by rw [List.mem_singleton] at hb; subst hb; exact fun e => hq (e ▸ ha)⟩
 ·rw [rd_set_at C j k r (by rw [h.len]; exact hj), h.val k hk]
  by_cases e : k = j
  ·subst e; simp
  ·have : ((k : Int) ∈ Q ++ [(j : Int)]) ↔ (k : Int) ∈ Q := by simp; omega
   rw [if_neg e]; simp only [this]
def ClA (L : List (List Int)) (Q : List Int) (k A : Nat) : Prop := ∀ a : Nat, a < A → slideC (rdR L (rd Q (k : Int))) (a : Int) = true → ∃ j : Nat, j < L.length ∧ rdR L (j : Int) = slideL (rdR L (rd Q (k : Int))) (a : Int) ∧ (j : Int) ∈ Q
def ClQ (L : List (List Int)) (Q : List Int) (K : Nat) : Prop := ∀ k : Nat, k < K → ∀ A, ClA L Q k A
theorem rd_app (Q : List Int) (y : Int) (k : Nat) (hk : k < Q.length) : rd (Q ++ [y]) (k : Int) = rd Q (k : Int) := by
 rw [rd_lt _ k (by simp; omega), rd_lt _ k hk, List.getElem_append_left hk]
theorem ClA.more {L : List (List Int)} {Q : List Int} {k A : Nat} (h : ClA L Q k A) (hk : k < Q.length) (y : Int) : ClA L (Q ++ [y]) k A := by
 intro a ha hs
 rw [rd_app Q y k hk] at hs ⊢
 obtain ⟨j, h1, h2, h3⟩ := h a ha hs
 exact ⟨j, h1, h2, by simp [h3]⟩
theorem ClQ.more {L : List (List Int)} {Q : List Int} {K : Nat} (h : ClQ L Q K) (hK : K ≤ Q.length) (y : Int) : ClQ L (Q ++ [y]) K := fun k hk A => (h k hk A).more (by omega) y
theorem ClA.next {L : List (List Int)} {Q : List Int} {k A : Nat} (h : ClA L Q k A) (h2 : slideC (rdR L (rd Q (k : Int))) (A : Int) = true → ∃ j : Nat, j < L.length ∧ rdR L (j : Int) = slideL (rdR L (rd Q (k : Int))) (A : Int) ∧ (j : Int) ∈ Q) : ClA L Q k (A + 1) := by
 intro a ha hs
 by_cases e : a = A
 ·subst e; exact h2 hs
 ·exact h a (by omega) hs
theorem ClA.all {L : List (List Int)} {Q : List Int} {k A : Nat} (h : ClA L Q k A) (hA : (rdR L (rd Q (k : Int))).length ≤ A + 1) : ∀ B, ClA L Q k B := by
 intro B a ha hs
 have := of_decide_eq_true hs
 exact h a (by omega) hs
theorem ClQ.next {L : List (List Int)} {Q : List Int} {K : Nat} (h : ClQ L Q K) (h2 : ∀ B, ClA L Q K B) : ClQ L Q (K + 1) := by
 intro k hk A
 by_cases e : k = K
 ·subst e; exact h2 A
 ·exact h k (by omega) A
theorem BI.done {L : List (List Int)} (hL : PL L) {C0 : List Int} {i : Nat} {r : Int} {C Q : List Int} (h : BI L C0 i r C Q) (hi : i < L.length) (hc : ClQ L Q Q.length) : ∀ j : Nat, j < L.length → rd C (j : Int) = if nfL (rdR L (j : Int)) = rdR L (i : Int) then r else rd C0 (j : Int) := by
 intro j hj
 rw [h.val j hj]
 have hiff : (j : Int) ∈ Q ↔ nfL (rdR L (j : Int)) = rdR L (i : Int) := by
  constructor
  ·intro hq
   obtain ⟨k, e, _, hn⟩ := h.qs _ hq
   obtain rfl : j = k := by omega
   exact hn
  ·intro hn
   have hb := hL.bds _ (PL.mem j hj)
   have hr : Rch (rdR L (i : Int)) (rdR L (j : Int)) := by rw [← hn]; exact (nf_rch hb).symm
   have go : ∀ y, Rch (rdR L (i : Int)) y → ∃ m : Nat, m < L.length ∧ rdR L (m : Int) = y ∧ (m : Int) ∈ Q := by
    intro y hy
    induction hy with
    | refl => exact ⟨i, hi, rfl, h.self⟩
    | step _ hs ih =>
     obtain ⟨m, hm, e, hq⟩ := ih
     obtain ⟨a, ha, e2⟩ := hs.slide
     obtain ⟨k, hk, ek⟩ := List.getElem_of_mem hq
     have hrk : rd Q (k : Int) = (m : Int) := by rw [rd_lt Q k hk, ek]
     obtain ⟨q, h1, h2, h3⟩ := hc k hk (a + 1) a (by omega) (by rw [hrk, e]; exact ha)
     rw [hrk, e, e2] at h2
     exact ⟨q, h1, h2, h3⟩
   obtain ⟨m, hm, e, hq⟩ := go _ hr
   have := hL.inj m j hm hj e
   rw [← this]; exact hq
 simp only [hiff]
end Go.Proofs.YtlmiiijjjcddkaaL
namespace Go.Proofs.YtlmiiijjjcddkaaL
open Go.RowKit Go.Proofs.YtlmiiijjjcddkaaW.PrintWords
set_option linter.unusedVariables false
set_option linter.unusedSimpArgs false
end Go.Proofs.YtlmiiijjjcddkaaL
namespace Go.Proofs.YtlmiiijjjcddkaaL
open Go.RowKit Go.Proofs.YtlmiiijjjcddkaaW.PrintWords
set_option linter.unusedVariables false
set_option linter.unusedSimpArgs false
theorem rd_map (f : Int → Int) (xs : List Int) (i : Nat) (h : i < xs.length) : rd (xs.map f) (i : Int) = f (rd xs (i : Int)) := by
 rw [rd_lt _ _ (by simpa using h), rd_lt _ _ h, List.getElem_map]
theorem resL_rd (n : Int) (l : List Int) (i : Nat) (h : i < n.toNat) : rd (resL n l) (i : Int) = endL (i : Int) l := by
 unfold resL
 rw [resGo_map, rd_map _ _ i (by rw [upFrom_length]; exact h), rd_upFrom _ _ _ h, Nat.zero_add]
theorem ident_nodup (n : Nat) : (ident n).Nodup := (ident_lt n).imp (fun h e => by omega)
end Go.Proofs.YtlmiiijjjcddkaaL
namespace Go.Proofs.YtlmiiijjjcddkaaL
open Go.RowKit Go.Proofs.YtlmiiijjjcddkaaW.PrintWords
set_option linter.unusedVariables false
set_option linter.unusedSimpArgs false
theorem resL_cons (n : Nat) (r : Int) (l : List Int) (h0 : 0 ≤ r) (h1 : r + 2 ≤ n) : resL (n : Int) (r :: l) = swp (resL (n : Int) l) r.toNat (r.toNat + 1) := by
 have hl : (resL (n : Int) l).length = n := by rw [resL_length]; omega
 refine ext_rd _ _ (by rw [swp_length, resL_length, resL_length]) (fun i hi => ?_)
 rw [resL_length] at hi
 rw [resL_rd _ _ i hi, swp_rd _ _ _ i (by omega) (by omega), endL]
 unfold over
 by_cases e1 : (i : Int) = r
 ·rw [if_pos e1, if_neg (by omega), if_pos (by omega), resL_rd _ _ (r.toNat + 1) (by omega), show ((r.toNat + 1 : Nat) : Int) = r + 1 by omega]
 ·rw [if_neg e1]
  by_cases e2 : (i : Int) = r + 1
  ·rw [if_pos e2, if_pos (by omega), resL_rd _ _ r.toNat (by omega), show ((r.toNat : Nat) : Int) = r by omega]
  ·rw [if_neg e2, if_neg (by omega), if_neg (by omega), resL_rd _ _ i hi]
theorem resL_nil (n : Nat) : resL (n : Int) [] = ident n := by
 refine ext_rd _ _ (by rw [resL_length, ident_length]; omega) (fun i hi => ?_)
 rw [resL_length] at hi
 rw [resL_rd _ _ i hi, rd_ident n i (by omega)]; rfl
theorem swp_swp (p : List Int) (a b : Nat) (hab : a ≠ b) (ha : a < p.length) (hb : b < p.length) : swp (swp p a b) a b = p := by
 refine ext_rd _ _ (by rw [swp_length, swp_length]) (fun i hi => ?_)
 have h1 : a < (swp p a b).length := by rw [swp_length]; exact ha
 have h2 : b < (swp p a b).length := by rw [swp_length]; exact hb
 rw [swp_rd _ _ _ i h1 h2, swp_rd _ _ _ a ha hb, swp_rd _ _ _ b ha hb, swp_rd _ _ _ i ha hb]
 by_cases e : b = i
 ·subst e; rw [if_pos rfl, if_neg (fun h => hab h.symm), if_pos rfl]
 ·rw [if_neg e]
  by_cases f : a = i
  ·subst f; rw [if_pos rfl, if_pos rfl]
  ·rw [if_neg f, if_neg e, if_neg f]
theorem invC_adj (p : List Int) (j : Nat) (hj : j + 1 < p.length) : invC p + (if rd p (j : Int) < rd p ((j + 1 : Nat) : Int) then 1 else 0) = invC (swp p j (j + 1)) + (if rd p ((j + 1 : Nat) : Int) < rd p (j : Int) then 1 else 0) := by
 have e1 := split_two p j (j + 1) (by omega) hj
 have e2 := swp_split p j (j + 1) (by omega) hj
 simp only [Nat.sub_self, List.take_zero, List.nil_append] at e1 e2
 have := invC_swap (p.take j) (rd p (j : Int)) (rd p ((j + 1 : Nat) : Int)) (p.drop (j + 1 + 1))
 rw [← e1, ← e2] at this
 exact this
theorem resL_nodup (n : Nat) (l : List Int) : (resL (n : Int) l).Nodup := by
 unfold resL
 rw [resGo_map, List.nodup_iff_pairwise_ne, List.pairwise_map]
 exact (ident_nodup _).imp (fun h e => h (endL_inj l _ _ e))
theorem inv_rungs (n : Nat) : ∀ l : List Int, (∀ x ∈ l, 0 ≤ x ∧ x + 2 ≤ n) → invC (resL (n : Int) l) ≤ l.length ∧ (invC (resL (n : Int) l) + l.length) % 2 = 0
 | [], _ => by rw [resL_nil, invC_ident]; exact ⟨Nat.le_refl _, rfl⟩
 | r :: l, h => by
  have hr := h r (by simp)
  have ih := inv_rungs n l (fun x hx => h x (by simp [hx]))
  have hl : (resL (n : Int) l).length = n := by rw [resL_length]; omega
  have hp := invC_swp _ (resL_nodup n l) r.toNat (r.toNat + 1) (by omega) (by omega) (by omega)
  have ha := invC_adj (resL (n : Int) l) r.toNat (by omega)
  rw [resL_cons n r l hr.1 hr.2, List.length_cons]
  refine ⟨?_, by omega⟩
  split at ha <;> split at ha <;> omega
theorem descGo_lt (p : List Int) : ∀ d i, (descGo p d i).Pairwise (· < ·)
 | 0, _ => by simp [descGo]
 | d + 1, i => by
  unfold descGo
  split
  ·rw [List.pairwise_cons]
   refine ⟨fun x hx => ?_, descGo_lt p d (i + 1)⟩
   obtain ⟨j, rfl, hj, _⟩ := descGo_mem p d (i + 1) x hx
   omega
  ·exact descGo_lt p d (i + 1)
theorem up_ge (p : List Int) (h0 : ∀ x ∈ p, 0 ≤ x ∧ x < p.length) (hd : ∀ j : Nat, j + 1 < p.length → rd p (j : Int) < rd p ((j + 1 : Nat) : Int)) : ∀ i : Nat, i < p.length → (i : Int) ≤ rd p (i : Int)
 | 0, h => (h0 _ (rd_mem p 0 h)).1
 | i + 1, h => by
  have h1 := up_ge p h0 hd i (by omega)
  have h2 := hd i h
  omega
theorem up_le (p : List Int) (h0 : ∀ x ∈ p, 0 ≤ x ∧ x < p.length) (hd : ∀ j : Nat, j + 1 < p.length → rd p (j : Int) < rd p ((j + 1 : Nat) : Int)) : ∀ d i : Nat, i + 1 + d = p.length → rd p (i : Int) ≤ (i : Int)
 | 0, i, h => by
  have := (h0 _ (rd_mem p i (by omega))).2
  omega
 | d + 1, i, h => by
  have h1 := up_le p h0 hd d (i + 1) (by omega)
  have h2 := hd i (by omega)
  omega
theorem desc_none {p : List Int} (ho : isOrd p = true) (h : desc p = []) : p = ident p.length := by
 have ha := isOrd_all ho
 have hd : ∀ j : Nat, j + 1 < p.length → rd p (j : Int) < rd p ((j + 1 : Nat) : Int) := fun j hj => by
  have h1 : ¬ rd p (j : Int) > rd p ((j + 1 : Nat) : Int) := fun e => by
   have := (desc_iff p j hj).2 e
   rw [h] at this; cases this
  have h2 : rd p (j : Int) ≠ rd p ((j + 1 : Nat) : Int) := fun e => by
   have := rd_inj ha.2 _ _ (by omega) (by omega) e
   omega
  omega
 refine ext_rd _ _ (by rw [ident_length]) (fun i hi => ?_)
 rw [rd_ident _ i hi]
 have h1 := up_ge p ha.1 hd i hi
 have h2 := up_le p ha.1 hd (p.length - (i + 1)) i (by omega)
 omega
def rowS (f : Nat → Nat → Nat) (a : Nat) : Nat → Nat → Nat
 | 0, _ => 0
 | d + 1, b => f a b + rowS f a d (b + 1)
def allS (f : Nat → Nat → Nat) (n : Nat) : Nat → Nat → Nat
 | 0, _ => 0
 | d + 1, a => rowS f a (n - (a + 1)) (a + 1) + allS f n d (a + 1)
def invI (p : List Int) (a b : Nat) : Nat := if rd p (a : Int) > rd p (b : Int) then 1 else 0
theorem invRow_S (p : List Int) (i : Nat) : ∀ d j, (invRow p i j d).length = rowS (invI p) i d j
 | 0, _ => rfl
 | d + 1, j => by
  have := invRow_S p i d (j + 1)
  unfold invRow rowS invI
  split
  ·rw [List.length_cons, this]; unfold invI; omega
  ·rw [this]; unfold invI; omega
theorem invFrom_S (p : List Int) : ∀ d i, (invFrom p i d).length = allS (invI p) p.length d i
 | 0, _ => rfl
 | d + 1, i => by rw [invFrom, List.length_append, invRow_S, allS, invFrom_S p d (i + 1)]
theorem invC_S (p : List Int) : invC p = allS (invI p) p.length p.length 0 := by rw [← invs_invC]; exact invFrom_S p _ _
theorem rowS_le (f g : Nat → Nat → Nat) (a : Nat) : ∀ d b, (∀ k, b ≤ k → k < b + d → f a k ≤ g a k) → rowS f a d b ≤ rowS g a d b
 | 0, _, _ => Nat.le_refl _
 | d + 1, b, h => by
  have h1 := h b (by omega) (by omega)
  have h2 := rowS_le f g a d (b + 1) (fun k h1 h2 => h k (by omega) (by omega))
  rw [rowS, rowS]; omega
theorem allS_le (f g : Nat → Nat → Nat) (n : Nat) : ∀ d a, a + d = n → (∀ i k, i < k → k < n → f i k ≤ g i k) → allS f n d a ≤ allS g n d a
 | 0, _, _, _ => Nat.le_refl _
 | d + 1, a, hd, h => by
  have h1 := rowS_le f g a (n - (a + 1)) (a + 1) (fun k h1 h2 => h a k (by omega) (by omega))
  have h2 := allS_le f g n d (a + 1) (by omega) h
  rw [allS, allS]; omega
theorem invI_le (p : List Int) (a b : Nat) : invI p a b ≤ 1 := by unfold invI; split <;> omega
end Go.Proofs.YtlmiiijjjcddkaaL
namespace Go.Proofs.YtlmiiijjjcddkaaL
open Go.RowKit Go.Proofs.YtlmiiijjjcddkaaW.PrintWords
set_option linter.unusedVariables false
set_option linter.unusedSimpArgs false
theorem desc_nil_inv {p : List Int} (h : desc p = []) (hn : isOrd p = true) : invC p = 0 := by
 have ha := isOrd_all hn
 have hp : p.Pairwise (· ≤ ·) := by
  have hd : ∀ i : Nat, i + 1 < p.length → rd p (i : Int) ≤ rd p ((i + 1 : Nat) : Int) := fun i hi => by
   refine Int.not_lt.1 (fun e => ?_)
   have := (desc_iff p i hi).2 e
   rw [h] at this; cases this
  have hm : ∀ (d i : Nat), i + d < p.length → rd p (i : Int) ≤ rd p ((i + d : Nat) : Int) := by
   intro d
   induction d with
   | zero => intro i _; exact Int.le_refl _
   | succ d ih =>
    intro i hi
    have h1 := ih i (by omega)
    have h2 := hd (i + d) (by omega)
    exact Int.le_trans h1 h2
  rw [List.pairwise_iff_getElem]
  intro i j hi hj hij
  have := hm (j - i) i (by omega)
  rw [show i + (j - i) = j by omega, rd_lt p i hi, rd_lt p j hj] at this
  exact this
 exact invC_sorted p hp
end Go.Proofs.YtlmiiijjjcddkaaL
namespace Go.Proofs.YtlmiiijjjcddkaaL
open Go.RowKit Go.Proofs.YtlmiiijjjcddkaaW.PrintWords
set_option linter.unusedVariables false
set_option linter.unusedSimpArgs false
theorem listF_nil {d : Nat} {p : List Int} (h : desc p = []) : listF (d + 1) p = [[]] := by rw [listF, h]; rfl
theorem listF_cons {d : Nat} {p : List Int} (h : desc p ≠ []) : listF (d + 1) p = (desc p).flatMap fun x => (listF d (swp p x.toNat (x.toNat + 1))).map fun r => x :: r := by
 rw [listF, if_neg (by rw [List.length_eq_zero_iff]; exact h)]
theorem listF_all (n : Nat) : ∀ (d : Nat) (p : List Int), isOrd p = true → p.length = n → invC p < d → ∀ l ∈ listF d p, l.length = invC p ∧ (∀ x ∈ l, 0 ≤ x ∧ x + 2 ≤ n) ∧ resL (n : Int) l = p
 | 0, p, _, _, h => by omega
 | d + 1, p, ho, hn, h => fun l hl => by
  by_cases e : desc p = []
  ·rw [listF_nil e, List.mem_singleton] at hl
   subst hl
   have := desc_none ho e
   rw [hn] at this
   rw [resL_nil]
   refine ⟨?_, by simp, this.symm⟩
   rw [desc_nil_inv e ho]; rfl
  ·rw [listF_cons e] at hl
   obtain ⟨x, hx, hm⟩ := List.mem_flatMap.1 hl
   obtain ⟨r, hr, rfl⟩ := List.mem_map.1 hm
   obtain ⟨j, rfl, hj, hf⟩ := desc_mem hx
   have hc := invC_fall p j hj hf
   rw [toNat_cast] at hr
   obtain ⟨h1, h2, h3⟩ := listF_all n d (swp p j (j + 1)) (isOrd_swp ho j hj) (by rw [swp_length]; exact hn) (by omega) r hr
   refine ⟨by rw [List.length_cons]; omega, ?_, ?_⟩
   ·intro y hy
    rcases List.mem_cons.1 hy with rfl | hy
    ·omega
    ·exact h2 y hy
   ·rw [resL_cons n _ _ (by omega) (by omega), h3, toNat_cast, swp_swp p j (j + 1) (by omega) (by omega) hj]
theorem inv15 {p : List Int} (h : p.length ≤ 6) : invC p ≤ 15 := by
 have h1 : ∀ n : Nat, n ≤ 6 → allS (fun _ _ => 1) n n 0 ≤ 15 := by decide
 rw [invC_S]
 exact Nat.le_trans (allS_le (invI p) (fun _ _ => 1) p.length p.length 0 (by omega) (fun i k _ _ => invI_le p i k)) (h1 _ h)
theorem least_mem (n : Nat) : ∀ (l : List Int) (d : Nat), (∀ x ∈ l, 0 ≤ x ∧ x + 2 ≤ n) → isOrd (resL (n : Int) l) = true → invC (resL (n : Int) l) = l.length → l.length < d → l ∈ listF d (resL (n : Int) l)
 | [], d, h, ho, hk, hd => by
  obtain ⟨e, rfl⟩ : ∃ e, d = e + 1 := ⟨d - 1, by simp at hd; omega⟩
  have hn : desc (resL (n : Int) []) = [] := by
   cases e : desc (resL (n : Int) []) with
   | nil => rfl
   | cons a t => obtain ⟨j, rfl, hj, hf, hc⟩ := desc_head e; rw [hk] at hc; simp at hc
  rw [listF_nil hn]; simp
 | r :: l, d, h, ho, hk, hd => by
  obtain ⟨e, rfl⟩ : ∃ e, d = e + 1 := ⟨d - 1, by rw [List.length_cons] at hd; omega⟩
  rw [List.length_cons] at hd
  have hr := h r (by simp)
  have hl : (resL (n : Int) l).length = n := by rw [resL_length]; omega
  have hc := resL_cons n r l hr.1 hr.2
  have hle := (inv_rungs n l (fun x hx => h x (by simp [hx]))).1
  have hlp : (resL (n : Int) (r :: l)).length = n := by rw [resL_length]; omega
  have hs : swp (resL (n : Int) (r :: l)) r.toNat (r.toNat + 1) = resL (n : Int) l := by
   rw [hc, swp_swp _ _ _ (by omega) (by omega) (by omega)]
  have ha := invC_adj (resL (n : Int) (r :: l)) r.toNat (by omega)
  rw [hs, hk, List.length_cons] at ha
  have hf : rd (resL (n : Int) (r :: l)) (r.toNat : Int) > rd (resL (n : Int) (r :: l)) ((r.toNat + 1 : Nat) : Int) := by
   split at ha <;> (try split at ha) <;> omega
  have hm : ((r.toNat : Nat) : Int) ∈ desc (resL (n : Int) (r :: l)) := (desc_iff _ _ (by omega)).2 hf
  have ho' : isOrd (resL (n : Int) l) = true := by rw [← hs]; exact isOrd_swp ho _ (by omega)
  have hk' : invC (resL (n : Int) l) = l.length := by split at ha <;> (try split at ha) <;> omega
  have hr0 : ((r.toNat : Nat) : Int) = r := by omega
  rw [hr0] at hm
  rw [listF_cons (fun e_ => by rw [e_] at hm; cases hm)]
  refine List.mem_flatMap.2 ⟨r, hm, List.mem_map.2 ⟨l, ?_, rfl⟩⟩
  rw [hs]
  exact least_mem n l e (fun x hx => h x (by simp [hx])) ho' hk' (by omega)
theorem listF_lex : ∀ (d : Nat) (p : List Int), (listF d p).Pairwise (fun x y => lexL x y = true)
 | 0, p => by rw [listF]; exact List.Pairwise.nil
 | d + 1, p => by
  by_cases e : desc p = []
  ·rw [listF_nil e]; exact List.pairwise_singleton _ _
  ·rw [listF_cons e, List.pairwise_flatMap]
   refine ⟨fun x _ => ?_, ?_⟩
   ·rw [List.pairwise_map]
    refine (listF_lex d (swp p x.toNat (x.toNat + 1))).imp (fun h => ?_)
    rw [lexL, if_pos rfl]; exact h
   ·refine (descGo_lt p (p.length - 1) 0).imp (fun h => ?_)
    intro a ha b hb
    obtain ⟨a', _, rfl⟩ := List.mem_map.1 ha
    obtain ⟨b', _, rfl⟩ := List.mem_map.1 hb
    rw [lexL, if_neg (by omega)]; exact decide_eq_true h
end Go.Proofs.YtlmiiijjjcddkaaL
namespace Go.Proofs.YtlmiiijjjcddkaaL
open Go.RowKit Go.Proofs.YtlmiiijjjcddkaaW.PrintWords
set_option linter.unusedVariables false
set_option linter.unusedSimpArgs false
theorem swp_far (p : List Int) (a b : Nat) (hab : a + 1 < b) (hb : b + 1 < p.length) : swp (swp p a (a + 1)) b (b + 1) = swp (swp p b (b + 1)) a (a + 1) := by
 have e1 : ∀ i : Nat, rd (swp p a (a + 1)) (i : Int) = if a + 1 = i then rd p (a : Int) else if a = i then rd p ((a + 1 : Nat) : Int) else rd p (i : Int) := fun i => swp_rd p a (a + 1) i (by omega) (by omega)
 have e2 : ∀ i : Nat, rd (swp p b (b + 1)) (i : Int) = if b + 1 = i then rd p (b : Int) else if b = i then rd p ((b + 1 : Nat) : Int) else rd p (i : Int) := fun i => swp_rd p b (b + 1) i (by omega) (by omega)
 refine ext_rd _ _ (by simp only [swp_length]) (fun i hi => ?_)
 rw [swp_rd (swp p a (a + 1)) b (b + 1) i (by rw [swp_length]; omega) (by rw [swp_length]; omega), swp_rd (swp p b (b + 1)) a (a + 1) i (by rw [swp_length]; omega) (by rw [swp_length]; omega), e1, e1, e1, e2, e2, e2]
 repeat' split
 all_goals first | rfl | omega
theorem Sl_res (n : Nat) (a b : Int) (v : List Int) (hab : farI a b = true) : ∀ u : List Int, (∀ x ∈ u ++ a :: b :: v, 0 ≤ x ∧ x + 2 ≤ n) → resL (n : Int) (u ++ a :: b :: v) = resL (n : Int) (u ++ b :: a :: v)
 | [], h => by
  have ha := h a (by simp)
  have hb := h b (by simp)
  have hl : (resL (n : Int) v).length = n := by rw [resL_length]; omega
  have hf := hab
  unfold farI at hf
  simp only [Bool.or_eq_true, decide_eq_true_eq] at hf
  rw [List.nil_append, List.nil_append, resL_cons n a (b :: v) ha.1 ha.2, resL_cons n b v hb.1 hb.2, resL_cons n b (a :: v) hb.1 hb.2, resL_cons n a v ha.1 ha.2]
  rcases hf with hf | hf
  ·first | exact swp_far _ b.toNat a.toNat (by omega) (by omega) | exact (swp_far _ a.toNat b.toNat (by omega) (by omega)).symm
  ·first | exact swp_far _ b.toNat a.toNat (by omega) (by omega) | exact (swp_far _ a.toNat b.toNat (by omega) (by omega)).symm
 | x :: u, h => by
  have hx := h x (by simp)
  rw [List.cons_append, List.cons_append, resL_cons n x _ hx.1 hx.2, resL_cons n x _ hx.1 hx.2, Sl_res n a b v hab u (fun y hy => h y (by simp only [List.cons_append, List.mem_cons]; exact .inr hy))]
theorem PL_listF {p : List Int} (h : cntd p = true) (h8 : cntF 16 p ≤ 800) : PL (listF 16 p) := by
 obtain ⟨ho, h2, h6⟩ := cntd_iff.1 h
 have h15 := inv15 h6
 have hall := listF_all p.length 16 p ho rfl (by omega)
 refine ⟨by rw [listF_length]; exact h8, listF_lex 16 p, fun x hx => by have := (hall x hx).1; omega, fun x hx z hz => by have := (hall x hx).2.1 z hz; omega, fun x hx y hs => ?_⟩
 obtain ⟨h3, h4, h5⟩ := hall x hx
 have hlen := hs.length
 have hmem := hs.mem
 obtain ⟨u, a, b, v, rfl, rfl, hab⟩ := hs
 have hr : resL (p.length : Int) (u ++ b :: a :: v) = p := by rw [← Sl_res p.length a b v hab u h4]; exact h5
 have := least_mem p.length (u ++ b :: a :: v) 16 (fun z hz => h4 z (hmem z hz)) (by rw [hr]; exact ho) (by rw [hr, hlen, h3]) (by omega)
 rw [hr] at this
 exact this
def headsL (L : List (List Int)) : List (List Int) := L.filter fun x => decide (nfL x = x)
theorem range_rdR (L : List (List Int)) : L = (List.range L.length).map fun j : Nat => rdR L (j : Int) := by
 refine List.ext_getElem (by simp) (fun i h1 h2 => ?_)
 rw [List.getElem_map, List.getElem_range, rdR_lt L i h1]
theorem headsL_eq (L : List (List Int)) : headsL L = ((List.range L.length).filter (isH L)).map fun j : Nat => rdR L (j : Int) := by
 unfold headsL
 conv => lhs; rw [range_rdR L]
 rw [List.filter_map]
 rfl
theorem OI.words {L : List (List Int)} {C H : List Int} (h : OI L L.length C H) : H.map (rdR L) = headsL L := by
 rw [h.hds, List.map_map, headsL_eq]
 rfl
theorem OI.lenH {L : List (List Int)} {C H : List Int} (h : OI L L.length C H) : H.length = (headsL L).length := by rw [← h.words, List.length_map]
theorem rankH_lt (L : List (List Int)) (m : Nat) (hm : m < L.length) (hh : isH L m = true) : rankH L m < (headsL L).length := by
 have h1 := rankH_next L m
 rw [if_pos hh] at h1
 have h2 : ((List.range (m + 1)).filter (isH L)).length ≤ ((List.range L.length).filter (isH L)).length := (List.Sublist.filter (isH L) (List.range_sublist.2 (by omega))).length_le
 rw [h1, List.length_append] at h2
 rw [headsL_eq, List.length_map]
 unfold rankH
 simp at h2
 omega
theorem OI.cls {L : List (List Int)} (hL : PL L) {C H : List Int} (h : OI L L.length C H) (j : Nat) (hj : j < L.length) : ∃ m : Nat, m < L.length ∧ isH L m = true ∧ rdR L (m : Int) = nfL (rdR L (j : Int)) ∧ rd C (j : Int) = (rankH L m : Int) := by
 obtain ⟨m, hm, e, hh⟩ := hL.first j hj
 rcases h.val j hj with ⟨q, hq, e2, e3⟩ | ⟨e2, _⟩
 ·have := hL.inj q m hq (by omega) (e2.trans e.symm)
  subst this
  exact ⟨q, hq, hh, e2, e3⟩
 ·exact absurd e (e2 m (by omega))
def bumpC (Z : List Int) (c : Int) : List Int := Z.set c.toNat (wrap64 (rd Z c + 1))
theorem bumpC_length (Z : List Int) (c : Int) : (bumpC Z c).length = Z.length := List.length_set
end Go.Proofs.YtlmiiijjjcddkaaL
namespace Go.Proofs.YtlmiiijjjcddkaaL
open Go.RowKit Go.Proofs.YtlmiiijjjcddkaaW.PrintWords
set_option linter.unusedVariables false
set_option linter.unusedSimpArgs false
theorem swp_braid (p : List Int) (a : Nat) (h : a + 2 < p.length) : swp (swp (swp p a (a + 1)) (a + 1) (a + 2)) a (a + 1) = swp (swp (swp p (a + 1) (a + 2)) a (a + 1)) (a + 1) (a + 2) := by
 have x1 : ∀ i : Nat, rd (swp p a (a + 1)) (i : Int) = if a + 1 = i then rd p (a : Int) else if a = i then rd p ((a + 1 : Nat) : Int) else rd p (i : Int) := fun i => swp_rd p a (a + 1) i (by omega) (by omega)
 have x2 : ∀ i : Nat, rd (swp p (a + 1) (a + 2)) (i : Int) = if a + 2 = i then rd p ((a + 1 : Nat) : Int) else if a + 1 = i then rd p ((a + 2 : Nat) : Int) else rd p (i : Int) := fun i => swp_rd p (a + 1) (a + 2) i (by omega) (by omega)
 obtain ⟨q, hq⟩ : ∃ q, q = swp p a (a + 1) := ⟨_, rfl⟩
 obtain ⟨r, hr⟩ : ∃ r, r = swp p (a + 1) (a + 2) := ⟨_, rfl⟩
 have lq : q.length = p.length := by rw [hq, swp_length]
 have lr : r.length = p.length := by rw [hr, swp_length]
 rw [← hq] at x1 ⊢
 rw [← hr] at x2 ⊢
 clear hq hr
 have y1 : ∀ i : Nat, rd (swp q (a + 1) (a + 2)) (i : Int) = if a + 2 = i then rd q ((a + 1 : Nat) : Int) else if a + 1 = i then rd q ((a + 2 : Nat) : Int) else rd q (i : Int) := fun i => swp_rd q (a + 1) (a + 2) i (by omega) (by omega)
 have y2 : ∀ i : Nat, rd (swp r a (a + 1)) (i : Int) = if a + 1 = i then rd r (a : Int) else if a = i then rd r ((a + 1 : Nat) : Int) else rd r (i : Int) := fun i => swp_rd r a (a + 1) i (by omega) (by omega)
 obtain ⟨q2, hq⟩ : ∃ q2, q2 = swp q (a + 1) (a + 2) := ⟨_, rfl⟩
 obtain ⟨r2, hr⟩ : ∃ r2, r2 = swp r a (a + 1) := ⟨_, rfl⟩
 have lq2 : q2.length = p.length := by rw [hq, swp_length, lq]
 have lr2 : r2.length = p.length := by rw [hr, swp_length, lr]
 rw [← hq] at y1 ⊢
 rw [← hr] at y2 ⊢
 clear hq hr
 refine ext_rd _ _ (by rw [swp_length, swp_length, lq2, lr2]) (fun i hi => ?_)
 rw [swp_rd q2 a (a + 1) i (by omega) (by omega), swp_rd r2 (a + 1) (a + 2) i (by omega) (by omega)]
 by_cases h0 : i = a
 ·subst h0
  rw [if_neg (by omega), if_pos rfl, if_neg (by omega), if_neg (by omega), y1, if_neg (by omega), if_pos rfl, x1, if_neg (by omega), if_neg (by omega), y2, if_neg (by omega), if_pos rfl, x2, if_neg (by omega), if_pos rfl]
 by_cases h1 : i = a + 1
 ·subst h1
  rw [if_pos rfl, if_neg (by omega), if_pos rfl, y1, if_neg (by omega), if_neg (by omega), x1, if_neg (by omega), if_pos rfl, y2, if_neg (by omega), if_neg (by omega), x2, if_pos rfl]
 by_cases h2 : i = a + 2
 ·subst h2
  rw [if_neg (by omega), if_neg (by omega), if_pos rfl, y1, if_pos rfl, x1, if_pos rfl, y2, if_pos rfl, x2, if_neg (by omega), if_neg (by omega)]
 rw [if_neg (by omega), if_neg (by omega), if_neg (by omega), if_neg (by omega), y1, if_neg (by omega), if_neg (by omega), x1, if_neg (by omega), if_neg (by omega), y2, if_neg (by omega), if_neg (by omega), x2, if_neg (by omega), if_neg (by omega)]
theorem Fl_res (n : Nat) (a b : Int) (v : List Int) (hab : b = a + 1 ∨ a = b + 1) : ∀ u : List Int, (∀ x ∈ u ++ a :: b :: a :: v, 0 ≤ x ∧ x + 2 ≤ n) → resL (n : Int) (u ++ a :: b :: a :: v) = resL (n : Int) (u ++ b :: a :: b :: v)
 | [], h => by
  have ha := h a (by simp)
  have hb := h b (by simp)
  have hl : (resL (n : Int) v).length = n := by rw [resL_length]; omega
  rw [List.nil_append, List.nil_append, resL_cons n a (b :: a :: v) ha.1 ha.2, resL_cons n b (a :: v) hb.1 hb.2, resL_cons n a v ha.1 ha.2, resL_cons n b (a :: b :: v) hb.1 hb.2, resL_cons n a (b :: v) ha.1 ha.2, resL_cons n b v hb.1 hb.2]
  rcases hab with e | e
  ·have e1 : b.toNat = a.toNat + 1 := by omega
   rw [e1]
   exact swp_braid _ a.toNat (by omega)
  ·have e1 : a.toNat = b.toNat + 1 := by omega
   rw [e1]
   exact (swp_braid _ b.toNat (by omega)).symm
 | x :: u, h => by
  have hx := h x (by simp)
  rw [List.cons_append, List.cons_append, resL_cons n x _ hx.1 hx.2, resL_cons n x _ hx.1 hx.2, Fl_res n a b v hab u (fun y hy => h y (by simp only [List.cons_append, List.mem_cons]; exact .inr hy))]
theorem three_at (l : List Int) (i : Nat) (h : i + 2 < l.length) : l = l.take i ++ rd l (i : Int) :: rd l ((i : Int) + 1) :: rd l ((i : Int) + 2) :: l.drop (i + 3) := by
 have e1 := drop_rd l i (by omega)
 have e2 := drop_rd l (i + 1) (by omega)
 have e3 := drop_rd l (i + 2) (by omega)
 have h0 := (List.take_append_drop i l).symm
 rw [e1, e2, e3] at h0
 rw [show ((i : Int) + 1) = ((i + 1 : Nat) : Int) by omega, show ((i : Int) + 2) = ((i + 2 : Nat) : Int) by omega]
 exact h0
theorem flip_mem {p : List Int} (h : cntd p = true) {x : List Int} (hx : x ∈ listF 16 p) (i : Nat) (hc : flipC x (i : Int) = true) : flipL x (i : Int) ∈ listF 16 p := by
 obtain ⟨ho, h2, h6⟩ := cntd_iff.1 h
 have h15 := inv15 h6
 obtain ⟨h3, h4, h5⟩ := listF_all p.length 16 p ho rfl (by omega) x hx
 obtain ⟨_, c1, c2, c3⟩ := of_decide_eq_true hc
 have hi : i + 2 < x.length := by omega
 have e1 := three_at x i hi
 have e2 := flipL_eq x i hi
 rw [← c2] at e1
 have hb0 : rd x (i : Int) ∈ x := rd_mem x i (by omega)
 have hb1 : rd x ((i : Int) + 1) ∈ x := by have := rd_mem x (i + 1) (by omega); rwa [show ((i + 1 : Nat) : Int) = (i : Int) + 1 by omega] at this
 have hr := Fl_res p.length (rd x (i : Int)) (rd x ((i : Int) + 1)) (x.drop (i + 3)) (by omega) (x.take i) (fun z hz => h4 z (by rw [e1]; exact hz))
 rw [← e1, h5] at hr
 have e3 : flipL x (i : Int) = x.take i ++ rd x ((i : Int) + 1) :: rd x (i : Int) :: rd x ((i : Int) + 1) :: x.drop (i + 3) := by rw [← e2]; simp
 rw [← e3] at hr
 have hm : ∀ z ∈ flipL x (i : Int), z ∈ x := fun z hz => by
  rw [e3] at hz
  rcases List.mem_append.1 hz with hz | hz
  ·exact List.mem_of_mem_take hz
  ·rcases List.mem_cons.1 hz with rfl | hz
   ·exact hb1
   ·rcases List.mem_cons.1 hz with rfl | hz
    ·exact hb0
    ·rcases List.mem_cons.1 hz with rfl | hz
     ·exact hb1
     ·exact List.mem_of_mem_drop hz
 have := least_mem p.length (flipL x (i : Int)) 16 (fun z hz => h4 z (hm z hz)) (by rw [← hr]; exact ho) (by rw [← hr, flipL_length, h3]) (by rw [flipL_length]; omega)
 rw [← hr] at this
 exact this
theorem rank_at (L : List (List Int)) (m : Nat) (hh : isH L m = true) : ∀ d : Nat, ∃ t, (List.range (m + 1 + d)).filter (isH L) = (List.range m).filter (isH L) ++ m :: t
 | 0 => ⟨[], by have := rankH_next L m; rw [if_pos hh] at this; exact this⟩
 | d + 1 => by
  obtain ⟨t, ht⟩ := rank_at L m hh d
  have := rankH_next L (m + 1 + d)
  rw [ht, List.append_assoc, List.cons_append] at this
  exact ⟨_, this⟩
theorem heads_split {L : List (List Int)} (hL : PL L) (m : Nat) (hm : m < L.length) (hh : isH L m = true) : ∃ A B, headsL L = A ++ rdR L (m : Int) :: B ∧ A.length = rankH L m ∧ ∀ x ∈ A, x ≠ rdR L (m : Int) := by
 obtain ⟨t, ht⟩ := rank_at L m hh (L.length - (m + 1))
 rw [show m + 1 + (L.length - (m + 1)) = L.length by omega] at ht
 refine ⟨((List.range m).filter (isH L)).map fun j : Nat => rdR L (j : Int), t.map fun j : Nat => rdR L (j : Int), ?_, by rw [List.length_map]; rfl, fun x hx e => ?_⟩
 ·rw [headsL_eq, ht, List.map_append, List.map_cons]
 ·obtain ⟨j, hj, rfl⟩ := List.mem_map.1 hx
  have h1 := List.mem_range.1 (List.mem_filter.1 hj).1
  have := hL.inj j m (by omega) hm e
  omega
end Go.Proofs.YtlmiiijjjcddkaaL

