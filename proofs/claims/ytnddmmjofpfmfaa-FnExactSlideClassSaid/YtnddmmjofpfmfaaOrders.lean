/- Plain laws of this session on orders: backwards, one then another, descents, codes. No program in sight. -/
import Derived.Test.YtnddmmjofpfmfaaInvs
namespace Go.Proofs.YtnddmmjofpfmfaaL
open Go.RowKit Go.Proofs.YtnddmmjofpfmfaaW.PrintWords
set_option linter.unusedVariables false
set_option linter.unusedSimpArgs false

def backGo (p : List Int) : Nat → Nat → List Int → List Int
  | 0, _, acc => acc
  | d + 1, i, acc => backGo p d (i + 1) (acc.set (rd p (i : Int)).toNat (i : Int))
def backL (p : List Int) : List Int := backGo p p.length 0 (List.replicate p.length 0)
theorem backGo_length (p : List Int) : ∀ d i acc, (backGo p d i acc).length = acc.length
  | 0, _, _ => rfl
  | d + 1, i, acc => by rw [backGo, backGo_length p d, List.length_set]
theorem backL_length (p : List Int) : (backL p).length = p.length := by simp [backL, backGo_length]
def thenL (p q : List Int) : List Int := p.map fun x => rd q x
theorem thenL_length (p q : List Int) : (thenL p q).length = p.length := by simp [thenL]
/-- The descents from a place on, d places before the last. -/
def descGo (p : List Int) : Nat → Nat → List Int
  | 0, _ => []
  | d + 1, i => if rd p (i : Int) > rd p ((i : Int) + 1) then (i : Int) :: descGo p d (i + 1) else descGo p d (i + 1)
def desc (p : List Int) : List Int := descGo p (p.length - 1) 0
theorem descGo_length (p : List Int) : ∀ d i, (descGo p d i).length ≤ d
  | 0, _ => Nat.le_refl _
  | d + 1, i => by
    unfold descGo
    have := descGo_length p d (i + 1)
    split
    · simp; omega
    · omega
theorem desc_length (p : List Int) : (desc p).length ≤ p.length := by
  have := descGo_length p (p.length - 1) 0
  unfold desc; omega
theorem descGo_mem (p : List Int) : ∀ d i x, x ∈ descGo p d i → ∃ j : Nat, x = (j : Int) ∧ i ≤ j ∧ j < i + d ∧ rd p (j : Int) > rd p ((j : Int) + 1)
  | 0, _, x, h => by simp [descGo] at h
  | d + 1, i, x, h => by
    unfold descGo at h
    split at h
    · rename_i hc
      rcases List.mem_cons.1 h with rfl | h
      · exact ⟨i, rfl, Nat.le_refl _, by omega, hc⟩
      · obtain ⟨j, h1, h2, h3, h4⟩ := descGo_mem p d (i + 1) x h
        exact ⟨j, h1, by omega, by omega, h4⟩
    · obtain ⟨j, h1, h2, h3, h4⟩ := descGo_mem p d (i + 1) x h
      exact ⟨j, h1, by omega, by omega, h4⟩
theorem desc_mem {p : List Int} {x : Int} (h : x ∈ desc p) : ∃ j : Nat, x = (j : Int) ∧ j + 1 < p.length ∧ rd p (j : Int) > rd p ((j : Int) + 1) := by
  obtain ⟨j, h1, h2, h3, h4⟩ := descGo_mem p _ _ _ h
  exact ⟨j, h1, by omega, h4⟩
/-- How many places behind each have less. -/
def codeGo (p : List Int) : Nat → Nat → List Int
  | 0, _ => []
  | d + 1, i => ((invRow p i (i + 1) (p.length - (i + 1))).length : Int) :: codeGo p d (i + 1)
def codeL (p : List Int) : List Int := codeGo p p.length 0
theorem codeGo_length (p : List Int) : ∀ d i, (codeGo p d i).length = d
  | 0, _ => rfl
  | d + 1, i => by simp [codeGo, codeGo_length p d]
theorem codeL_length (p : List Int) : (codeL p).length = p.length := codeGo_length p _ _
/-- How many of a list are less than x. -/
def fewer (x : Int) : List Int → Nat
  | [] => 0
  | y :: r => (if y < x then 1 else 0) + fewer x r
theorem fewer_row (p : List Int) (i : Nat) : ∀ d j, j + d = p.length → fewer (rd p (i : Int)) (p.drop j) = (invRow p i j d).length
  | 0, j, h => by rw [List.drop_eq_nil_of_le (by omega)]; rfl
  | d + 1, j, h => by
    rw [drop_rd p j (by omega), fewer, fewer_row p i d (j + 1) (by omega), invRow]
    by_cases e : rd p (j : Int) < rd p (i : Int)
    · rw [if_pos e, if_pos e, List.length_cons]; omega
    · rw [if_neg e, if_neg e]; omega
/-- One more at the first place of each pair. -/
def bump (out : List Int) (x : List Int) : List Int := out.set (rd x 0).toNat (rd out (rd x 0) + 1)
theorem bump_length (out x : List Int) : (bump out x).length = out.length := by simp [bump]
theorem bumps_length : ∀ (xs : List (List Int)) (out : List Int), (xs.foldl bump out).length = out.length
  | [], _ => rfl
  | x :: r, out => by rw [List.foldl_cons, bumps_length r, bump_length]
theorem bump_at (out : List Int) (i : Nat) (b : Int) (pre suf : List Int) (v : Int) (h : out = pre ++ v :: suf) (hi : pre.length = i) : bump out [(i : Int), b] = pre ++ (v + 1) :: suf := by
  subst h
  have h0 : rd [(i : Int), b] 0 = (i : Int) := rfl
  have h1 : rd (pre ++ v :: suf) (i : Int) = v := by
    rw [rd_cast, List.getD_eq_getElem?_getD, List.getElem?_append_right (by omega), hi, Nat.sub_self]; rfl
  unfold bump
  rw [h0, h1, toNat_cast, List.set_append_right _ _ (by omega), hi, Nat.sub_self]; rfl
theorem bumps_row (p : List Int) (i : Nat) : ∀ d j (pre suf : List Int) (v : Int), pre.length = i → (invRow p i j d).foldl bump (pre ++ v :: suf) = pre ++ (v + ((invRow p i j d).length : Int)) :: suf
  | 0, _, pre, suf, v, _ => by simp [invRow]
  | d + 1, j, pre, suf, v, h => by
    unfold invRow
    split
    · rw [List.foldl_cons, bump_at _ i _ pre suf v rfl h, bumps_row p i d (j + 1) pre suf (v + 1) h, List.length_cons]
      congr 2; omega
    · exact bumps_row p i d (j + 1) pre suf v h
theorem bumps_from (p : List Int) : ∀ d i (pre : List Int), i + d = p.length → pre.length = i → (invFrom p i d).foldl bump (pre ++ List.replicate d 0) = pre ++ codeGo p d i
  | 0, i, pre, _, _ => by simp [invFrom, codeGo]
  | d + 1, i, pre, hd, h => by
    rw [invFrom, List.foldl_append, List.replicate_succ, bumps_row p i _ _ pre _ 0 h, codeGo]
    have := bumps_from p d (i + 1) (pre ++ [0 + ((invRow p i (i + 1) (p.length - (i + 1))).length : Int)]) (by omega) (by simp [h])
    rw [List.append_assoc] at this
    simp only [List.cons_append, List.nil_append, Int.zero_add] at this ⊢
    rw [this, List.append_assoc]; rfl
theorem bumps_code (p : List Int) : (invs p).foldl bump (List.replicate p.length 0) = codeL p := bumps_from p p.length 0 [] (by omega) rfl
/-- The numbers of an order, from a place on. -/
def upFrom : Nat → Nat → List Int
  | 0, _ => []
  | d + 1, i => (i : Int) :: upFrom d (i + 1)
def ident (n : Nat) : List Int := upFrom n 0
theorem upFrom_length : ∀ d i, (upFrom d i).length = d
  | 0, _ => rfl
  | d + 1, i => by simp [upFrom, upFrom_length d]
theorem ident_length (n : Nat) : (ident n).length = n := upFrom_length n 0
/-- A list without one of its places. -/
def woL (l : List Int) (i : Int) : List Int := l.take i.toNat ++ l.drop (i.toNat + 1)
theorem woL_length (l : List Int) (i : Int) (h0 : 0 ≤ i) (h1 : i < l.length) : (woL l i).length = l.length - 1 := by
  unfold woL
  rw [List.length_append, List.length_take, List.length_drop]; omega
/-- The order with a code, if there is one: what is left, what is taken, the code's rest. -/
def ocGo : List Int → List Int → List Int → Option (List Int)
  | _, acc, [] => some acc
  | left, acc, x :: r => if 0 ≤ x ∧ x ≤ (left.length : Int) - 1 then ocGo (woL left x) (acc ++ [rd left x]) r else none
def ocL (c : List Int) : Option (List Int) := ocGo (ident c.length) [] c
theorem ocGo_length : ∀ (r left acc p : List Int), ocGo left acc r = some p → p.length = acc.length + r.length
  | [], left, acc, p, h => by
    simp only [ocGo, Option.some.injEq] at h
    subst h; simp
  | x :: r, left, acc, p, h => by
    unfold ocGo at h
    split at h
    · have := ocGo_length r _ _ p h
      simp at this ⊢; omega
    · cases h
theorem ocL_length {c p : List Int} (h : ocL c = some p) : p.length = c.length := by
  have := ocGo_length c _ _ p h
  simpa using this
end Go.Proofs.YtnddmmjofpfmfaaL
