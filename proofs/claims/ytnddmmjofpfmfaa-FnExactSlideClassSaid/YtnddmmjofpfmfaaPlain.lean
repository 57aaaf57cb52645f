/- Plain laws of this session on numbers and lists: what the functions come to. No program in sight. -/
import Derived.Test.YtnddmmjofpfmfaaLim
namespace Go.Proofs.YtnddmmjofpfmfaaL
open Go.RowKit Go.Proofs.YtnddmmjofpfmfaaW.PrintWords
set_option linter.unusedVariables false
set_option linter.unusedSimpArgs false

theorem wrap_id {x : Int} (h0 : -9223372036854775808 ≤ x) (h1 : x ≤ 9223372036854775807) : wrap64 x = x := by
  unfold wrap64; omega
theorem wf_bounds {x : Int} (h : (Lit.int .i64 x).wf = true) : -9223372036854775808 ≤ x ∧ x ≤ 9223372036854775807 := by
  simp only [Lit.wf, IntKind.min, IntKind.max, IntKind.signed, IntKind.bits, Bool.and_eq_true, decide_eq_true_eq, if_true] at h
  omega
theorem rd_cast (xs : List Int) (i : Nat) : rd xs (i : Int) = xs.getD i 0 := rfl
theorem rd_lt (xs : List Int) (i : Nat) (h : i < xs.length) : rd xs (i : Int) = xs[i] := by
  rw [rd_cast, List.getD_eq_getElem?_getD, List.getElem?_eq_getElem h]; rfl
theorem rd_mem (xs : List Int) (i : Nat) (h : i < xs.length) : rd xs (i : Int) ∈ xs := by
  rw [rd_lt xs i h]; exact List.getElem_mem h
theorem drop_rd (xs : List Int) (i : Nat) (h : i < xs.length) : xs.drop i = rd xs (i : Int) :: xs.drop (i + 1) := by
  rw [rd_lt xs i h]; exact List.drop_eq_getElem_cons h
theorem take_rd (xs : List Int) (i : Nat) (h : i < xs.length) : xs.take (i + 1) = xs.take i ++ [rd xs (i : Int)] := by
  rw [rd_lt xs i h]; exact List.take_succ_eq_append_getElem h
theorem toNat_cast (i : Nat) : ((i : Int)).toNat = i := Int.toNat_natCast i
theorem cast_lt {i n : Nat} (h : i < n) : ((i : Int) < (n : Int)) := Int.ofNat_lt.mpr h
theorem cast_nlt {i n : Nat} (h : ¬ i < n) : ¬ ((i : Int) < (n : Int)) := fun k => h (Int.ofNat_lt.mp k)
theorem succ_wrap {i n : Nat} (h : i < n) (hn : n ≤ 140737488355328) : wrap64 ((i : Int) + 1) = ((i + 1 : Nat) : Int) := by
  rw [wrap_id (by omega) (by omega)]; omega

/-- Is each number at its place in its bounds, and none of those ahead of it? -/
def ordGo (n : Int) : List Int → List Int → Bool
  | _, [] => true
  | pre, x :: r => if 0 ≤ x ∧ x ≤ n - 1 then (if x ∈ pre then false else ordGo n (pre ++ [x]) r) else false
def isOrd (p : List Int) : Bool := if 1 ≤ p.length ∧ p.length ≤ 8 then ordGo p.length [] p else false
theorem ordGo_cons (n : Int) (pre : List Int) (x : Int) (r : List Int) : ordGo n pre (x :: r) = if 0 ≤ x ∧ x ≤ n - 1 then (if x ∈ pre then false else ordGo n (pre ++ [x]) r) else false := rfl
theorem ordGo_all {n : Int} : ∀ (r pre : List Int), ordGo n pre r = true → (∀ x ∈ r, 0 ≤ x ∧ x ≤ n - 1 ∧ x ∉ pre) ∧ r.Nodup
  | [], _, _ => ⟨by simp, List.nodup_nil⟩
  | x :: r, pre, h => by
    unfold ordGo at h
    split at h
    · rename_i hx
      split at h
      · cases h
      · rename_i hm
        obtain ⟨h1, h2⟩ := ordGo_all r (pre ++ [x]) h
        refine ⟨fun y hy => ?_, List.nodup_cons.2 ⟨fun hx' => ?_, h2⟩⟩
        · rcases List.mem_cons.1 hy with rfl | hy
          · exact ⟨hx.1, hx.2, hm⟩
          · have := h1 y hy
            exact ⟨this.1, this.2.1, fun hp => this.2.2 (List.mem_append_left _ hp)⟩
        · exact (h1 x hx').2.2 (List.mem_append_right _ (by simp))
    · cases h
theorem isOrd_len {p : List Int} (h : isOrd p = true) : 1 ≤ p.length ∧ p.length ≤ 8 := by
  unfold isOrd at h
  split at h
  · assumption
  · cases h
theorem isOrd_all {p : List Int} (h : isOrd p = true) : (∀ x ∈ p, 0 ≤ x ∧ x < p.length) ∧ p.Nodup := by
  have hl := isOrd_len h
  unfold isOrd at h
  rw [if_pos hl] at h
  obtain ⟨h1, h2⟩ := ordGo_all p [] h
  exact ⟨fun x hx => by have := h1 x hx; omega, h2⟩
theorem isOrd_rd {p : List Int} (h : isOrd p = true) (i : Nat) (hi : i < p.length) : 0 ≤ rd p (i : Int) ∧ rd p (i : Int) < p.length := (isOrd_all h).1 _ (rd_mem p i hi)

/-- Numbers from k on, as many as are asked. -/
def fromOn (k : Int) : Nat → List Int
  | 0 => []
  | n + 1 => k :: fromOn (k + 1) n
theorem fromOn_length (k : Int) (n : Nat) : (fromOn k n).length = n := by
  induction n generalizing k with
  | zero => rfl
  | succ n ih => simp [fromOn, ih]
theorem set_take_drop (xs ys : List Int) (i : Nat) (h : i < xs.length) (hl : xs.length = ys.length) (v : Int) : (ys.take i ++ xs.drop i).set i v = ys.take i ++ v :: xs.drop (i + 1) := by
  rw [List.drop_eq_getElem_cons h, List.set_append_right _ _ (by rw [List.length_take]; omega)]
  have : i - (ys.take i).length = 0 := by rw [List.length_take]; omega
  rw [this]; rfl
end Go.Proofs.YtnddmmjofpfmfaaL
