/- Plain laws of this session on texts of numbers. No program in sight. -/
import Derived.Test.YtldcjlpbodpmbaaDoorLadders
import Derived.Test.YtldcjlpbodpmbaaDoorMoves
import Derived.Lib.ItoaNum
import Derived.Lib.Join
namespace Go.Proofs.YtldcjlpbodpmbaaDoorL
open Go.RowKit Go.Proofs.YtldcjlpbodpmbaaDoorW.PrintWords
set_option linter.unusedVariables false
set_option linter.unusedSimpArgs false

/-- One digit. -/
def digB (x : Int) : List UInt8 := [UInt8.ofNat (48 + x.toNat)]
theorem digB_num (x : Int) (h0 : 0 ≤ x) (h1 : x < 10) : strOfNums [(wrap64 (48 + x)) % 256] = ⟨(digB x).toArray⟩ := by
  unfold strOfNums digB
  rw [wrap_id (by omega) (by omega), List.map_cons, List.map_nil, show (((48 + x) % 256 : Int)).toNat = 48 + x.toNat by omega]
theorem digB_itoa (x : Int) (h0 : 0 ≤ x) (h1 : x < 10) : (⟨(Lib.decDigits x.toNat).toArray⟩ : ByteArray) = ⟨(digB x).toArray⟩ := by
  rw [Lib.decDigits_one (by omega)]; rfl
/-- Digits behind each other, a comma ahead of each (of the first one: if b). -/
def digsB : Bool → List Int → List UInt8
  | _, [] => []
  | b, x :: r => (if b = true then [44] else []) ++ digB x ++ digsB true r
theorem digsB_length : ∀ (b : Bool) (l : List Int), (digsB b l).length ≤ 2 * l.length
  | _, [] => Nat.le_refl _
  | b, x :: r => by
    have := digsB_length true r
    rw [digsB, List.length_append, List.length_append, List.length_cons]
    have h1 : (digB x).length = 1 := rfl
    have h2 : (if b = true then [44] else ([] : List UInt8)).length ≤ 1 := by split <;> simp
    omega
theorem digsB_tail : ∀ l : List Int, digsB true l = Lib.joinTail [44] (l.map digB)
  | [] => rfl
  | x :: r => by
    rw [digsB, if_pos rfl, digsB_tail r, List.map_cons]
    simp [Lib.joinTail]
theorem digsB_join (l : List Int) : Lib.join (l.map digB) [44] = digsB false l := by
  cases l with
  | nil => rfl
  | cons x r => rw [List.map_cons, Lib.join_cons, digsB, if_neg (by simp), ← digsB_tail, List.nil_append]
theorem byte_ext {a b : ByteArray} (h : a.data.toList = b.data.toList) : a = b := by
  cases a; cases b
  simp only at h
  congr 1
  exact Array.toList_inj.1 h
theorem byte_app (a b : ByteArray) : (a ++ b).data.toList = a.data.toList ++ b.data.toList := by
  rw [ByteArray.data_append, Array.toList_append]
theorem byte_size (a : ByteArray) : a.size = a.data.toList.length := rfl
theorem byte_mk (l : List UInt8) : (⟨l.toArray⟩ : ByteArray).data.toList = l := rfl
/-- One or two digits. -/
def digT (i : Nat) : ByteArray := ⟨(Lib.decDigits i).toArray⟩
/-- The texts of all moves of one kind. -/
def mvL (s : ByteArray) (c : Int → Bool) : Nat → Nat → List ByteArray
  | 0, _ => []
  | d + 1, i => if c (i : Int) = true then (s ++ digT i) :: mvL s c d (i + 1) else mvL s c d (i + 1)
theorem mvL_length (s : ByteArray) (c : Int → Bool) : ∀ d i, (mvL s c d i).length ≤ d
  | 0, _ => Nat.le_refl _
  | d + 1, i => by
    have := mvL_length s c d (i + 1)
    unfold mvL
    split
    · rw [List.length_cons]; omega
    · omega
theorem digT_size (i : Nat) (h : i < 100) : (digT i).size ≤ 2 := by
  unfold digT
  by_cases h1 : i < 10
  · rw [Lib.decDigits_one h1]; show 1 ≤ 2; omega
  · rw [Lib.decDigits_two h1 h]; show 2 ≤ 2; omega
/-- All moves of a ladder. -/
def allMoves (l : List Int) : List ByteArray := mvL ⟨#[115]⟩ (slideC l) l.length 0 ++ mvL ⟨#[102]⟩ (flipC l) l.length 0 ++ mvL ⟨#[100]⟩ (dropC l) l.length 0
theorem allMoves_length (l : List Int) : (allMoves l).length ≤ 3 * l.length := by
  unfold allMoves
  have h1 := mvL_length ⟨#[115]⟩ (slideC l) l.length 0
  have h2 := mvL_length ⟨#[102]⟩ (flipC l) l.length 0
  have h3 := mvL_length ⟨#[100]⟩ (dropC l) l.length 0
  rw [List.length_append, List.length_append]; omega
end Go.Proofs.YtldcjlpbodpmbaaDoorL
