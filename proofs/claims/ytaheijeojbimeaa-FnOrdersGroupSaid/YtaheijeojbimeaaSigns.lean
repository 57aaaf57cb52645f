/- Plain laws of this session on the sign of an order. No program in sight. -/
import Derived.Test.YtaheijeojbimeaaCycles
namespace Go.Proofs.YtaheijeojbimeaaL
open Go.RowKit Go.Proofs.YtaheijeojbimeaaW.PrintWords
set_option linter.unusedVariables false
set_option linter.unusedSimpArgs false

def sgn (s : Int) (k : Nat) : Int := if k % 2 = 0 then s else -s
theorem sgn_zero (s : Int) : sgn s 0 = s := rfl
theorem sgn_neg (s : Int) (k : Nat) : sgn (-s) k = sgn s (1 + k) := by
  unfold sgn
  by_cases h : k % 2 = 0
  · rw [if_pos h, if_neg (by omega)]
  · rw [if_neg h, if_pos (by omega)]; omega
theorem sgn_add (s : Int) (a b : Nat) : sgn (sgn s a) b = sgn s (a + b) := by
  unfold sgn
  by_cases h : a % 2 = 0 <;> by_cases h2 : b % 2 = 0
  · rw [if_pos h2, if_pos h, if_pos (by omega)]
  · rw [if_neg h2, if_pos h, if_neg (by omega)]
  · rw [if_pos h2, if_neg h, if_neg (by omega)]
  · rw [if_neg h2, if_neg h, if_pos (by omega)]; omega
theorem sgn_one (s : Int) (k : Nat) (h : s = 1 ∨ s = -1) : sgn s k = 1 ∨ sgn s k = -1 := by
  unfold sgn; split <;> omega
theorem sgn_congr (s : Int) (a b : Nat) (h : (a + b) % 2 = 0) : sgn s a = sgn s b := by
  unfold sgn
  by_cases h1 : a % 2 = 0
  · rw [if_pos h1, if_pos (by omega)]
  · rw [if_neg h1, if_neg (by omega)]
/-- How many of them are greater than x. -/
def gr (x : Int) : List Int → Nat
  | [] => 0
  | y :: r => (if y > x then 1 else 0) + gr x r
theorem invC_snoc (a : List Int) (x : Int) : invC (a ++ [x]) = invC a + gr x a := by
  induction a with
  | nil => rfl
  | cons c a ih =>
    rw [List.cons_append, invC, invC, gr, ih, fewer_append]
    simp only [fewer, gt_iff_lt]
    omega
/-- How many lists are of an even length. -/
def evn : List (List Int) → Nat
  | [] => 0
  | c :: C => (if (c.length : Int) % 2 = 0 then 1 else 0) + evn C
theorem evn_extra : ∀ C : List (List Int), (∀ c ∈ C, 0 < c.length) → (evn C + extra C) % 2 = 0
  | [], _ => rfl
  | c :: C, h => by
    have h1 := evn_extra C (fun c' hc => h c' (List.mem_cons_of_mem _ hc))
    have h2 := h c List.mem_cons_self
    rw [evn, extra]
    by_cases e : (c.length : Int) % 2 = 0
    · rw [if_pos e]; omega
    · rw [if_neg e]; omega
theorem isCyc_pos {p c : List Int} (h : isCyc p c) : 0 < c.length := by
  cases c with
  | nil => exact h.elim
  | cons a r => simp
theorem sign_dec {p : List Int} {C : List (List Int)} (hp : p.Nodup) (h : IsDec p C) (s : Int) : sgn s (evn C) = sgn s (invC p) := by
  have h1 := cyc_parity _ p C rfl hp h
  have h2 := evn_extra C (fun c hc => isCyc_pos (h.cyc c hc))
  exact sgn_congr s _ _ (by omega)
end Go.Proofs.YtaheijeojbimeaaL
