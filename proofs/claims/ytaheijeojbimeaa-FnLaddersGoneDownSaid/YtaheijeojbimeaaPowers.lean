/- Plain laws of this session on the powers of an order and the lengths of its cycles. No program in sight. -/
import Derived.Test.YtaheijeojbimeaaCycles
namespace Go.Proofs.YtaheijeojbimeaaL
open Go.RowKit Go.Proofs.YtaheijeojbimeaaW.PrintWords
set_option linter.unusedVariables false
set_option linter.unusedSimpArgs false

def itr (p : List Int) : Nat → Int → Int
  | 0, x => x
  | t + 1, x => rd p (itr p t x)
/-- p, so many times more behind itself. -/
def pw (p : List Int) : Nat → List Int
  | 0 => p
  | t + 1 => thenL (pw p t) p
theorem pw_length (p : List Int) : ∀ t, (pw p t).length = p.length
  | 0 => rfl
  | t + 1 => by rw [pw, thenL_length, pw_length p t]
theorem thenL_rd (q p : List Int) (i : Nat) (h : i < q.length) : rd (thenL q p) (i : Int) = rd p (rd q (i : Int)) := by
  rw [rd_lt _ _ (by rw [thenL_length]; exact h), rd_lt q i h]
  simp [thenL]
theorem pw_rd (p : List Int) : ∀ (t i : Nat), i < p.length → rd (pw p t) (i : Int) = itr p (t + 1) (i : Int)
  | 0, i, _ => rfl
  | t + 1, i, h => by rw [pw, thenL_rd _ _ _ (by rw [pw_length]; exact h), pw_rd p t i h]; rfl
theorem pw_all (p : List Int) (hb : ∀ x ∈ p, 0 ≤ x ∧ x < p.length) : ∀ t, ∀ x ∈ pw p t, 0 ≤ x ∧ x < p.length
  | 0 => hb
  | t + 1 => fun x hx => by
    rw [pw, thenL, List.mem_map] at hx
    obtain ⟨y, hy, rfl⟩ := hx
    obtain ⟨h0, h1⟩ := pw_all p hb t y hy
    have := rd_mem p y.toNat (by omega)
    rw [Int.toNat_of_nonneg h0] at this
    exact hb _ this
theorem follows_at (p : List Int) : ∀ (l : List Int) (f : Int) (k : Nat), follows p f l → k < l.length → rd p (rd l (k : Int)) = if k + 1 < l.length then rd l ((k + 1 : Nat) : Int) else f
  | [], _, _, h, _ => h.elim
  | [x], f, k, h, hk => by
    obtain rfl : k = 0 := by simp at hk; exact hk
    rw [if_neg (by simp)]; exact h
  | x :: y :: r, f, 0, h, _ => by
    rw [if_pos (by simp)]; exact h.1
  | x :: y :: r, f, k + 1, h, hk => by
    have := follows_at p (y :: r) f k h.2 (by simpa using hk)
    have e1 : rd (x :: y :: r) ((k + 1 : Nat) : Int) = rd (y :: r) (k : Int) := by
      rw [rd_cast, rd_cast]; simp
    have e2 : rd (x :: y :: r) ((k + 1 + 1 : Nat) : Int) = rd (y :: r) ((k + 1 : Nat) : Int) := by
      rw [rd_cast, rd_cast]; simp
    rw [e1, e2, this]
    by_cases h2 : k + 1 < (y :: r).length
    · rw [if_pos h2, if_pos (by simp at h2 ⊢; omega)]
    · rw [if_neg h2, if_neg (by simp at h2 ⊢; omega)]
theorem cyc_at {p c : List Int} (h : isCyc p c) (k : Nat) (hk : k < c.length) : rd p (rd c (k : Int)) = rd c (((k + 1) % c.length : Nat) : Int) := by
  cases c with
  | nil => exact h.elim
  | cons a r =>
    have := follows_at p (a :: r) a k h hk
    rw [this]
    by_cases h2 : k + 1 < (a :: r).length
    · rw [if_pos h2, Nat.mod_eq_of_lt h2]
    · have e : k + 1 = (a :: r).length := by omega
      rw [if_neg h2, e, Nat.mod_self]; rfl
theorem cyc_itr {p c : List Int} (h : isCyc p c) (k : Nat) (hk : k < c.length) : ∀ t, itr p t (rd c (k : Int)) = rd c (((k + t) % c.length : Nat) : Int)
  | 0 => by rw [itr, Nat.add_zero, Nat.mod_eq_of_lt hk]
  | t + 1 => by
    rw [itr, cyc_itr h k hk t, cyc_at h _ (Nat.mod_lt _ (by omega)), Nat.mod_add_mod, Nat.add_assoc]
theorem nodup_flat {C : List (List Int)} : C.flatten.Nodup → ∀ c ∈ C, c.Nodup := by
  induction C with
  | nil => intro _ c hc; cases hc
  | cons d C ih =>
    intro h c hc
    rw [List.flatten_cons, List.nodup_append] at h
    rcases List.mem_cons.1 hc with rfl | hc
    · exact h.1
    · exact ih h.2.1 c hc
theorem pw_ident {p : List Int} {C : List (List Int)} (hd : IsDec p C) (t : Nat) : pw p t = ident p.length ↔ ∀ c ∈ C, (t + 1) % c.length = 0 := by
  constructor
  · intro e c hc
    have h := hd.cyc c hc
    have hp : 0 < c.length := by
      cases c with
      | nil => exact h.elim
      | cons a r => simp
    have hm : rd c ((0 : Nat) : Int) ∈ C.flatten := List.mem_flatten.2 ⟨c, hc, rd_mem c 0 hp⟩
    obtain ⟨h0, h1⟩ := hd.lt _ hm
    have a1 := pw_rd p t (rd c ((0 : Nat) : Int)).toNat (by omega)
    rw [e, rd_ident _ _ (by omega), Int.toNat_of_nonneg h0, cyc_itr h 0 hp] at a1
    have a2 := rd_inj (nodup_flat hd.nodup c hc) ((0 : Nat) : Int) _ ⟨by omega, by omega⟩ ⟨Int.natCast_nonneg _, by have := Nat.mod_lt (0 + (t + 1)) hp; omega⟩ a1
    rw [Nat.zero_add] at a2
    omega
  · intro ha
    refine ext_rd _ _ (by rw [pw_length, ident_length]) (fun i hi => ?_)
    rw [pw_length] at hi
    rw [pw_rd p t i hi, rd_ident _ _ hi]
    obtain ⟨c, hc, hm⟩ := List.mem_flatten.1 (hd.all i hi)
    obtain ⟨k, hk, e⟩ := List.getElem_of_mem hm
    have e' : (i : Int) = rd c (k : Int) := by rw [rd_lt c k hk, e]
    have h := hd.cyc c hc
    rw [e', cyc_itr h k hk, Nat.add_mod, ha c hc, Nat.add_zero, Nat.mod_mod, Nat.mod_eq_of_lt hk]
/-- The least number that a and all lengths divide. -/
def lc : Nat → List (List Int) → Nat
  | a, [] => a
  | a, c :: C => lc (Nat.lcm a c.length) C
theorem lc_dvd_self : ∀ (C : List (List Int)) (a : Nat), a ∣ lc a C
  | [], a => Nat.dvd_refl a
  | c :: C, a => Nat.dvd_trans (Nat.dvd_lcm_left a c.length) (lc_dvd_self C _)
theorem lc_dvd : ∀ (C : List (List Int)) (a : Nat), ∀ c ∈ C, c.length ∣ lc a C
  | d :: C, a, c, hc => by
    rcases List.mem_cons.1 hc with rfl | hc
    · exact Nat.dvd_trans (Nat.dvd_lcm_right a _) (lc_dvd_self C _)
    · exact lc_dvd C _ c hc
theorem lc_least : ∀ (C : List (List Int)) (a t : Nat), a ∣ t → (∀ c ∈ C, c.length ∣ t) → lc a C ∣ t
  | [], _, _, h, _ => h
  | c :: C, a, t, h, hc => lc_least C _ t (Nat.lcm_dvd h (hc c List.mem_cons_self)) (fun d hd => hc d (List.mem_cons_of_mem _ hd))
theorem lc_pos : ∀ (C : List (List Int)) (a : Nat), 0 < a → (∀ c ∈ C, 0 < c.length) → 0 < lc a C
  | [], _, h, _ => h
  | c :: C, a, h, hc => lc_pos C _ (Nat.lcm_pos h (hc c List.mem_cons_self)) (fun d hd => hc d (List.mem_cons_of_mem _ hd))
theorem lcm_le (a b : Nat) : Nat.lcm a b ≤ a * b := Nat.div_le_self _ _
theorem lc_le : ∀ (C : List (List Int)) (a : Nat), (∀ c ∈ C, c.length ≤ 9) → lc a C ≤ a * 9 ^ C.length
  | [], a, _ => by simp [lc]
  | c :: C, a, h => by
    rw [lc]
    refine Nat.le_trans (lc_le C _ (fun d hd => h d (List.mem_cons_of_mem _ hd))) ?_
    rw [List.length_cons, Nat.pow_succ, Nat.mul_comm (9 ^ C.length) 9, ← Nat.mul_assoc]
    exact Nat.mul_le_mul_right _ (Nat.le_trans (lcm_le _ _) (Nat.mul_le_mul_left _ (h c List.mem_cons_self)))
theorem pos_len {p : List Int} {C : List (List Int)} (hd : IsDec p C) : ∀ c ∈ C, 0 < c.length := fun c hc => by
  have h := hd.cyc c hc
  cases c with
  | nil => exact h.elim
  | cons a r => simp
end Go.Proofs.YtaheijeojbimeaaL
