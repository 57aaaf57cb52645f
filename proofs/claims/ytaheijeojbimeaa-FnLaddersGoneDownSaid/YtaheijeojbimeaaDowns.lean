/- Plain laws of this session on ways down: the rungs gone over, and that at each rung just one other one is met. No program in sight. -/
import Derived.Test.YtaheijeojbimeaaCounts
import Derived.Test.YtaheijeojbimeaaPowers
import Derived.Test.YtaheijeojbimeaaCodes
namespace Go.Proofs.YtaheijeojbimeaaL
open Go.RowKit Go.Proofs.YtaheijeojbimeaaW.PrintWords
set_option linter.unusedVariables false
set_option linter.unusedSimpArgs false

theorem rd_map (f : Int → Int) (xs : List Int) (i : Nat) (h : i < xs.length) : rd (xs.map f) (i : Int) = f (rd xs (i : Int)) := by
  rw [rd_lt _ _ (by simpa using h), rd_lt _ _ h, List.getElem_map]
theorem resL_rd (n : Int) (l : List Int) (i : Nat) (h : i < n.toNat) : rd (resL n l) (i : Int) = endL (i : Int) l := by
  unfold resL
  rw [resGo_map, rd_map _ _ i (by rw [upFrom_length]; exact h), rd_upFrom _ _ _ h, Nat.zero_add]
theorem resL_append (n : Int) (a b : List Int) (ha : good n a = true) : resL n (a ++ b) = thenL (resL n a) (resL n b) := by
  refine ext_rd _ _ (by rw [thenL_length, resL_length, resL_length]) (fun i hi => ?_)
  rw [resL_length] at hi
  rw [resL_rd _ _ i hi, thenL_rd _ _ i (by rw [resL_length]; exact hi), resL_rd _ _ i hi, endL_append]
  have hb := endL_bounds (n := n) a (i : Int) (by omega) (good_iff.1 ha).2.2.2
  obtain ⟨j, hj⟩ := Int.eq_ofNat_of_zero_le hb.1
  rw [hj, resL_rd _ _ j (by omega)]
theorem over_back (w r : Int) : over (over w r) r = w := by
  unfold over
  split
  · rw [if_neg (by omega), if_pos rfl]; omega
  · split
    · rw [if_pos rfl]; omega
    · rfl
theorem over_iff (w v r : Int) : over w r = v ↔ w = over v r := ⟨fun h => by rw [← h, over_back], fun h => by rw [h, over_back]⟩
theorem usedGo_mem (ws : List Int) : ∀ (d i k : Nat), ((k : Int) ∈ usedGo ws d i ↔ i ≤ k ∧ k < i + d ∧ rd ws (k : Int) ≠ rd ws ((k + 1 : Nat) : Int))
  | 0, i, k => by simp [usedGo]; omega
  | d + 1, i, k => by
    unfold usedGo
    have ih := usedGo_mem ws d (i + 1) k
    split
    · rename_i h
      rw [ih]
      constructor
      · rintro ⟨a, b, c⟩; exact ⟨by omega, by omega, c⟩
      · rintro ⟨a, b, c⟩
        refine ⟨?_, by omega, c⟩
        by_cases e : i = k
        · subst e; exact absurd h c
        · omega
    · rename_i h
      rw [List.mem_cons, ih]
      constructor
      · rintro (e | ⟨a, b, c⟩)
        · obtain rfl : k = i := by omega
          exact ⟨by omega, by omega, h⟩
        · exact ⟨by omega, by omega, c⟩
      · rintro ⟨a, b, c⟩
        by_cases e : i = k
        · left; omega
        · right; exact ⟨by omega, by omega, c⟩
theorem usedL_mem (w : Int) (l : List Int) (k : Nat) (hk : k < l.length) : (k : Int) ∈ usedL w l ↔ over (rd (wayL w l) (k : Int)) (rd l (k : Int)) ≠ rd (wayL w l) (k : Int) := by
  unfold usedL
  rw [usedGo_mem, wayL_next w l k hk]
  constructor
  · rintro ⟨_, _, h⟩; exact fun e => h e.symm
  · intro h; exact ⟨by omega, by omega, fun e => h e.symm⟩
theorem over_ne (w r : Int) : over w r ≠ w ↔ (w = r ∨ w = r + 1) := by
  unfold over
  split
  · constructor <;> intro <;> omega
  · split
    · constructor <;> intro <;> omega
    · constructor
      · intro h; exact absurd rfl h
      · intro h; omega
theorem over_sum (w r : Int) (h : w = r ∨ w = r + 1) : w + over w r = 2 * r + 1 := by
  unfold over
  split
  · omega
  · rw [if_pos (by omega)]; omega
/-- How many rungs one goes over. -/
def nUsed (w : Int) : List Int → Nat
  | [] => 0
  | r :: l => (if over w r = w then 0 else 1) + nUsed (over w r) l
theorem usedGo_n (w : Int) (l : List Int) : ∀ (d i : Nat), i + d = l.length → (usedGo (wayL w l) d i).length = nUsed (rd (wayL w l) (i : Int)) (l.drop i)
  | 0, i, h => by rw [List.drop_eq_nil_of_le (by omega)]; rfl
  | d + 1, i, h => by
    have ih := usedGo_n w l d (i + 1) (by omega)
    rw [drop_rd l i (by omega), nUsed, usedGo, wayL_next w l i (by omega)]
    rw [wayL_next w l i (by omega)] at ih
    by_cases e : over (rd (wayL w l) (i : Int)) (rd l (i : Int)) = rd (wayL w l) (i : Int)
    · rw [if_pos e.symm, if_pos e, ih]; omega
    · rw [if_neg (fun h => e h.symm), if_neg e, List.length_cons, ih]; omega
theorem usedL_n (w : Int) (l : List Int) : (usedL w l).length = nUsed w l := usedGo_n w l l.length 0 (by omega)
theorem meet_self (l : List Int) : ∀ w : Int, meetGo w w l + nUsed w l = l.length := by
  induction l with
  | nil => intro w; rfl
  | cons r l ih =>
    intro w
    have := ih (over w r)
    rw [meetGo, nUsed, List.length_cons]
    by_cases e : over w r = w
    · rw [if_pos ⟨e, e⟩, if_pos e]; omega
    · rw [if_neg (fun h => e h.1), if_neg e]; omega
theorem meet_comm (l : List Int) : ∀ a b : Int, meetGo a b l = meetGo b a l := by
  induction l with
  | nil => intro a b; rfl
  | cons r l ih =>
    intro a b
    rw [meetGo, meetGo, ih (over a r) (over b r)]
    congr 1
    exact ite_congr (propext ⟨fun h => ⟨h.2, h.1⟩, fun h => ⟨h.2, h.1⟩⟩) (fun _ => rfl) (fun _ => rfl)
theorem sum_perm {a b : List Nat} (h : a.Perm b) : a.sum = b.sum := by
  induction h with
  | nil => rfl
  | cons x _ ih => simp [ih]
  | swap x y l => simp only [List.sum_cons]; omega
  | trans _ _ h1 h2 => exact h1.trans h2
theorem sum_add {α : Type} (f g : α → Nat) : ∀ l : List α, (l.map fun x => f x + g x).sum = (l.map f).sum + (l.map g).sum
  | [] => rfl
  | x :: l => by simp only [List.map_cons, List.sum_cons, sum_add f g l]; omega
theorem sum_zero {α : Type} (f : α → Nat) : ∀ l : List α, (∀ x ∈ l, f x = 0) → (l.map f).sum = 0
  | [], _ => rfl
  | x :: l, h => by simp only [List.map_cons, List.sum_cons, sum_zero f l (fun y hy => h y (by simp [hy])), h x (by simp)]
theorem sum_one (x : Int) : ∀ l : List Int, l.Nodup → x ∈ l → (l.map fun y => if x = y then 1 else 0).sum = 1
  | [], _, h => by cases h
  | y :: l, hn, h => by
    rw [List.nodup_cons] at hn
    simp only [List.map_cons, List.sum_cons]
    by_cases e : x = y
    · rw [if_pos e, sum_zero _ l (fun z hz => if_neg (fun h => hn.1 (by rw [← e, h]; exact hz)))]
    · rw [if_neg e, sum_one x l hn.2 (by rcases List.mem_cons.1 h with h | h; exact absurd h e; exact h)]
theorem ident_mem (n : Nat) (x : Int) : x ∈ ident n ↔ 0 ≤ x ∧ x < n := by
  constructor
  · intro h
    have := (upFrom_lt n 0).2 x h
    omega
  · rintro ⟨a, b⟩; exact upFrom_has n 0 x (by omega) (by omega)
theorem ident_nodup (n : Nat) : (ident n).Nodup := (ident_lt n).imp (fun h e => by omega)
theorem over_perm (n : Nat) (r : Int) (h0 : 0 ≤ r) (h1 : r + 2 ≤ n) : ((ident n).map fun w => over w r).Perm (ident n) := by
  refine perm_subset _ _ ?_ ?_ (by simp)
  · rw [List.nodup_iff_pairwise_ne, List.pairwise_map]
    exact (ident_nodup n).imp (fun h e => h (over_inj e))
  · intro x hx
    obtain ⟨w, hw, rfl⟩ := List.mem_map.1 hx
    have := (ident_mem n w).1 hw
    have := over_bounds (n := (n : Int)) (w := w) (r := r) (by omega) (by omega)
    exact (ident_mem n _).2 (by omega)
/-- At each rung one meets just one, or is alone. -/
theorem meets_all (n : Nat) : ∀ (l : List Int) (a : Int), (∀ x ∈ l, 0 ≤ x ∧ x + 2 ≤ n) → 0 ≤ a → a < n → ((ident n).map fun b => meetGo a b l).sum = l.length
  | [], a, _, _, _ => sum_zero _ _ (fun _ _ => rfl)
  | r :: l, a, h, h0, h1 => by
    have hr := h r (by simp)
    have hb := over_bounds (n := (n : Int)) (w := a) (r := r) (by omega) (by omega)
    have ih := meets_all n l (over a r) (fun x hx => h x (by simp [hx])) hb.1 (by omega)
    have e : (fun b => meetGo a b (r :: l)) = fun b => (if over a r = b then 1 else 0) + meetGo (over a r) (over b r) l := by
      funext b
      rw [meetGo]
      congr 1
      exact ite_congr (propext ⟨fun h => h.1, fun h => ⟨h, by rw [← h, over_back]⟩⟩) (fun _ => rfl) (fun _ => rfl)
    rw [e, sum_add, sum_one _ _ (ident_nodup n) ((ident_mem n _).2 (by omega))]
    have e2 : ((ident n).map fun b => meetGo (over a r) (over b r) l) = ((ident n).map fun w => over w r).map fun b => meetGo (over a r) b l := by rw [List.map_map]; rfl
    rw [e2, sum_perm ((over_perm n r hr.1 hr.2).map _), ih, List.length_cons]; omega
/-- Whom one meets, from a place on, itself left out. -/
def msum (a : Int) (l : List Int) : Nat → Nat → Nat
  | 0, _ => 0
  | d + 1, b => (if (b : Int) = a then 0 else meetGo a (b : Int) l) + msum a l d (b + 1)
theorem msum_sum (a : Int) (l : List Int) : ∀ d b, msum a l d b + (if (b : Int) ≤ a ∧ a < ((b + d : Nat) : Int) then meetGo a a l else 0) = ((upFrom d b).map fun x => meetGo a x l).sum
  | 0, b => by rw [if_neg (by omega)]; rfl
  | d + 1, b => by
    have ih := msum_sum a l d (b + 1)
    rw [msum, upFrom, List.map_cons, List.sum_cons, ← ih]
    by_cases e : (b : Int) = a
    · rw [if_pos e, if_pos (by omega), if_neg (by omega), e]; omega
    · rw [if_neg e]
      by_cases f : (b : Int) ≤ a ∧ a < ((b + (d + 1) : Nat) : Int)
      · rw [if_pos f, if_pos (by omega)]; omega
      · rw [if_neg f, if_neg (by omega)]; omega
/-- All meetings of one are the rungs that it goes over. -/
theorem msum_used (n : Nat) (a : Int) (l : List Int) (h : ∀ x ∈ l, 0 ≤ x ∧ x + 2 ≤ n) (h0 : 0 ≤ a) (h1 : a < n) : msum a l n 0 = (usedL a l).length := by
  have e1 := msum_sum a l n 0
  rw [if_pos (by omega)] at e1
  have e2 := meets_all n l a h h0 h1
  have e3 := meet_self l a
  rw [usedL_n]
  unfold ident at e2
  omega
theorem msum_le (a : Int) (l : List Int) : ∀ d b, msum a l d b ≤ d * l.length
  | 0, _ => Nat.zero_le _
  | d + 1, b => by
    have := msum_le a l d (b + 1)
    have := meetGo_le l a (b : Int)
    rw [msum, Nat.succ_mul]
    split <;> omega
end Go.Proofs.YtaheijeojbimeaaL
