/- Plain laws of this session on least ladders: as many rungs as inversions, no two meet twice, the first of all. No program in sight. -/
import Derived.Test.YtaheijeojbimeaaDowns
import Derived.Test.YtaheijeojbimeaaSlides
namespace Go.Proofs.YtaheijeojbimeaaL
open Go.RowKit Go.Proofs.YtaheijeojbimeaaW.PrintWords
set_option linter.unusedVariables false
set_option linter.unusedSimpArgs false

/-- A rung at the top exchanges two places of the result. -/
theorem resL_cons (n : Nat) (r : Int) (l : List Int) (h0 : 0 ≤ r) (h1 : r + 2 ≤ n) : resL (n : Int) (r :: l) = swp (resL (n : Int) l) r.toNat (r.toNat + 1) := by
  have hl : (resL (n : Int) l).length = n := by rw [resL_length]; omega
  refine ext_rd _ _ (by rw [swp_length, resL_length, resL_length]) (fun i hi => ?_)
  rw [resL_length] at hi
  rw [resL_rd _ _ i hi, swp_rd _ _ _ i (by omega) (by omega), endL]
  unfold over
  by_cases e1 : (i : Int) = r
  · rw [if_pos e1, if_neg (by omega), if_pos (by omega), resL_rd _ _ (r.toNat + 1) (by omega), show ((r.toNat + 1 : Nat) : Int) = r + 1 by omega]
  · rw [if_neg e1]
    by_cases e2 : (i : Int) = r + 1
    · rw [if_pos e2, if_pos (by omega), resL_rd _ _ r.toNat (by omega), show ((r.toNat : Nat) : Int) = r by omega]
    · rw [if_neg e2, if_neg (by omega), if_neg (by omega), resL_rd _ _ i hi]
theorem resL_nil (n : Nat) : resL (n : Int) [] = ident n := by
  refine ext_rd _ _ (by rw [resL_length, ident_length]; omega) (fun i hi => ?_)
  rw [resL_length] at hi
  rw [resL_rd _ _ i hi, rd_ident n i (by omega)]; rfl
theorem swp_swp (p : List Int) (a b : Nat) (hab : a ≠ b) (ha : a < p.length) (hb : b < p.length) : swp (swp p a b) a b = p := by
  refine ext_rd _ _ (by rw [swp_length, swp_length]) (fun i hi => ?_)
  have h1 : a < (swp p a b).length := by rw [swp_length]; exact ha
  have h2 : b < (swp p a b).length := by rw [swp_length]; exact hb
  rw [swp_rd _ _ _ i h1 h2, swp_rd _ _ _ a ha hb, swp_rd _ _ _ b ha hb, swp_rd _ _ _ i ha hb]
  by_cases e : b = i
  · subst e; rw [if_pos rfl, if_neg (fun h => hab h.symm), if_pos rfl]
  · rw [if_neg e]
    by_cases f : a = i
    · subst f; rw [if_pos rfl, if_pos rfl]
    · rw [if_neg f, if_neg e, if_neg f]
theorem invC_adj (p : List Int) (j : Nat) (hj : j + 1 < p.length) : invC p + (if rd p (j : Int) < rd p ((j + 1 : Nat) : Int) then 1 else 0) = invC (swp p j (j + 1)) + (if rd p ((j + 1 : Nat) : Int) < rd p (j : Int) then 1 else 0) := by
  have e1 := split_two p j (j + 1) (by omega) hj
  have e2 := swp_split p j (j + 1) (by omega) hj
  simp only [Nat.sub_self, List.take_zero, List.nil_append] at e1 e2
  have := invC_swap (p.take j) (rd p (j : Int)) (rd p ((j + 1 : Nat) : Int)) (p.drop (j + 1 + 1))
  rw [← e1, ← e2] at this
  exact this
theorem resL_nodup (n : Nat) (l : List Int) : (resL (n : Int) l).Nodup := by
  unfold resL
  rw [resGo_map, List.nodup_iff_pairwise_ne, List.pairwise_map]
  exact (ident_nodup _).imp (fun h e => h (endL_inj l _ _ e))
/-- At most as many inversions as rungs, and as many but for an even number. -/
theorem inv_rungs (n : Nat) : ∀ l : List Int, (∀ x ∈ l, 0 ≤ x ∧ x + 2 ≤ n) → invC (resL (n : Int) l) ≤ l.length ∧ (invC (resL (n : Int) l) + l.length) % 2 = 0
  | [], _ => by rw [resL_nil, invC_ident]; exact ⟨Nat.le_refl _, rfl⟩
  | r :: l, h => by
    have hr := h r (by simp)
    have ih := inv_rungs n l (fun x hx => h x (by simp [hx]))
    have hl : (resL (n : Int) l).length = n := by rw [resL_length]; omega
    have hp := invC_swp _ (resL_nodup n l) r.toNat (r.toNat + 1) (by omega) (by omega) (by omega)
    have ha := invC_adj (resL (n : Int) l) r.toNat (by omega)
    rw [resL_cons n r l hr.1 hr.2, List.length_cons]
    refine ⟨?_, by omega⟩
    split at ha <;> split at ha <;> omega
theorem descGo_lt (p : List Int) : ∀ d i, (descGo p d i).Pairwise (· < ·)
  | 0, _ => by simp [descGo]
  | d + 1, i => by
    unfold descGo
    split
    · rw [List.pairwise_cons]
      refine ⟨fun x hx => ?_, descGo_lt p d (i + 1)⟩
      obtain ⟨j, rfl, hj, _⟩ := descGo_mem p d (i + 1) x hx
      omega
    · exact descGo_lt p d (i + 1)
theorem desc_first {p : List Int} {a x : Int} {r : List Int} (h : desc p = a :: r) (hx : x ∈ desc p) : a ≤ x := by
  have := descGo_lt p (p.length - 1) 0
  rw [show descGo p (p.length - 1) 0 = desc p from rfl, h, List.pairwise_cons] at this
  rw [h] at hx
  rcases List.mem_cons.1 hx with rfl | hx
  · exact Int.le_refl _
  · exact Int.le_of_lt (this.1 x hx)
theorem up_ge (p : List Int) (h0 : ∀ x ∈ p, 0 ≤ x ∧ x < p.length) (hd : ∀ j : Nat, j + 1 < p.length → rd p (j : Int) < rd p ((j + 1 : Nat) : Int)) : ∀ i : Nat, i < p.length → (i : Int) ≤ rd p (i : Int)
  | 0, h => (h0 _ (rd_mem p 0 h)).1
  | i + 1, h => by
    have h1 := up_ge p h0 hd i (by omega)
    have h2 := hd i h
    omega
theorem up_le (p : List Int) (h0 : ∀ x ∈ p, 0 ≤ x ∧ x < p.length) (hd : ∀ j : Nat, j + 1 < p.length → rd p (j : Int) < rd p ((j + 1 : Nat) : Int)) : ∀ d i : Nat, i + 1 + d = p.length → rd p (i : Int) ≤ (i : Int)
  | 0, i, h => by
    have := (h0 _ (rd_mem p i (by omega))).2
    omega
  | d + 1, i, h => by
    have h1 := up_le p h0 hd d (i + 1) (by omega)
    have h2 := hd i (by omega)
    omega
/-- Without a fall each number is at its place. -/
theorem desc_none {p : List Int} (ho : isOrd p = true) (h : desc p = []) : p = ident p.length := by
  have ha := isOrd_all ho
  have hd : ∀ j : Nat, j + 1 < p.length → rd p (j : Int) < rd p ((j + 1 : Nat) : Int) := fun j hj => by
    have h1 : ¬ rd p (j : Int) > rd p ((j + 1 : Nat) : Int) := fun e => by
      have := (desc_iff p j hj).2 e
      rw [h] at this; cases this
    have h2 : rd p (j : Int) ≠ rd p ((j + 1 : Nat) : Int) := fun e => by
      have := rd_inj ha.2 _ _ (by omega) (by omega) e
      omega
    omega
  refine ext_rd _ _ (by rw [ident_length]) (fun i hi => ?_)
  rw [rd_ident _ i hi]
  have h1 := up_ge p ha.1 hd i hi
  have h2 := up_le p ha.1 hd (p.length - (i + 1)) i (by omega)
  omega
theorem leastL_all (n : Nat) : ∀ (k : Nat) (p : List Int), invC p = k → isOrd p = true → p.length = n → (leastL p).length = k ∧ (∀ x ∈ leastL p, 0 ≤ x ∧ x + 2 ≤ n) ∧ resL (n : Int) (leastL p) = p
  | 0, p, hk, ho, hn => by
    have hd : desc p = [] := by
      cases e : desc p with
      | nil => rfl
      | cons a r =>
        obtain ⟨j, rfl, hj, hr, hc⟩ := desc_head e
        omega
    rw [leastL_nil hd, resL_nil]
    have := desc_none ho hd
    rw [hn] at this
    exact ⟨rfl, by simp, this.symm⟩
  | k + 1, p, hk, ho, hn => by
    cases e : desc p with
    | nil =>
      have := desc_none ho e
      rw [this, invC_ident] at hk
      cases hk
    | cons a r =>
      obtain ⟨j, rfl, hj, hr, hc⟩ := desc_head e
      have ih := leastL_all n k (swp p j (j + 1)) (by omega) (isOrd_swp ho j hj) (by rw [swp_length]; exact hn)
      rw [leastL_cons e, toNat_cast]
      refine ⟨by rw [List.length_cons, ih.1], ?_, ?_⟩
      · intro x hx
        rcases List.mem_cons.1 hx with rfl | hx
        · omega
        · exact ih.2.1 x hx
      · rw [resL_cons n _ _ (by omega) (by omega), ih.2.2, toNat_cast, swp_swp p j (j + 1) (by omega) (by omega) hj]
/-- A least ladder is not ahead of the first one. -/
theorem least_lex (n : Nat) (h1 : 1 ≤ n) (h8 : n ≤ 8) : ∀ l : List Int, (∀ x ∈ l, 0 ≤ x ∧ x + 2 ≤ n) → isOrd (resL (n : Int) l) = true → invC (resL (n : Int) l) = l.length → lexL l (leastL (resL (n : Int) l)) = false
  | [], h, ho, hk => by
    rw [resL_nil] at hk ⊢
    have := (leastL_all n 0 (ident n) (invC_ident n) (isOrd_of_perm h1 h8 (List.Perm.refl _)) (ident_length n)).1
    rw [lexL, this]; rfl
  | r :: l, h, ho, hk => by
    have hr := h r (by simp)
    have hl : (resL (n : Int) l).length = n := by rw [resL_length]; omega
    have hc := resL_cons n r l hr.1 hr.2
    have hle := (inv_rungs n l (fun x hx => h x (by simp [hx]))).1
    have hlp : (resL (n : Int) (r :: l)).length = n := by rw [resL_length]; omega
    have hs : swp (resL (n : Int) (r :: l)) r.toNat (r.toNat + 1) = resL (n : Int) l := by
      rw [hc, swp_swp _ _ _ (by omega) (by omega) (by omega)]
    have ha := invC_adj (resL (n : Int) (r :: l)) r.toNat (by omega)
    rw [hs, hk, List.length_cons] at ha
    have hf : rd (resL (n : Int) (r :: l)) (r.toNat : Int) > rd (resL (n : Int) (r :: l)) ((r.toNat + 1 : Nat) : Int) := by
      split at ha <;> (try split at ha) <;> omega
    have hm : ((r.toNat : Nat) : Int) ∈ desc (resL (n : Int) (r :: l)) := (desc_iff _ _ (by omega)).2 hf
    have ho' : isOrd (resL (n : Int) l) = true := by rw [← hs]; exact isOrd_swp ho _ (by omega)
    have hk' : invC (resL (n : Int) l) = l.length := by split at ha <;> (try split at ha) <;> omega
    cases e : desc (resL (n : Int) (r :: l)) with
    | nil => rw [e] at hm; cases hm
    | cons a t =>
      have hle2 := desc_first e hm
      rw [leastL_cons e, lexL]
      by_cases f : r = a
      · subst f
        rw [if_pos rfl, hs]
        exact least_lex n h1 h8 l (fun x hx => h x (by simp [hx])) ho' hk'
      · rw [if_neg f]; exact decide_eq_false (by omega)
/-- Two meet an odd number of times where they come out in the other order. -/
theorem meet_parity (l : List Int) : ∀ a b : Int, a ≠ b → (meetGo a b l + (if a > b then 1 else 0) + (if endL a l > endL b l then 1 else 0)) % 2 = 0 := by
  induction l with
  | nil => intro a b h; rw [meetGo, endL, endL]; split <;> omega
  | cons r l ih =>
    intro a b h
    have hne : over a r ≠ over b r := fun e => h (over_inj e)
    have := ih (over a r) (over b r) hne
    rw [meetGo, endL, endL]
    by_cases c : over a r = b ∧ over b r = a
    · rw [if_pos c]
      rw [c.1, c.2] at this ⊢
      by_cases d : a > b
      · rw [if_pos d]; rw [if_neg (by omega)] at this; omega
      · rw [if_neg d]; rw [if_pos (by omega)] at this; omega
    · rw [if_neg c]
      have hi : (a > b) ↔ (over a r > over b r) := by
        unfold over at c ⊢
        split at c <;> split at c <;> (try split at c) <;> (try split at c) <;> (constructor <;> intro <;> (try omega)) <;> (exfalso; apply c; constructor <;> omega)
      by_cases d : a > b
      · rw [if_pos d]; rw [if_pos (hi.1 d)] at this; omega
      · rw [if_neg d]; rw [if_neg (fun e => d (hi.2 e))] at this; omega
/-- A sum over all pairs of places, the first one less. -/
def rowS (f : Nat → Nat → Nat) (a : Nat) : Nat → Nat → Nat
  | 0, _ => 0
  | d + 1, b => f a b + rowS f a d (b + 1)
def allS (f : Nat → Nat → Nat) (n : Nat) : Nat → Nat → Nat
  | 0, _ => 0
  | d + 1, a => rowS f a (n - (a + 1)) (a + 1) + allS f n d (a + 1)
def invI (p : List Int) (a b : Nat) : Nat := if rd p (a : Int) > rd p (b : Int) then 1 else 0
def meetN (l : List Int) (a b : Nat) : Nat := meetGo (a : Int) (b : Int) l
theorem invRow_S (p : List Int) (i : Nat) : ∀ d j, (invRow p i j d).length = rowS (invI p) i d j
  | 0, _ => rfl
  | d + 1, j => by
    have := invRow_S p i d (j + 1)
    unfold invRow rowS invI
    split
    · rw [List.length_cons, this]; unfold invI; omega
    · rw [this]; unfold invI; omega
theorem invFrom_S (p : List Int) : ∀ d i, (invFrom p i d).length = allS (invI p) p.length d i
  | 0, _ => rfl
  | d + 1, i => by rw [invFrom, List.length_append, invRow_S, allS, invFrom_S p d (i + 1)]
theorem invC_S (p : List Int) : invC p = allS (invI p) p.length p.length 0 := by rw [← invs_invC]; exact invFrom_S p _ _
theorem rowS_eq (f g : Nat → Nat → Nat) (a : Nat) : ∀ d b, (∀ k, b ≤ k → k < b + d → f a k = g a k) → rowS f a d b = rowS g a d b
  | 0, _, _ => rfl
  | d + 1, b, h => by rw [rowS, rowS, h b (by omega) (by omega), rowS_eq f g a d (b + 1) (fun k h1 h2 => h k (by omega) (by omega))]
theorem allS_eq (f g : Nat → Nat → Nat) (n : Nat) : ∀ d a, a + d = n → (∀ i k, i < k → k < n → f i k = g i k) → allS f n d a = allS g n d a
  | 0, _, _, _ => rfl
  | d + 1, a, hd, h => by rw [allS, allS, rowS_eq f g a _ _ (fun k h1 h2 => h a k (by omega) (by omega)), allS_eq f g n d (a + 1) (by omega) h]
theorem rowS_le (f g : Nat → Nat → Nat) (a : Nat) : ∀ d b, (∀ k, b ≤ k → k < b + d → f a k ≤ g a k) → rowS f a d b ≤ rowS g a d b
  | 0, _, _ => Nat.le_refl _
  | d + 1, b, h => by
    have h1 := h b (by omega) (by omega)
    have h2 := rowS_le f g a d (b + 1) (fun k h1 h2 => h k (by omega) (by omega))
    rw [rowS, rowS]; omega
theorem allS_le (f g : Nat → Nat → Nat) (n : Nat) : ∀ d a, a + d = n → (∀ i k, i < k → k < n → f i k ≤ g i k) → allS f n d a ≤ allS g n d a
  | 0, _, _, _ => Nat.le_refl _
  | d + 1, a, hd, h => by
    have h1 := rowS_le f g a (n - (a + 1)) (a + 1) (fun k h1 h2 => h a k (by omega) (by omega))
    have h2 := allS_le f g n d (a + 1) (by omega) h
    rw [allS, allS]; omega
/-- All pairs of a list, and all pairs twice with each one by itself. -/
theorem sum_pairs (f : Int → Int → Nat) (hf : ∀ x y, f x y = f y x) : ∀ (d a : Nat), ((upFrom d a).map fun x => ((upFrom d a).map fun y => f x y).sum).sum = 2 * allS (fun i k => f (i : Int) (k : Int)) (a + d) d a + ((upFrom d a).map fun x => f x x).sum
  | 0, a => rfl
  | d + 1, a => by
    have ih := sum_pairs f hf d (a + 1)
    have hrow : ∀ (d b : Nat), rowS (fun i k => f (i : Int) (k : Int)) a d b = ((upFrom d b).map fun y => f (a : Int) y).sum := by
      intro d
      induction d with
      | zero => intro b; rfl
      | succ d ih => intro b; rw [rowS, ih, upFrom, List.map_cons, List.sum_cons]
    rw [allS, hrow, show a + (d + 1) - (a + 1) = d by omega, show a + (d + 1) = a + 1 + d by omega]
    simp only [upFrom, List.map_cons, List.sum_cons]
    rw [sum_add, ih]
    have e : ((upFrom d (a + 1)).map fun x => f x (a : Int)) = (upFrom d (a + 1)).map fun y => f (a : Int) y := by
      congr 1; funext x; exact hf x _
    rw [e]
    omega
theorem sum_const (c : Nat) : ∀ l : List Int, (l.map fun _ => c).sum = l.length * c
  | [] => by simp
  | x :: l => by rw [List.map_cons, List.sum_cons, sum_const c l, List.length_cons, Nat.succ_mul]; omega
/-- Each rung is gone over by two. -/
theorem used_all (n : Nat) : ∀ l : List Int, (∀ x ∈ l, 0 ≤ x ∧ x + 2 ≤ n) → ((ident n).map fun a => nUsed a l).sum = 2 * l.length
  | [], _ => sum_zero _ _ (fun _ _ => rfl)
  | r :: l, h => by
    have hr := h r (by simp)
    have ih := used_all n l (fun x hx => h x (by simp [hx]))
    have e : (fun a => nUsed a (r :: l)) = fun a => (fun a => (if r = a then 1 else 0) + (if r + 1 = a then 1 else 0)) a + nUsed (over a r) l := by
      funext a
      rw [nUsed]
      congr 1
      show (if over a r = a then 0 else 1) = (if r = a then 1 else 0) + (if r + 1 = a then 1 else 0)
      by_cases c : over a r = a
      · have : ¬ (a = r ∨ a = r + 1) := fun z => (over_ne a r).2 z c
        rw [if_pos c, if_neg (fun z => this (Or.inl z.symm)), if_neg (fun z => this (Or.inr z.symm))]
      · rw [if_neg c]
        rcases (over_ne a r).1 c with z | z
        · rw [if_pos z.symm, if_neg (by omega)]
        · rw [if_neg (by omega), if_pos z.symm]
    rw [e, sum_add, sum_add, sum_one _ _ (ident_nodup n) ((ident_mem n _).2 (by omega)), sum_one _ _ (ident_nodup n) ((ident_mem n _).2 (by omega))]
    have e2 : ((ident n).map fun a => nUsed (over a r) l) = ((ident n).map fun w => over w r).map fun a => nUsed a l := by rw [List.map_map]; rfl
    rw [e2, sum_perm ((over_perm n r hr.1 hr.2).map _), ih, List.length_cons]; omega
/-- All meetings are all rungs. -/
theorem meets_rungs (n : Nat) (l : List Int) (h : ∀ x ∈ l, 0 ≤ x ∧ x + 2 ≤ n) : allS (meetN l) n n 0 = l.length := by
  have h1 := sum_pairs (fun x y => meetGo x y l) (fun x y => meet_comm l x y) n 0
  have h2 : ((ident n).map fun x => ((ident n).map fun y => meetGo x y l).sum) = (ident n).map fun _ => l.length := by
    apply List.map_congr_left
    intro x hx
    have := (ident_mem n x).1 hx
    exact meets_all n l x h this.1 this.2
  have h3 : (((ident n).map fun x => meetGo x x l).sum) + ((ident n).map fun a => nUsed a l).sum = n * l.length := by
    rw [← sum_add]
    have : (fun x => meetGo x x l + nUsed x l) = fun _ => l.length := by funext x; exact meet_self l x
    rw [this, sum_const, ident_length]
  rw [used_all n l h] at h3
  unfold ident at h2 h3
  rw [h2, sum_const, upFrom_length, Nat.zero_add] at h1
  have e : (fun (i k : Nat) => meetGo (i : Int) (k : Int) l) = meetN l := rfl
  rw [e] at h1
  omega
theorem meet_inv (n : Nat) (l : List Int) (a b : Nat) (hab : a < b) (hb : b < n) : (meetN l a b + invI (resL (n : Int) l) a b) % 2 = 0 := by
  have := meet_parity l (a : Int) (b : Int) (by omega)
  unfold meetN invI
  rw [resL_rd _ _ a (by omega), resL_rd _ _ b (by omega)]
  rw [if_neg (by omega)] at this
  omega
theorem invI_le (p : List Int) (a b : Nat) : invI p a b ≤ 1 := by unfold invI; split <;> omega
theorem twiceIn_none (l : List Int) (a : Nat) : ∀ d b, twiceIn l a d b = none → ∀ k, b ≤ k → k < b + d → meetN l a k ≤ 1
  | 0, _, _, k, h1, h2 => by omega
  | d + 1, b, h, k, h1, h2 => by
    unfold twiceIn at h
    split at h
    · cases h
    · rename_i c
      by_cases e : b = k
      · subst e; unfold meetN; omega
      · exact twiceIn_none l a d (b + 1) h k (by omega) (by omega)
theorem twiceIn_some (l : List Int) (a : Nat) : ∀ d b r, twiceIn l a d b = some r → ∃ k, b ≤ k ∧ k < b + d ∧ r = [(a : Int), (k : Int)] ∧ meetN l a k ≥ 2
  | 0, _, _, h => by cases h
  | d + 1, b, r, h => by
    unfold twiceIn at h
    split at h
    · rename_i c
      cases h
      exact ⟨b, by omega, by omega, rfl, c⟩
    · obtain ⟨k, h1, h2, h3⟩ := twiceIn_some l a d (b + 1) r h
      exact ⟨k, by omega, by omega, h3⟩
theorem twiceGo_none (l : List Int) (n : Nat) : ∀ d a, a + d = n → twiceGo l n d a = none → ∀ i k, a ≤ i → i < k → k < n → meetN l i k ≤ 1
  | 0, a, hd, _, i, k, h1, h2, h3 => by omega
  | d + 1, a, hd, h, i, k, h1, h2, h3 => by
    unfold twiceGo at h
    split at h
    · cases h
    · rename_i c
      by_cases e : a = i
      · subst e; exact twiceIn_none l a _ _ c k (by omega) (by omega)
      · exact twiceGo_none l n d (a + 1) (by omega) h i k (by omega) h2 h3
theorem twiceGo_some (l : List Int) (n : Nat) : ∀ d a r, a + d = n → twiceGo l n d a = some r → ∃ i k, i < k ∧ k < n ∧ r = [(i : Int), (k : Int)] ∧ meetN l i k ≥ 2
  | 0, _, _, _, h => by cases h
  | d + 1, a, r, hd, h => by
    unfold twiceGo at h
    split at h
    · rename_i r' c
      cases h
      obtain ⟨k, h1, h2, h3, h4⟩ := twiceIn_some l a _ _ r c
      exact ⟨a, k, by omega, by omega, h3, h4⟩
    · exact twiceGo_some l n d (a + 1) r (by omega) h
/-- Where no two meet twice, each two meet as their ends tell; and there are as many rungs as inversions. -/
theorem twice_none (n : Nat) (l : List Int) (h : ∀ x ∈ l, 0 ≤ x ∧ x + 2 ≤ n) (ht : twiceL (n : Int) l = none) : (∀ i k, i < k → k < n → meetN l i k = invI (resL (n : Int) l) i k) ∧ invC (resL (n : Int) l) = l.length := by
  have hn : ((n : Int)).toNat = n := by omega
  unfold twiceL at ht
  rw [hn] at ht
  have h1 : ∀ i k, i < k → k < n → meetN l i k = invI (resL (n : Int) l) i k := fun i k hik hk => by
    have h1 := twiceGo_none l n n 0 (by omega) ht i k (by omega) hik hk
    have h2 := meet_inv n l i k hik hk
    have h3 := invI_le (resL (n : Int) l) i k
    omega
  refine ⟨h1, ?_⟩
  have hl : (resL (n : Int) l).length = n := by rw [resL_length]; omega
  rw [invC_S, hl, ← meets_rungs n l h]
  exact (allS_eq _ _ n n 0 (by omega) h1).symm
theorem rowS_lt (f g : Nat → Nat → Nat) (a : Nat) : ∀ d b k, (∀ k, b ≤ k → k < b + d → f a k ≤ g a k) → b ≤ k → k < b + d → f a k < g a k → rowS f a d b < rowS g a d b
  | 0, _, _, _, h1, h2, _ => by omega
  | d + 1, b, k, h, h1, h2, h3 => by
    have h4 := h b (by omega) (by omega)
    have h5 := rowS_le f g a d (b + 1) (fun k h1 h2 => h k (by omega) (by omega))
    rw [rowS, rowS]
    by_cases e : b = k
    · subst e; omega
    · have := rowS_lt f g a d (b + 1) k (fun k h1 h2 => h k (by omega) (by omega)) (by omega) (by omega) h3
      omega
theorem allS_lt (f g : Nat → Nat → Nat) (n : Nat) : ∀ d a i k, a + d = n → (∀ i k, i < k → k < n → f i k ≤ g i k) → a ≤ i → i < k → k < n → f i k < g i k → allS f n d a < allS g n d a
  | 0, _, _, _, hd, _, h1, h2, h3, _ => by omega
  | d + 1, a, i, k, hd, h, h1, h2, h3, h4 => by
    have h5 := rowS_le f g a (n - (a + 1)) (a + 1) (fun k h1 h2 => h a k (by omega) (by omega))
    have h6 := allS_le f g n d (a + 1) (by omega) h
    rw [allS, allS]
    by_cases e : a = i
    · subst e
      have := rowS_lt f g a (n - (a + 1)) (a + 1) k (fun k h1 h2 => h a k (by omega) (by omega)) (by omega) (by omega) h4
      omega
    · have := allS_lt f g n d (a + 1) i k (by omega) h (by omega) h2 h3 h4
      omega
theorem twice_some (n : Nat) (l : List Int) (h : ∀ x ∈ l, 0 ≤ x ∧ x + 2 ≤ n) (r : List Int) (ht : twiceL (n : Int) l = some r) : (∃ i k : Nat, i < k ∧ k < n ∧ r = [(i : Int), (k : Int)] ∧ meetGo (i : Int) (k : Int) l ≥ 2) ∧ invC (resL (n : Int) l) < l.length := by
  have hn : ((n : Int)).toNat = n := by omega
  unfold twiceL at ht
  rw [hn] at ht
  obtain ⟨i, k, h1, h2, h3, h4⟩ := twiceGo_some l n n 0 r (by omega) ht
  refine ⟨⟨i, k, h1, h2, h3, h4⟩, ?_⟩
  have hl : (resL (n : Int) l).length = n := by rw [resL_length]; omega
  rw [invC_S, hl, ← meets_rungs n l h]
  refine allS_lt _ _ n n 0 i k (by omega) (fun i k h1 h2 => ?_) (by omega) h1 h2 ?_
  · have h5 := meet_inv n l i k h1 h2
    have h6 := invI_le (resL (n : Int) l) i k
    omega
  · have h6 := invI_le (resL (n : Int) l) i k
    omega
theorem lex_two (a b c d : Int) : lexL [a, b] [c, d] = true ↔ a < c ∨ (a = c ∧ b < d) := by
  unfold lexL
  by_cases e : a = c
  · rw [if_pos e]
    unfold lexL
    by_cases f : b = d
    · rw [if_pos f]; unfold lexL; simp; omega
    · rw [if_neg f, decide_eq_true_eq]; omega
  · rw [if_neg e, decide_eq_true_eq]; omega
/-- The inversions, one by one: two places, the first one less, the number there greater; in order. -/
theorem invRow_all (p : List Int) (i : Nat) : ∀ d j, i < j → j + d = p.length → (∀ x ∈ invRow p i j d, ∃ b : Nat, x = [(i : Int), (b : Int)] ∧ j ≤ b ∧ b < p.length ∧ rd p (i : Int) > rd p (b : Int)) ∧ (invRow p i j d).Pairwise (fun x y => lexL x y = true)
  | 0, _, _, _ => ⟨by simp [invRow], by simp [invRow]⟩
  | d + 1, j, hij, hj => by
    have ih := invRow_all p i d (j + 1) (by omega) (by omega)
    unfold invRow
    split
    · rename_i c
      refine ⟨fun x hx => ?_, ?_⟩
      · rcases List.mem_cons.1 hx with rfl | hx
        · exact ⟨j, rfl, by omega, by omega, c⟩
        · obtain ⟨b, h1, h2, h3⟩ := ih.1 x hx
          exact ⟨b, h1, by omega, h3⟩
      · rw [List.pairwise_cons]
        refine ⟨fun x hx => ?_, ih.2⟩
        obtain ⟨b, rfl, h2, h3⟩ := ih.1 x hx
        exact (lex_two _ _ _ _).2 (Or.inr ⟨rfl, by omega⟩)
    · refine ⟨fun x hx => ?_, ih.2⟩
      obtain ⟨b, h1, h2, h3⟩ := ih.1 x hx
      exact ⟨b, h1, by omega, h3⟩
theorem invFrom_all (p : List Int) : ∀ d i, i + d = p.length → (∀ x ∈ invFrom p i d, ∃ a b : Nat, x = [(a : Int), (b : Int)] ∧ i ≤ a ∧ a < b ∧ b < p.length ∧ rd p (a : Int) > rd p (b : Int)) ∧ (invFrom p i d).Pairwise (fun x y => lexL x y = true)
  | 0, _, _ => ⟨by simp [invFrom], by simp [invFrom]⟩
  | d + 1, i, hi => by
    have ih := invFrom_all p d (i + 1) (by omega)
    have hr := invRow_all p i (p.length - (i + 1)) (i + 1) (by omega) (by omega)
    unfold invFrom
    refine ⟨fun x hx => ?_, ?_⟩
    · rcases List.mem_append.1 hx with hx | hx
      · obtain ⟨b, h1, h2, h3, h4⟩ := hr.1 x hx
        exact ⟨i, b, h1, by omega, by omega, h3, h4⟩
      · obtain ⟨a, b, h1, h2, h3⟩ := ih.1 x hx
        exact ⟨a, b, h1, by omega, h3⟩
    · rw [List.pairwise_append]
      refine ⟨hr.2, ih.2, fun x hx y hy => ?_⟩
      obtain ⟨b, rfl, h2, h3⟩ := hr.1 x hx
      obtain ⟨c, d, rfl, h4, h5⟩ := ih.1 y hy
      exact (lex_two _ _ _ _).2 (Or.inl (by omega))
theorem invs_all (p : List Int) : (∀ x ∈ invs p, ∃ a b : Nat, x = [(a : Int), (b : Int)] ∧ a < b ∧ b < p.length ∧ rd p (a : Int) > rd p (b : Int)) ∧ (invs p).Pairwise (fun x y => lexL x y = true) := by
  have := invFrom_all p p.length 0 (by omega)
  refine ⟨fun x hx => ?_, this.2⟩
  obtain ⟨a, b, h1, _, h2⟩ := this.1 x hx
  exact ⟨a, b, h1, h2⟩
end Go.Proofs.YtaheijeojbimeaaL
