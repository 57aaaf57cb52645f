/- Plain laws of this session on permutations: parities of inversions, exchanges, cycles. No program in sight. -/
import Derived.Test.YtnddmmjofpfmfaaOrders
namespace Go.Proofs.YtnddmmjofpfmfaaL
open Go.RowKit Go.Proofs.YtnddmmjofpfmfaaW.PrintWords
set_option linter.unusedVariables false
set_option linter.unusedSimpArgs false

/-- The number of inversions, from the front. -/
def invC : List Int → Nat
  | [] => 0
  | x :: r => fewer x r + invC r
theorem invFrom_invC (p : List Int) : ∀ d i, i + d = p.length → (invFrom p i d).length = invC (p.drop i)
  | 0, i, h => by rw [List.drop_eq_nil_of_le (by omega)]; rfl
  | d + 1, i, h => by
    rw [invFrom, List.length_append, invFrom_invC p d (i + 1) (by omega), drop_rd p i (by omega), invC, fewer_row p i (p.length - (i + 1)) (i + 1) (by omega)]
theorem invs_invC (p : List Int) : (invs p).length = invC p := by
  have := invFrom_invC p p.length 0 (by omega)
  simpa [invs] using this
theorem fewer_append (x : Int) (a b : List Int) : fewer x (a ++ b) = fewer x a + fewer x b := by
  induction a with
  | nil => simp [fewer]
  | cons y a ih => rw [List.cons_append, fewer, fewer, ih, Nat.add_assoc]
theorem invC_swap (a : List Int) (x y : Int) (b : List Int) : invC (a ++ x :: y :: b) + (if x < y then 1 else 0) = invC (a ++ y :: x :: b) + (if y < x then 1 else 0) := by
  induction a with
  | nil =>
    simp only [List.nil_append, invC, fewer]
    by_cases h1 : x < y
    · have h2 : ¬ y < x := by omega
      simp only [if_pos h1, if_neg h2]; omega
    · simp only [if_neg h1]
      by_cases h2 : y < x
      · simp only [if_pos h2]; omega
      · simp only [if_neg h2]; omega
  | cons c a ih =>
    simp only [List.cons_append, invC]
    have : fewer c (a ++ x :: y :: b) = fewer c (a ++ y :: x :: b) := by
      rw [fewer_append, fewer_append]
      simp only [fewer]; omega
    omega
/-- Two numbers exchanged, whatever lies between them: the parity turns. -/
theorem invC_trans : ∀ (M A : List Int) (x y : Int) (B : List Int), x ≠ y → x ∉ M → y ∉ M → (invC (A ++ x :: (M ++ y :: B)) + invC (A ++ y :: (M ++ x :: B))) % 2 = 1
  | [], A, x, y, B, h, _, _ => by
    have := invC_swap A x y B
    simp only [List.nil_append]
    by_cases h1 : x < y
    · have h2 : ¬ y < x := by omega
      rw [if_pos h1, if_neg h2] at this; omega
    · have h2 : y < x := by omega
      rw [if_neg h1, if_pos h2] at this; omega
  | m :: M, A, x, y, B, h, hx, hy => by
    have hxm : x ≠ m := fun e => hx (by simp [e])
    have hym : y ≠ m := fun e => hy (by simp [e])
    have h1 := invC_swap A x m (M ++ y :: B)
    have h2 := invC_trans M (A ++ [m]) x y B h (fun e => hx (by simp [e])) (fun e => hy (by simp [e]))
    have h3 := invC_swap A m y (M ++ x :: B)
    simp only [List.append_assoc, List.singleton_append, List.cons_append, List.nil_append] at h1 h2 h3 ⊢
    have e1 : (if x < m then 1 else 0) + (if m < x then 1 else 0) = 1 := by
      by_cases c : x < m
      · rw [if_pos c, if_neg (by omega)]
      · rw [if_neg c, if_pos (by omega)]
    have e2 : (if m < y then 1 else 0) + (if y < m then 1 else 0) = 1 := by
      by_cases c : m < y
      · rw [if_pos c, if_neg (by omega)]
      · rw [if_neg c, if_pos (by omega)]
    omega
/-- The numbers at two places exchanged. -/
def swp (p : List Int) (a b : Nat) : List Int := (p.set a (rd p (b : Int))).set b (rd p (a : Int))
theorem swp_length (p : List Int) (a b : Nat) : (swp p a b).length = p.length := by simp [swp]
theorem rd_set (p : List Int) (a : Nat) (v : Int) (i : Nat) (ha : a < p.length) : rd (p.set a v) (i : Int) = if a = i then v else rd p (i : Int) := by
  rw [rd_cast, rd_cast, List.getD_eq_getElem?_getD, List.getElem?_set]
  by_cases h : a = i
  · rw [if_pos h, if_pos h, if_pos (by omega)]; rfl
  · rw [if_neg h, if_neg h, ← List.getD_eq_getElem?_getD]
theorem swp_rd (p : List Int) (a b i : Nat) (ha : a < p.length) (hb : b < p.length) : rd (swp p a b) (i : Int) = if b = i then rd p (a : Int) else if a = i then rd p (b : Int) else rd p (i : Int) := by
  unfold swp
  rw [rd_set _ b _ i (by simpa using hb), rd_set p a _ i ha]
/-- A list in three pieces round two places. -/
theorem split_two (p : List Int) (a b : Nat) (hab : a < b) (hb : b < p.length) : p = p.take a ++ rd p (a : Int) :: ((p.drop (a + 1)).take (b - (a + 1)) ++ rd p (b : Int) :: p.drop (b + 1)) := by
  have h1 : p = p.take a ++ p.drop a := (List.take_append_drop a p).symm
  have h2 : p.drop (a + 1) = (p.drop (a + 1)).take (b - (a + 1)) ++ (p.drop (a + 1)).drop (b - (a + 1)) := (List.take_append_drop _ _).symm
  rw [List.drop_drop, show a + 1 + (b - (a + 1)) = b by omega, drop_rd p b hb] at h2
  rw [drop_rd p a (by omega), h2] at h1
  exact h1
theorem swp_split (p : List Int) (a b : Nat) (hab : a < b) (hb : b < p.length) : swp p a b = p.take a ++ rd p (b : Int) :: ((p.drop (a + 1)).take (b - (a + 1)) ++ rd p (a : Int) :: p.drop (b + 1)) := by
  have hs := split_two p a b hab hb
  obtain ⟨A, hA⟩ : ∃ A, A = p.take a := ⟨_, rfl⟩
  obtain ⟨M, hM⟩ : ∃ M, M = (p.drop (a + 1)).take (b - (a + 1)) := ⟨_, rfl⟩
  obtain ⟨B, hB⟩ : ∃ B, B = p.drop (b + 1) := ⟨_, rfl⟩
  obtain ⟨x, hx⟩ : ∃ x, x = rd p (a : Int) := ⟨_, rfl⟩
  obtain ⟨y, hy⟩ : ∃ y, y = rd p (b : Int) := ⟨_, rfl⟩
  have lA : A.length = a := by rw [hA, List.length_take]; omega
  have lM : M.length = b - (a + 1) := by rw [hM, List.length_take, List.length_drop]; omega
  unfold swp
  rw [← hA, ← hM, ← hB, ← hx, ← hy] at hs ⊢
  rw [hs, List.set_append_right _ _ (by omega), lA, Nat.sub_self, List.set_cons_zero, List.set_append_right _ _ (by omega), lA, show b - a = (b - (a + 1)) + 1 by omega, List.set_cons_succ, List.set_append_right _ _ (by omega), lM, Nat.sub_self, List.set_cons_zero]
theorem swp_perm (p : List Int) (a b : Nat) (hab : a < b) (hb : b < p.length) : (swp p a b).Perm p := by
  rw [swp_split p a b hab hb]
  refine List.Perm.trans ?_ (List.Perm.of_eq (split_two p a b hab hb).symm)
  refine List.Perm.append_left _ ?_
  refine List.Perm.trans (List.Perm.cons _ List.perm_middle) (List.Perm.trans (List.Perm.swap _ _ _) (List.Perm.cons _ List.perm_middle.symm))
theorem swp_comm (p : List Int) (a b : Nat) (hab : a ≠ b) : swp p a b = swp p b a := by
  unfold swp
  exact List.set_comm _ _ hab
theorem invC_swp (p : List Int) (hp : p.Nodup) (a b : Nat) (hab : a ≠ b) (ha : a < p.length) (hb : b < p.length) : (invC p + invC (swp p a b)) % 2 = 1 := by
  have main : ∀ a b : Nat, a < b → b < p.length → (invC p + invC (swp p a b)) % 2 = 1 := by
    intro a b hab hb
    have hs := split_two p a b hab hb
    rw [swp_split p a b hab hb]
    have hn := hp
    rw [hs] at hn
    have hn2 := (List.nodup_append.1 hn).2.1
    obtain ⟨n1, n2⟩ := List.nodup_cons.1 hn2
    have n3 := (List.nodup_append.1 n2)
    have hxy : rd p (a : Int) ≠ rd p (b : Int) := fun e => n1 (by rw [e]; simp)
    have hx : rd p (a : Int) ∉ (p.drop (a + 1)).take (b - (a + 1)) := fun e => n1 (List.mem_append_left _ e)
    have hy : rd p (b : Int) ∉ (p.drop (a + 1)).take (b - (a + 1)) := fun e => n3.2.2 _ e _ (by simp) rfl
    have := invC_trans ((p.drop (a + 1)).take (b - (a + 1))) (p.take a) _ _ (p.drop (b + 1)) hxy hx hy
    rw [← hs] at this
    exact this
  rcases Nat.lt_or_gt_of_ne hab with h | h
  · exact main a b h hb
  · rw [swp_comm p a b hab]; exact main b a h ha
/-- Each leads to the next one, and the last to f. -/
def follows (p : List Int) (f : Int) : List Int → Prop
  | [] => False
  | [x] => rd p x = f
  | x :: y :: r => rd p x = y ∧ follows p f (y :: r)
/-- A cycle of p. -/
def isCyc (p : List Int) : List Int → Prop
  | [] => False
  | c :: r => follows p c (c :: r)
/-- Lists of places, each place in one of them, each list a cycle. -/
structure IsDec (p : List Int) (C : List (List Int)) : Prop where
  cyc : ∀ c ∈ C, isCyc p c
  nodup : C.flatten.Nodup
  all : ∀ i : Nat, i < p.length → (i : Int) ∈ C.flatten
  lt : ∀ x ∈ C.flatten, 0 ≤ x ∧ x < p.length
def extra : List (List Int) → Nat
  | [] => 0
  | c :: C => (c.length - 1) + extra C
theorem extra_append (A B : List (List Int)) : extra (A ++ B) = extra A + extra B := by
  induction A with
  | nil => simp [extra]
  | cons c A ih => rw [List.cons_append, extra, extra, ih, Nat.add_assoc]
theorem follows_congr (p q : List Int) (f : Int) : ∀ l : List Int, (∀ x ∈ l, rd q x = rd p x) → follows p f l → follows q f l
  | [], _, h => h
  | [x], hx, h => by
    unfold follows at h ⊢
    rw [hx x (by simp)]; exact h
  | x :: y :: r, hx, h => by
    unfold follows at h ⊢
    exact ⟨by rw [hx x (by simp)]; exact h.1, follows_congr p q f (y :: r) (fun z hz => hx z (by simp at hz ⊢; exact Or.inr hz)) h.2⟩
theorem isCyc_congr (p q : List Int) (c : List Int) (hx : ∀ x ∈ c, rd q x = rd p x) (h : isCyc p c) : isCyc q c := by
  cases c with
  | nil => exact h
  | cons a r => exact follows_congr p q a _ hx h
theorem invC_sorted : ∀ (l : List Int), l.Pairwise (· ≤ ·) → invC l = 0
  | [], _ => rfl
  | x :: r, h => by
    obtain ⟨h1, h2⟩ := List.pairwise_cons.1 h
    have : fewer x r = 0 := by
      clear h h2
      induction r with
      | nil => rfl
      | cons y r ih =>
        have hy := h1 y (by simp)
        rw [fewer, if_neg (by omega), ih (fun z hz => h1 z (by simp [hz]))]
    rw [invC, this, invC_sorted r h2]
theorem upFrom_pairwise : ∀ d i, (upFrom d i).Pairwise (· ≤ ·) ∧ ∀ x ∈ upFrom d i, (i : Int) ≤ x
  | 0, i => ⟨List.Pairwise.nil, by simp [upFrom]⟩
  | d + 1, i => by
    obtain ⟨h1, h2⟩ := upFrom_pairwise d (i + 1)
    refine ⟨List.pairwise_cons.2 ⟨fun y hy => by have := h2 y hy; omega, h1⟩, fun x hx => ?_⟩
    rcases List.mem_cons.1 hx with rfl | hx
    · exact Int.le_refl _
    · have := h2 x hx; omega
theorem invC_ident (n : Nat) : invC (ident n) = 0 := invC_sorted _ (upFrom_pairwise n 0).1
theorem rd_upFrom : ∀ (d i k : Nat), k < d → rd (upFrom d i) (k : Int) = ((i + k : Nat) : Int) := by
  intro d
  induction d with
  | zero => intro i k h; omega
  | succ d ih =>
    intro i k h
    cases k with
    | zero => rfl
    | succ k =>
      have := ih (i + 1) k (by omega)
      rw [rd_cast] at this ⊢
      rw [upFrom, List.getD_cons_succ, this]
      congr 1; omega
theorem rd_ident (n k : Nat) (h : k < n) : rd (ident n) (k : Int) = (k : Int) := by
  rw [ident, rd_upFrom n 0 k h, Nat.zero_add]
theorem ext_rd (p q : List Int) (hl : p.length = q.length) (h : ∀ i : Nat, i < p.length → rd p (i : Int) = rd q (i : Int)) : p = q := by
  refine List.ext_getElem hl (fun i h1 h2 => ?_)
  have := h i h1
  rwa [rd_lt p i h1, rd_lt q i h2] at this
/-- The parity of the inversions is that of what the cycles have beyond one each. -/
theorem cyc_parity : ∀ (t : Nat) (p : List Int) (C : List (List Int)), extra C = t → p.Nodup → IsDec p C → (invC p + t) % 2 = 0 := by
  intro t
  induction t with
  | zero =>
    intro p C ht hn hC
    have hone : ∀ (C : List (List Int)), extra C = 0 → ∀ c ∈ C, c.length ≤ 1 := by
      intro C
      induction C with
      | nil => intro _ c hc; cases hc
      | cons a C ih =>
        intro h c hc
        unfold extra at h
        rcases List.mem_cons.1 hc with rfl | hc
        · omega
        · exact ih (by omega) c hc
    have hid : p = ident p.length := by
      refine ext_rd _ _ (by rw [ident_length]) (fun i hi => ?_)
      rw [rd_ident _ _ hi]
      obtain ⟨c, hc, hi'⟩ := List.mem_flatten.1 (hC.all i hi)
      have h1 := hone C ht c hc
      have h2 := hC.cyc c hc
      match c, h1, h2, hi' with
      | [x], _, h2, hi' =>
        simp only [List.mem_singleton] at hi'
        subst hi'
        exact h2
      | _ :: _ :: _, h1, _, _ => simp at h1
    rw [hid, invC_ident]
  | succ t ih =>
    intro p C ht hn hC
    have hex : ∀ (C : List (List Int)), extra C = t + 1 → ∃ C1 c0 c1 r C2, C = C1 ++ (c0 :: c1 :: r) :: C2 := by
      intro C
      induction C with
      | nil => intro h; cases h
      | cons a C ih =>
        intro h
        match a with
        | [] =>
          obtain ⟨C1, c0, c1, r, C2, e⟩ := ih (by simpa [extra] using h)
          exact ⟨[] :: C1, c0, c1, r, C2, by rw [e]; rfl⟩
        | [x] =>
          obtain ⟨C1, c0, c1, r, C2, e⟩ := ih (by simpa [extra] using h)
          exact ⟨[x] :: C1, c0, c1, r, C2, by rw [e]; rfl⟩
        | c0 :: c1 :: r => exact ⟨[], c0, c1, r, C, rfl⟩
    obtain ⟨C1, c0, c1, r, C2, rfl⟩ := hex C ht
    have hcyc := hC.cyc (c0 :: c1 :: r) (by simp)
    have hnd := hC.nodup
    have m0 : c0 ∈ (C1 ++ (c0 :: c1 :: r) :: C2).flatten := List.mem_flatten.2 ⟨_, List.mem_append_right _ (List.mem_cons_self), by simp⟩
    have m1 : c1 ∈ (C1 ++ (c0 :: c1 :: r) :: C2).flatten := List.mem_flatten.2 ⟨_, List.mem_append_right _ (List.mem_cons_self), by simp⟩
    obtain ⟨a, rfl⟩ := Int.eq_ofNat_of_zero_le (hC.lt c0 m0).1
    obtain ⟨b, rfl⟩ := Int.eq_ofNat_of_zero_le (hC.lt c1 m1).1
    have ha : a < p.length := by have := (hC.lt _ m0).2; omega
    have hb : b < p.length := by have := (hC.lt _ m1).2; omega
    simp only [List.flatten_append, List.flatten_cons] at hnd
    obtain ⟨hd1, hd2, hd3⟩ := List.nodup_append.1 hnd
    obtain ⟨hd4, hd5, hd6⟩ := List.nodup_append.1 hd2
    obtain ⟨hd7, hd8⟩ := List.nodup_cons.1 hd4
    obtain ⟨hd9, hd10⟩ := List.nodup_cons.1 hd8
    have hab : a ≠ b := fun e => hd7 (by subst e; simp)
    have hpar := invC_swp p hn a b hab ha hb
    have hlen := swp_length p a b
    have hperm : (swp p a b).Nodup := by
      rcases Nat.lt_or_gt_of_ne hab with h | h
      · exact (swp_perm p a b h hb).nodup_iff.2 hn
      · rw [swp_comm p a b hab]; exact (swp_perm p b a h ha).nodup_iff.2 hn
    have hoff : ∀ x : Int, 0 ≤ x → x ≠ (a : Int) → x ≠ (b : Int) → rd (swp p a b) x = rd p x := by
      intro x h0 h1 h2
      obtain ⟨k, rfl⟩ := Int.eq_ofNat_of_zero_le h0
      rw [swp_rd p a b k ha hb, if_neg (by omega), if_neg (by omega)]
    have hat0 : rd (swp p a b) (a : Int) = rd p (b : Int) := by rw [swp_rd p a b a ha hb, if_neg (by omega), if_pos rfl]
    have hat1 : rd (swp p a b) (b : Int) = rd p (a : Int) := by rw [swp_rd p a b b ha hb, if_pos rfl]
    have hDec : IsDec (swp p a b) (C1 ++ ((a : Int) :: r) :: [(b : Int)] :: C2) := by
      have hflat : (C1 ++ ((a : Int) :: r) :: [(b : Int)] :: C2).flatten.Perm (C1 ++ ((a : Int) :: (b : Int) :: r) :: C2).flatten := by
        simp only [List.flatten_append, List.flatten_cons]
        refine List.Perm.append_left _ ?_
        rw [← List.append_assoc]
        refine List.Perm.append_right _ ?_
        rw [List.cons_append]
        exact List.Perm.cons _ (List.perm_append_comm (l₂ := [(b : Int)]))
      refine ⟨fun c hc => ?_, hflat.nodup_iff.2 hC.nodup, fun i hi => hflat.mem_iff.2 (hC.all i (by omega)), fun x hx => by have := hC.lt x (hflat.mem_iff.1 hx); omega⟩
      have hold : ∀ c, c ∈ C1 ∨ c ∈ C2 → isCyc (swp p a b) c := by
        intro c hc
        have hcC : c ∈ C1 ++ ((a : Int) :: (b : Int) :: r) :: C2 := by
          rcases hc with hc | hc
          · exact List.mem_append_left _ hc
          · exact List.mem_append_right _ (List.mem_cons_of_mem _ hc)
        refine isCyc_congr p _ c (fun x hx => ?_) (hC.cyc c hcC)
        have hxl := hC.lt x (List.mem_flatten.2 ⟨c, hcC, hx⟩)
        have hxn : ∀ z, z ∈ ((a : Int) :: (b : Int) :: r) → x ≠ z := by
          intro z hz e
          subst e
          rcases hc with hc | hc
          · exact hd3 x (List.mem_flatten.2 ⟨c, hc, hx⟩) x (List.mem_append_left _ hz) rfl
          · exact hd6 x hz x (List.mem_flatten.2 ⟨c, hc, hx⟩) rfl
        exact hoff x hxl.1 (hxn _ (by simp)) (hxn _ (by simp))
      have hfol : follows p (a : Int) ((a : Int) :: (b : Int) :: r) := hcyc
      unfold follows at hfol
      obtain ⟨hf1, hf2⟩ := hfol
      rcases List.mem_append.1 hc with hc | hc
      · exact hold c (Or.inl hc)
      · rcases List.mem_cons.1 hc with rfl | hc
        · show follows (swp p a b) (a : Int) ((a : Int) :: r)
          cases r with
          | nil =>
            unfold follows at hf2 ⊢
            rw [hat0]; exact hf2
          | cons c2 r =>
            unfold follows at hf2 ⊢
            refine ⟨by rw [hat0]; exact hf2.1, follows_congr p _ _ _ (fun x hx => ?_) hf2.2⟩
            have hxC : x ∈ (C1 ++ ((a : Int) :: (b : Int) :: c2 :: r) :: C2).flatten := List.mem_flatten.2 ⟨_, List.mem_append_right _ (List.mem_cons_self), by simp at hx ⊢; exact Or.inr (Or.inr hx)⟩
            exact hoff x (hC.lt x hxC).1 (fun e => hd7 (by rw [← e]; exact List.mem_cons_of_mem _ hx)) (fun e => hd9 (by rw [← e]; exact hx))
        · rcases List.mem_cons.1 hc with rfl | hc
          · show follows (swp p a b) (b : Int) [(b : Int)]
            unfold follows
            rw [hat1]; exact hf1
          · exact hold c (Or.inr hc)
    have hex2 : extra (C1 ++ ((a : Int) :: r) :: [(b : Int)] :: C2) = t := by
      rw [extra_append] at ht ⊢
      simp only [extra, List.length_cons, List.length_nil] at ht ⊢
      omega
    have := ih _ _ hex2 hperm hDec
    omega
end Go.Proofs.YtnddmmjofpfmfaaL
