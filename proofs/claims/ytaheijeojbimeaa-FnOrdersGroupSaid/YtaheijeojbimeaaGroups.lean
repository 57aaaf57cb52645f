/- Plain laws of this session on orders: signs multiply, backs undo, cycles begin with their least place. No program in sight. -/
import Derived.Test.YtaheijeojbimeaaTwices
import Derived.Test.YtaheijeojbimeaaSigns
namespace Go.Proofs.YtaheijeojbimeaaL
open Go.RowKit Go.Proofs.YtaheijeojbimeaaW.PrintWords
set_option linter.unusedVariables false
set_option linter.unusedSimpArgs false

theorem walkM_head (p : List Int) : ∀ (f : Nat) (seen : List Bool) (acc : List Int) (j : Int) (s : List Bool) (c : List Int), walkM p f seen acc j = some (s, c) → ∃ t, c = acc ++ t ∧ (t = [] ∨ ∃ r, t = j :: r)
  | 0, _, _, _, _, _, h => by cases h
  | f + 1, seen, acc, j, s, c, h => by
    unfold walkM at h
    split at h
    · cases h; exact ⟨[], by simp, Or.inl rfl⟩
    · obtain ⟨t, h1, h2⟩ := walkM_head p f _ _ _ s c h
      exact ⟨j :: t, by rw [h1]; simp, Or.inr ⟨t, rfl⟩⟩
structure HInv (C : List (List Int)) (i : Nat) : Prop where
  least : ∀ c ∈ C, ∃ h r, c = h :: r ∧ h < (i : Int) ∧ ∀ x ∈ c, h ≤ x
  inc : C.Pairwise (fun a b => rd a ((0 : Nat) : Int) < rd b ((0 : Nat) : Int))
theorem cycM_heads (p : List Int) (hp : p.Nodup) (h8 : p.length ≤ 8) (hr : ∀ x ∈ p, 0 ≤ x ∧ x < p.length) : ∀ (d i : Nat) (seen : List Bool) (C : List (List Int)), i + d = p.length → CInv p seen C i → HInv C i → ∃ R, cycM p d i seen C = some R ∧ HInv R p.length := by
  intro d
  induction d with
  | zero =>
    intro i seen C hd hI hH
    obtain rfl : i = p.length := by omega
    exact ⟨C, rfl, hH⟩
  | succ d ih =>
    intro i seen C hd hI hH
    unfold cycM
    have hi : i < p.length := by omega
    have hH' : HInv C (i + 1) := ⟨fun c hc => by obtain ⟨h, r, e, h1, h2⟩ := hH.least c hc; exact ⟨h, r, e, by omega, h2⟩, hH.inc⟩
    by_cases hs : rdOf false seen (i : Int) = true
    · have e : walkM p 9 seen [] (i : Int) = some (seen, []) := by unfold walkM; rw [if_pos hs]
      rw [e]
      refine ih (i + 1) seen C (by omega) ⟨hI.len, hI.at_, hI.cyc, hI.nodup, hI.lt, fun k hk => ?_⟩ hH'
      rcases Nat.lt_or_ge k i with h | h
      · exact hI.done_ k h
      · obtain rfl : k = i := by omega
        exact (hI.at_ k hi).1 hs
    · have hni : (i : Int) ∉ C.flatten := fun h => hs ((hI.at_ i hi).2 h)
      obtain ⟨s, c, hw, hcyc, hl, hat, hn, hx, hm⟩ := walk_ok p hp hr C hI.cyc hI.lt (i : Int) hni 9 seen [] (i : Int) (by simp; omega) hI.len (fun k hk => by rw [hI.at_ k hk]; simp) List.nodup_nil (by simp) ⟨by omega, by omega⟩ (Or.inl ⟨rfl, rfl⟩)
      rw [hw]
      have hpos : c.length > 0 := List.length_pos_of_mem hm
      show ∃ R, cycM p d (i + 1) s (if c.length > 0 then C ++ [c] else C) = some R ∧ HInv R p.length
      rw [if_pos hpos]
      have hfl : (C ++ [c]).flatten = C.flatten ++ c := by simp
      obtain ⟨t, ht1, ht2⟩ := walkM_head p 9 seen [] (i : Int) s c hw
      rw [List.nil_append] at ht1
      subst ht1
      obtain ⟨r, hcr⟩ : ∃ r, c = (i : Int) :: r := by
        rcases ht2 with e | e
        · subst e; simp at hpos
        · exact e
      refine ih (i + 1) s (C ++ [c]) (by omega) ⟨hl, fun k hk => by rw [hat k hk, hfl, List.mem_append], fun c' hc' => ?_, ?_, fun x hxx => ?_, fun k hk => ?_⟩ ⟨fun c' hc' => ?_, ?_⟩
      · rcases List.mem_append.1 hc' with h | h
        · exact hI.cyc c' h
        · simp only [List.mem_singleton] at h
          subst h; exact hcyc
      · rw [hfl, List.nodup_append]
        exact ⟨hI.nodup, hn, fun a ha b hb e => (hx b hb).1 (e ▸ ha)⟩
      · rw [hfl] at hxx
        rcases List.mem_append.1 hxx with h | h
        · exact hI.lt x h
        · exact (hx x h).2
      · rw [hfl]
        rcases Nat.lt_or_ge k i with h | h
        · exact List.mem_append_left _ (hI.done_ k h)
        · obtain rfl : k = i := by omega
          exact List.mem_append_right _ hm
      · rcases List.mem_append.1 hc' with h | h
        · exact hH'.least c' h
        · simp only [List.mem_singleton] at h
          subst h
          refine ⟨(i : Int), r, hcr, by omega, fun x hxx => ?_⟩
          have h1 := hx x hxx
          have h2 : 0 ≤ x := h1.2.1
          rcases Int.lt_or_le x (i : Int) with h3 | h3
          · exact absurd (by have := hI.done_ x.toNat (by omega); rwa [show ((x.toNat : Nat) : Int) = x by omega] at this) h1.1
          · exact h3
      · rw [List.pairwise_append]
        refine ⟨hH.inc, by simp, fun a ha b hb => ?_⟩
        simp only [List.mem_singleton] at hb
        subst hb
        obtain ⟨h, r', e, h1, h2⟩ := hH.least a ha
        rw [e, hcr]
        show h < (i : Int)
        exact h1
theorem cycles_heads (p : List Int) (h : isOrd p = true) {C : List (List Int)} (hC : cyclesM p = some C) : HInv C p.length := by
  obtain ⟨h1, h2⟩ := isOrd_all h
  obtain ⟨R, hR, hH⟩ := cycM_heads p h2 (isOrd_len h).2 h1 p.length 0 (List.replicate p.length false) [] (by omega) ⟨by simp, fun k hk => by rw [rdOf_cast, List.getD_eq_getElem?_getD, List.getElem?_replicate, if_pos hk]; simp, by simp, by simp, by simp, by simp⟩ ⟨by simp, by simp⟩
  have : some C = some R := hC.symm.trans hR
  cases this
  exact hH
/-- All cycles have as many places as the order. -/
theorem dec_len {p : List Int} {C : List (List Int)} (h : IsDec p C) : C.flatten.length = p.length := by
  have := (perm_subset (ident p.length) C.flatten (ident_nodup _) (fun x hx => ?_) ?_).length_eq
  · rw [ident_length] at this; exact this.symm
  · have h1 := (ident_mem _ x).1 hx
    have := h.all x.toNat (by omega)
    rwa [show ((x.toNat : Nat) : Int) = x by omega] at this
  · rw [ident_length]
    refine Nat.le_antisymm ?_ ?_
    · have : (ident p.length).length ≤ C.flatten.length := by
        have hs : ∀ (l m : List Int), l.Nodup → (∀ x ∈ l, x ∈ m) → l.length ≤ m.length := by
          intro l
          induction l with
          | nil => intro m _ _; exact Nat.zero_le _
          | cons x l ih =>
            intro m hn hm
            rw [List.nodup_cons] at hn
            have hx := hm x (by simp)
            have := ih (m.erase x) hn.2 (fun y hy => (List.mem_erase_of_ne (fun e => hn.1 (by rw [← e]; exact hy))).2 (hm y (by simp [hy])))
            rw [List.length_erase_of_mem hx] at this
            have := List.length_pos_of_mem hx
            rw [List.length_cons]; omega
        refine hs _ _ (ident_nodup _) (fun x hx => ?_)
        have h1 := (ident_mem _ x).1 hx
        have := h.all x.toNat (by omega)
        rwa [show ((x.toNat : Nat) : Int) = x by omega] at this
      rwa [ident_length] at this
    · exact nodup_bound p.length _ h.nodup h.lt
theorem isOrd_thenL {a b : List Int} (ha : isOrd a = true) (hb : isOrd b = true) (hl : a.length = b.length) : isOrd (thenL a b) = true := by
  have h8 := isOrd_len ha
  have h1 := isOrd_all ha
  have h2 := isOrd_all hb
  unfold isOrd
  rw [thenL_length, if_pos h8]
  refine ordGo_of _ _ [] (fun x hx => ?_) ?_
  · unfold thenL at hx
    obtain ⟨y, hy, rfl⟩ := List.mem_map.1 hx
    have h3 := h1.1 y hy
    obtain ⟨j, rfl⟩ := Int.eq_ofNat_of_zero_le h3.1
    have h4 := isOrd_rd hb j (by omega)
    exact ⟨h4.1, by omega, by simp⟩
  · unfold thenL
    rw [List.nodup_iff_pairwise_ne, List.pairwise_map]
    refine List.Pairwise.imp_of_mem (fun {x y} hx hy hxy e => hxy ?_) h1.2
    have h3 := h1.1 x hx
    have h4 := h1.1 y hy
    exact rd_inj h2.2 x y ⟨h3.1, by omega⟩ ⟨h4.1, by omega⟩ e
theorem thenL_swp (a b : List Int) (j : Nat) (hj : j + 1 < a.length) : thenL (swp a j (j + 1)) b = swp (thenL a b) j (j + 1) := by
  refine ext_rd _ _ (by rw [thenL_length, swp_length, swp_length, thenL_length]) (fun i hi => ?_)
  rw [thenL_length, swp_length] at hi
  rw [thenL_rd _ _ i (by rw [swp_length]; exact hi), swp_rd _ _ _ i (by omega) hj, swp_rd _ _ _ i (by rw [thenL_length]; omega) (by rw [thenL_length]; omega), thenL_rd _ _ i hi, thenL_rd _ _ j (by omega), thenL_rd _ _ (j + 1) hj]
  split
  · rfl
  · split <;> rfl
theorem thenL_ident (b : List Int) : thenL (ident b.length) b = b := by
  refine ext_rd _ _ (by rw [thenL_length, ident_length]) (fun i hi => ?_)
  rw [thenL_length, ident_length] at hi
  rw [thenL_rd _ _ i (by rw [ident_length]; exact hi), rd_ident _ i hi]
/-- The inversions of one order and then another one: those of both, but for an even number. -/
theorem inv_then (b : List Int) (hb : isOrd b = true) : ∀ (k : Nat) (a : List Int), invC a = k → isOrd a = true → a.length = b.length → (invC (thenL a b) + invC a + invC b) % 2 = 0
  | 0, a, hk, ha, hl => by
    have hd : desc a = [] := by
      cases e : desc a with
      | nil => rfl
      | cons x r => obtain ⟨j, rfl, hj, hr, hc⟩ := desc_head e; omega
    have e := desc_none ha hd
    rw [e, hl, thenL_ident, invC_ident]
    omega
  | k + 1, a, hk, ha, hl => by
    cases e : desc a with
    | nil =>
      have := desc_none ha e
      rw [this, invC_ident] at hk
      cases hk
    | cons x r =>
      obtain ⟨j, rfl, hj, hr, hc⟩ := desc_head e
      have ih := inv_then b hb k (swp a j (j + 1)) (by omega) (isOrd_swp ha j hj) (by rw [swp_length]; exact hl)
      rw [thenL_swp a b j hj] at ih
      have h1 := invC_swp (thenL a b) (isOrd_all (isOrd_thenL ha hb hl)).2 j (j + 1) (by omega) (by rw [thenL_length]; omega) (by rw [thenL_length]; omega)
      omega
theorem sgn_mul (x y z : Nat) (h : (z + x + y) % 2 = 0) : sgn 1 x * sgn 1 y = sgn 1 z := by
  unfold sgn
  by_cases hx : x % 2 = 0
  · by_cases hy : y % 2 = 0
    · rw [if_pos hx, if_pos hy, if_pos (by omega)]; rfl
    · rw [if_pos hx, if_neg hy, if_neg (by omega)]; rfl
  · by_cases hy : y % 2 = 0
    · rw [if_neg hx, if_pos hy, if_neg (by omega)]; rfl
    · rw [if_neg hx, if_neg hy, if_pos (by omega)]; rfl
theorem backGo_at (p : List Int) (hp : isOrd p = true) : ∀ (d i : Nat) (acc : List Int), i + d = p.length → acc.length = p.length → ∀ k : Nat, k < p.length → rd (backGo p d i acc) (rd p (k : Int)) = if i ≤ k then (k : Int) else rd acc (rd p (k : Int))
  | 0, i, acc, hd, hl, k, hk => by rw [if_neg (by omega)]; rfl
  | d + 1, i, acc, hd, hl, k, hk => by
    have hi := isOrd_rd hp i (by omega)
    have hkk := isOrd_rd hp k hk
    rw [backGo, backGo_at p hp d (i + 1) _ (by omega) (by rw [List.length_set]; exact hl) k hk]
    have e : rd p (k : Int) = (((rd p (k : Int)).toNat : Nat) : Int) := by omega
    by_cases h : i + 1 ≤ k
    · rw [if_pos h, if_pos (by omega)]
    · rw [if_neg h]
      by_cases h2 : i = k
      · subst h2
        rw [if_pos (Nat.le_refl _), e, rd_set _ _ _ _ (by omega), if_pos (by omega)]
      · have hne : rd p (i : Int) ≠ rd p (k : Int) := fun z => by
          have := rd_inj (isOrd_all hp).2 _ _ (by omega) (by omega) z
          omega
        rw [if_neg (by omega), e, rd_set _ _ _ _ (by omega), if_neg (by omega)]
theorem backL_rd (p : List Int) (hp : isOrd p = true) (k : Nat) (hk : k < p.length) : rd (backL p) (rd p (k : Int)) = (k : Int) := by
  unfold backL
  rw [backGo_at p hp p.length 0 _ (by omega) (by simp) k hk, if_pos (Nat.zero_le _)]
theorem isOrd_surj {p : List Int} (hp : isOrd p = true) (x : Nat) (hx : x < p.length) : ∃ k : Nat, k < p.length ∧ rd p (k : Int) = (x : Int) := by
  have h1 : (x : Int) ∈ p := (isOrd_perm hp).mem_iff.2 ((ident_mem _ _).2 ⟨by omega, by omega⟩)
  obtain ⟨k, hk, e⟩ := List.mem_iff_getElem.1 h1
  exact ⟨k, hk, by rw [rd_lt p k hk]; exact e⟩
theorem isOrd_backL {p : List Int} (hp : isOrd p = true) : isOrd (backL p) = true := by
  have h8 := isOrd_len hp
  have hl := backL_length p
  unfold isOrd
  rw [hl, if_pos h8]
  have hv : ∀ x : Nat, x < p.length → ∃ k : Nat, k < p.length ∧ rd p (k : Int) = (x : Int) ∧ rd (backL p) (x : Int) = (k : Int) := fun x hx => by
    obtain ⟨k, hk, e⟩ := isOrd_surj hp x hx
    exact ⟨k, hk, e, by rw [← e, backL_rd p hp k hk]⟩
  refine ordGo_of _ _ [] (fun x hx => ?_) ?_
  · obtain ⟨i, hi, e⟩ := List.mem_iff_getElem.1 hx
    obtain ⟨k, hk, _, e2⟩ := hv i (by omega)
    rw [rd_lt _ i hi, e] at e2
    subst e2
    exact ⟨by omega, by omega, by simp⟩
  · rw [List.nodup_iff_pairwise_ne, List.pairwise_iff_getElem]
    intro i j hi hj hij e
    obtain ⟨k, hk, e1, e2⟩ := hv i (by omega)
    obtain ⟨m, hm, e3, e4⟩ := hv j (by omega)
    rw [rd_lt _ i hi] at e2
    rw [rd_lt _ j hj] at e4
    rw [e2, e4] at e
    have : k = m := by omega
    subst this
    rw [e1] at e3
    omega
theorem then_back (p : List Int) (hp : isOrd p = true) : thenL p (backL p) = ident p.length := by
  refine ext_rd _ _ (by rw [thenL_length, ident_length]) (fun i hi => ?_)
  rw [thenL_length] at hi
  rw [thenL_rd _ _ i hi, backL_rd p hp i hi, rd_ident _ i hi]
theorem back_then (a b : List Int) (ha : isOrd a = true) (hb : isOrd b = true) (hl : a.length = b.length) : backL (thenL a b) = thenL (backL b) (backL a) := by
  have ho := isOrd_thenL ha hb hl
  refine ext_rd _ _ (by rw [backL_length, thenL_length, thenL_length, backL_length]; exact hl) (fun i hi => ?_)
  rw [backL_length] at hi
  obtain ⟨k, hk, e⟩ := isOrd_surj ho i hi
  rw [← e, backL_rd _ ho k hk]
  rw [thenL_length] at hk hi
  rw [e, thenL_rd _ _ i (by rw [backL_length]; omega), ← e, thenL_rd _ _ k hk]
  have h2 := isOrd_rd ha k hk
  obtain ⟨j, hj⟩ := Int.eq_ofNat_of_zero_le h2.1
  rw [hj, backL_rd b hb j (by omega), ← hj, backL_rd a ha k hk]
theorem desc_ident (n : Nat) : desc (ident n) = [] := by
  cases e : desc (ident n) with
  | nil => rfl
  | cons a r => obtain ⟨j, rfl, hj, hr, hc⟩ := desc_head e; rw [invC_ident] at hc; omega
theorem isOrd_pw {p : List Int} (hp : isOrd p = true) : ∀ t, isOrd (pw p t) = true
  | 0 => hp
  | t + 1 => by
    show isOrd (thenL (pw p t) p) = true
    exact isOrd_thenL (isOrd_pw hp t) hp (pw_length p t)
theorem pw_sorted {p : List Int} (hp : isOrd p = true) (t : Nat) : desc (pw p t) = [] ↔ pw p t = ident p.length := by
  constructor
  · intro h
    have := desc_none (isOrd_pw hp t) h
    rwa [pw_length] at this
  · intro h; rw [h]; exact desc_ident _
end Go.Proofs.YtaheijeojbimeaaL
