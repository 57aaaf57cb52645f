-- Written for this claim by a program of this session (myprint.py) over the kit's printer.
import Derived.Test.YtmoobmeihckaiaaPAllx0
import Derived.Test.YtmoobmeihckaiaaPAllx2
namespace Go.Proofs.Ytmoobmeihckaiaa.PAll
open Go.RowKit Go.Proofs.YtmoobmeihckaiaaW.PrintWords Go.Proofs.YtmoobmeihckaiaaW.PrintLast Go.Proofs.YtmoobmeihckaiaaW.PrintMore
attribute [local go_sem] max2_int min2_int max_two min_two max_three min_three max_four min_four   -- for this text's walks alone
set_option linter.unusedVariables false
set_option linter.unusedSimpArgs false

/-! ### impl_isLadder: function 51 -/
def impl_isLadder.bad (n : Int) (x : Int) : Bool := !(decide (0 ≤ x) && decide (x ≤ n - 2))
def impl_isLadder.idx (p : Int → Bool) (l : List Int) : Int := if l.any p then ((l.findIdx p : Nat) : Int) else -1
def impl_isLadder.f (a0_0 : Int) (l0_1 : List Int) : Option Bool := some (decide (2 ≤ a0_0) && decide (a0_0 ≤ 8) && decide (l0_1.length ≤ 60) && !(l0_1.any (impl_isLadder.bad a0_0)))
theorem impl_isLadder.idx_hit (p : Int → Bool) (l : List Int) (i : Nat) (hi : i < l.length) (hp : p (rd l i) = true) (hb : ∀ j, j < i → p (rd l j) = false) : impl_isLadder.idx p l = (i : Int) := by
  have hg : ∀ j : Nat, ∀ h : j < l.length, rd l j = l[j] := fun j h => by
    show l.getD ((j : Int)).toNat 0 = _
    rw [Int.toNat_natCast, List.getD_eq_getElem?_getD, List.getElem?_eq_getElem h]; rfl
  have h1 : l.any p = true := List.any_eq_true.2 ⟨rd l i, by rw [hg i hi]; exact List.getElem_mem hi, hp⟩
  unfold impl_isLadder.idx
  rw [if_pos h1]
  congr 1
  refine (List.findIdx_eq hi).2 ⟨by rw [← hg i hi]; exact hp, fun j hj => ?_⟩
  have := hb j hj
  rw [hg j (by omega)] at this
  simpa using this
theorem impl_isLadder.idx_miss (p : Int → Bool) (l : List Int) (hb : ∀ j, j < l.length → p (rd l j) = false) : impl_isLadder.idx p l = -1 := by
  have h1 : ¬ l.any p = true := fun h => by
    obtain ⟨x, hx, hp⟩ := List.any_eq_true.1 h
    obtain ⟨j, hj, rfl⟩ := List.getElem_of_mem hx
    have h2 := hb j hj
    have hg : rd l j = l[j] := by
      show l.getD ((j : Int)).toNat 0 = _
      rw [Int.toNat_natCast, List.getD_eq_getElem?_getD, List.getElem?_eq_getElem hj]; rfl
    rw [hg, hp] at h2
    cases h2
  unfold impl_isLadder.idx
  rw [if_neg h1]
theorem impl_isLadder.idx_any (p : Int → Bool) (l : List Int) : decide (0 ≤ impl_isLadder.idx p l) = l.any p := by
  unfold impl_isLadder.idx
  cases h : l.any p
  · simp
  · simp [Int.natCast_nonneg]
set_option maxHeartbeats 400000 in
/-- The closure: is the number out of its bounds? -/
theorem impl_isLadder.clos (x n : Int) (g : Nat) (w : World) (h0 : 2 ≤ n) (h1 : n ≤ 8) (hc : w.cell? ⟨g, 0, none⟩ = some (.int .i64 n)) :
    Calls Try.prog 83 #[.int .i64 x, .pointer (some ⟨g, 0, none⟩)] w fun e w' => e = .returned (.bool (impl_isLadder.bad n x)) ∧ Drawn0 w w' := by
  have hb : impl_between.f x 0 (n - 2) = some (decide (0 ≤ x) && decide (x ≤ n - 2)) := by
    unfold impl_between.f
    by_cases h : x ≥ 0
    · rw [if_pos h]; simp [h]
    · rw [if_neg h]; simp [h]
  have HB := Aside0.mk hb
  clear hb
  go_enter Try.func83, Try.ntmps83
  go_wp2_with (go_at_call 52; (with_reducible refine (impl_between.calls _ _ _ _ _ HB.out).mono ?_); rintro e w' ⟨rfl, ⟨nd, rfl⟩⟩)
  go_ret
  exact ⟨by simp [impl_isLadder.bad], by repeat (first | exact Drawn0.refl _ | apply Drawn0.step)⟩
def impl_isLadder.Gives (n : Int) (g : Nat) (w : World) : Prop := ∀ (x : Int) (q : Nat), Calls Try.prog 83 #[.int .i64 x, .pointer (some ⟨g, 0, none⟩)] (w.drewN q) fun e w' => e = .returned (.bool (impl_isLadder.bad n x)) ∧ Drawn0 (w.drewN q) w'
set_option maxHeartbeats 1000000 in
set_option maxRecDepth 100000 in
theorem impl_isLadder.index (A0 : Option Addr) (c0 : Nat) (l0 : List Int) (n : Int) (g : Nat) (w : World) (hr0 : Kd.C (Kd.int .i64) w A0 l0.length l0) (hc0 : l0.length ≤ c0) (hG : impl_isLadder.Gives n g w) :
    Calls Try.prog 99 #[.slice A0 l0.length c0, .func (.func 83) #[] #[.pointer (some ⟨g, 0, none⟩)]] w fun e w' => e = .returned (.int .i64 (impl_isLadder.idx (impl_isLadder.bad n) l0)) ∧ Drawn0 w w' := by
  have HR0 := Aside0.mk hr0
  have HG := Aside0.mk hG
  have HN : l0.length ≤ 9223372036854775807 := hr0.2.1
  clear hr0 hc0 hG
  go_enter Try.func99, Try.ntmps99
  go_wp2
  go_loopg [5, 8] l0.length (fun gg _ s8 wr => ∃ kk q : Nat, kk ≤ l0.length ∧ l0.length - kk ≤ gg ∧ s8 = .int .i64 kk ∧ wr = w.drewN q ∧ Aside0 (∀ j : Nat, j < kk → impl_isLadder.bad n (rd l0 (j : Int)) = false))
  case atStart => exact ⟨0, 0, Nat.zero_le _, by omega, rfl, rfl, ⟨fun j hj => absurd hj (Nat.not_lt_zero _)⟩⟩
  case round =>
    obtain ⟨kk, q, hkk, hg, rfl, rfl, A⟩ := hrel
    by_cases hlt : kk < l0.length
    · have hltz : (kk : Int) < (l0.length : Int) := by omega
      obtain ⟨ad1, e1, hx0⟩ := Kd.at_int HR0.out (kk : Int) (Int.natCast_nonneg kk) hltz
      cases e1
      have hx : w.cell? (ad1.add kk) = some (.int .i64 (rd l0 (kk : Int))) := by rw [Int.toNat_natCast] at hx0; exact hx0
      clear hx0
      cases hq : impl_isLadder.bad n (rd l0 (kk : Int)) with
      | true =>
        have hcall := fun q => HG.out (rd l0 (kk : Int)) q
        rw [hq] at hcall
        have HC := Aside0.mk hcall
        have HQ := Aside0.mk hq
        clear hcall hq
        go_wp2_with (go_at_call 83; refine (HC.out _).mono ?_; rintro e w' ⟨rfl, ⟨q', rfl⟩⟩)
        go_ret
        refine ⟨?_, by repeat (first | exact Drawn0.refl _ | apply Drawn0.step)⟩
        rw [impl_isLadder.idx_hit _ l0 kk hlt HQ.out A.out]; rfl
      | false =>
        have hcall := fun q => HG.out (rd l0 (kk : Int)) q
        rw [hq] at hcall
        have HC := Aside0.mk hcall
        have HQ := Aside0.mk hq
        clear hcall hq
        go_wp2_with (go_at_call 83; refine (HC.out _).mono ?_; rintro e w' ⟨rfl, ⟨q', rfl⟩⟩)
        go_roundg (l0.length - (kk + 1))
        case measure => omega
        case rel =>
          refine ⟨kk + 1, _, by omega, by omega, by go_num, rfl, ⟨fun j hj => ?_⟩⟩
          by_cases e : j = kk
          · subst e; exact HQ.out
          · exact A.out j (by omega)
    · have hltz : ¬ (kk : Int) < (l0.length : Int) := by omega
      have hk : kk = l0.length := by omega
      subst hk
      go_wp2
      go_ret
      refine ⟨?_, by repeat (first | exact Drawn0.refl _ | apply Drawn0.step)⟩
      rw [impl_isLadder.idx_miss _ l0 A.out]; rfl
set_option maxHeartbeats 1000000 in
theorem impl_isLadder.contains (A0 : Option Addr) (c0 : Nat) (l0 : List Int) (n : Int) (g : Nat) (r : Bool) (w : World) (hr0 : Kd.C (Kd.int .i64) w A0 l0.length l0) (hc0 : l0.length ≤ c0) (hG : impl_isLadder.Gives n g w) (h : l0.any (impl_isLadder.bad n) = r) :
    Calls Try.prog 82 #[.slice A0 l0.length c0, .func (.func 83) #[] #[.pointer (some ⟨g, 0, none⟩)]] w fun e w' => e = .returned (.bool r) ∧ Drawn0 w w' := by
  have HI := Aside0.mk (impl_isLadder.index A0 c0 l0 n g w hr0 hc0 hG)
  have HA := Aside0.mk (impl_isLadder.idx_any (impl_isLadder.bad n) l0)
  have HH := Aside0.mk h
  clear hr0 hG h
  go_enter Try.func82, Try.ntmps82
  go_wp2_with (go_at_call 99; (with_reducible refine HI.out.mono ?_); rintro e w' ⟨rfl, ⟨nd, rfl⟩⟩)
  go_ret
  exact ⟨by rw [HA.out, HH.out]; rfl, by repeat (first | exact Drawn0.refl _ | apply Drawn0.step)⟩
set_option maxHeartbeats 2000000 in
set_option maxRecDepth 100000 in
theorem impl_isLadder.calls (a0_0 : Int) (A0_1 : Option Addr) (c0_1 : Nat) (l0_1 : List Int) (r : Bool) (w : World) (hr0_1 : Kd.C (Kd.int .i64) w A0_1 l0_1.length l0_1) (hc0_1 : l0_1.length ≤ c0_1) (h : impl_isLadder.f a0_0 l0_1 = some r) :
    Calls Try.prog 51 #[.agg #[.int .i64 a0_0, .slice A0_1 l0_1.length c0_1]] w fun e w' => e = .returned (.bool r) ∧ Below w.heap.size w w' := by
  have h' : (decide (2 ≤ a0_0) && decide (a0_0 ≤ 8) && decide (l0_1.length ≤ 60) && !(l0_1.any (impl_isLadder.bad a0_0))) = r := Option.some.inj h
  clear h
  by_cases hn : 2 ≤ a0_0 ∧ a0_0 ≤ 8
  · have hb : impl_between.f a0_0 2 8 = some true := by
      unfold impl_between.f
      rw [if_pos hn.1, decide_eq_true hn.2]
    have HB := Aside0.mk hb
    have HN := Aside0.mk hn
    by_cases hl : l0_1.length ≤ 60
    · have HR := Aside0.mk hr0_1
      have HC := Aside0.mk hc0_1
      have hlz : (l0_1.length : Int) ≤ 60 := by omega
      have hl0 : decide ((l0_1.length : Int) ≤ 60) = true := decide_eq_true hlz
      have hl1 : decide (l0_1.length ≤ 60) = true := decide_eq_true hl
      have hr : r = !(l0_1.any (impl_isLadder.bad a0_0)) := by rw [← h', decide_eq_true hn.1, decide_eq_true hn.2, decide_eq_true hl]; simp
      have HRR := Aside0.mk hr
      clear h' hb hn hr0_1 hc0_1 hr hl hlz
      go_enter Try.func51, Try.ntmps51
      go_wp2_with (first | (go_at_call 52; (with_reducible refine (impl_between.calls _ _ _ _ _ HB.out).mono ?_); rintro e w' ⟨rfl, ⟨nd, rfl⟩⟩) | (go_at_call 82; (with_reducible refine (impl_isLadder.contains A0_1 c0_1 l0_1 a0_0 w.heap.size _ _ ?side1 HC.out ?side2 rfl).mono ?_); (case side1 => exact Kd.C_drewN (Kd.C_alloc HR.out _) _); (case side2 => exact fun x q => impl_isLadder.clos x a0_0 w.heap.size _ HN.out.1 HN.out.2 (by simp [World.cell?_alloc_new])); rintro e w' ⟨rfl, ⟨nd2, rfl⟩⟩))
      go_ret
      exact ⟨by rw [HRR.out]; rfl, by repeat (first | exact Below.refl _ _ | apply pw_below_drewN | apply below_alloc)⟩
    · have hl0 : decide ((l0_1.length : Int) ≤ 60) = false := decide_eq_false (by omega)
      have hl1 : decide (l0_1.length ≤ 60) = false := decide_eq_false hl
      have hr : r = false := by rw [← h', decide_eq_false hl]; simp
      have HRR := Aside0.mk hr
      clear h' hb hn hr0_1 hc0_1 hr hl
      go_enter Try.func51, Try.ntmps51
      go_wp2_with (go_at_call 52; (with_reducible refine (impl_between.calls _ _ _ _ _ HB.out).mono ?_); rintro e w' ⟨rfl, ⟨nd, rfl⟩⟩)
      go_ret
      exact ⟨by rw [HRR.out]; rfl, by repeat (first | exact Below.refl _ _ | apply pw_below_drewN | apply below_alloc)⟩
  · have hb : impl_between.f a0_0 2 8 = some false := by
      unfold impl_between.f
      by_cases h1 : a0_0 ≥ 2
      · rw [if_pos h1, decide_eq_false (by omega)]
      · rw [if_neg h1]
    have HB := Aside0.mk hb
    have hr : r = false := by
      rw [← h']
      by_cases h1 : 2 ≤ a0_0
      · have h2 : ¬ a0_0 ≤ 8 := fun h2 => hn ⟨h1, h2⟩
        simp [h2]
      · simp [h1]
    have HRR := Aside0.mk hr
    clear h' hb hn hr0_1 hc0_1 hr
    go_enter Try.func51, Try.ntmps51
    go_wp2_with (go_at_call 52; (with_reducible refine (impl_between.calls _ _ _ _ _ HB.out).mono ?_); rintro e w' ⟨rfl, ⟨nd, rfl⟩⟩)
    go_ret
    exact ⟨by rw [HRR.out]; rfl, by repeat (first | exact Below.refl _ _ | apply pw_below_drewN | apply below_alloc)⟩

/-! ### slices_Delete_int_int: function 53 -/
def slices_Delete_int_int.f (l0 : List Int) (a1 : Int) (a2 : Int) : Option (List Int) := if 0 ≤ a1 then (if a1 ≤ a2 then (if a2 ≤ (l0.length : Int) then (some (l0.take a1.toNat ++ l0.drop a2.toNat)) else (none)) else (none)) else (none)
/-- Two stretches of a block written, one behind the other. -/
theorem slices_Delete_int_int.two {g cap : Nat} {cur : Array Value} {e : TypeId} {w0 W : World} {base i n' : Nat} {news zs : List Value} (hh : W.heap[g]? = some (.cells cur e (0, 0))) (hcs : cur.size = cap) (hi : i + news.length = n') (hn : n' + zs.length ≤ cap) (hb : base ≤ g) (hB : Below base w0 W) :
    ∃ cur', ((W.setCells g i news).setCells g n' zs).heap[g]? = some (.cells cur' e (0, 0)) ∧ cur'.size = cap ∧ cur'.toList.take n' = cur.toList.take i ++ news ∧ Below base w0 ((W.setCells g i news).setCells g n' zs) ∧ ∀ k, k ≠ g → ((W.setCells g i news).setCells g n' zs).heap[k]? = W.heap[k]? := by
  obtain ⟨c1, h1, h2, h3⟩ := setCells_row news i W cur hh (by omega)
  obtain ⟨c2, h4, h5, h6⟩ := setCells_row zs n' _ c1 h1 (by omega)
  obtain ⟨s1, s2, s3, s4⟩ := setCells_same g news i W
  obtain ⟨t1, t2, t3, t4⟩ := setCells_same g zs n' (W.setCells g i news)
  have hfar : ∀ k, k ≠ g → ((W.setCells g i news).setCells g n' zs).heap[k]? = W.heap[k]? := fun k hk => (setCells_far zs _ k hk).trans (setCells_far news _ k hk)
  refine ⟨c2, h4, by omega, ?_, ⟨by rw [t1, s1]; exact hB.os, by rw [t2, s2]; exact hB.tape, by rw [t3, s3]; exact hB.output, by rw [t4, s4]; exact hB.size, fun k hk => (hfar k (by omega)).trans (hB.block k hk)⟩, hfar⟩
  have hc1 : c1.toList.take n' = cur.toList.take i ++ news := by
    rw [h3]
    exact List.take_left' (by rw [List.length_append, List.length_take, Array.length_toList]; omega)
  rw [h6, List.append_assoc, List.take_append_of_le_length (by rw [List.length_take, Array.length_toList]; omega), List.take_take, Nat.min_self, hc1]
set_option maxHeartbeats 4000000 in
set_option maxRecDepth 100000 in
theorem slices_Delete_int_int.calls (P0_ : Nat → Prop) (u9000_ : Value) (l0 : List Int) (a1 : Int) (a2 : Int) (r : List Int) (w0 w : World) (hB : Below w0.heap.size w0 w) (ho0 : Kd.R (Kd.int .i64) 3 w w0.heap.size P0_ u9000_ l0) (h : slices_Delete_int_int.f l0 a1 a2 = some r) :
    Calls Try.prog 53 #[u9000_, .int .i64 a1, .int .i64 a2] w fun e w' => ∃ v0_ : Value, e = .returned (v0_) ∧ Kd.R (Kd.int .i64) 3 w' w0.heap.size (fun k_ => (P0_ k_ ∨ w.heap.size ≤ k_)) v0_ r ∧ Below w0.heap.size w0 w' ∧ Kept w w' (fun k_ => P0_ k_) := by
  unfold slices_Delete_int_int.f at h
  by_cases h1 : 0 ≤ a1
  · rw [if_pos h1] at h
    by_cases h2 : a1 ≤ a2
    · rw [if_pos h2] at h
      by_cases h3 : a2 ≤ (l0.length : Int)
      · rw [if_pos h3] at h
        obtain rfl := Option.some.inj h
        clear h
        obtain ⟨i, rfl⟩ := Int.eq_ofNat_of_zero_le h1
        obtain ⟨j, rfl⟩ := Int.eq_ofNat_of_zero_le (Int.le_trans h1 h2)
        simp only [Int.toNat_natCast]
        have hij : i ≤ j := by omega
        have hj : j ≤ l0.length := by omega
        clear h1 h2 h3
        have HO := Aside0.mk ho0
        have HB := Aside0.mk hB
        have hown := Kd.own_of_R (enc := Value.int .i64) (h1 := fun _ => rfl) ho0
        obtain ⟨A, n, hv⟩ := own_slice hown
        by_cases heq : i = j
        · subst heq
          have hr : l0.take i ++ l0.drop i = l0 := List.take_append_drop i l0
          rw [hr]
          obtain ⟨hlen, hcap, _⟩ : l0.length = l0.length ∧ l0.length ≤ n ∧ True := by
            have := Kd.R_reads' (hv ▸ ho0)
            exact ⟨rfl, this.2.1, trivial⟩
          have hm : n ≤ 9223372036854775807 := by
            rcases hown.2 with ⟨hv', hn⟩ | ⟨g, cap, cur, hv', hb, hh, hnc, hcm, hcs, ht⟩
            · rw [hv'] at hv; injection hv with _ _ hc; omega
            · rw [hv'] at hv; injection hv with _ _ hc; simp only [maxLen] at hcm; omega
          have HV := Aside0.mk hv
          have h0 : Calls Try.prog 53 #[.slice A l0.length n, .int .i64 i, .int .i64 i] w fun e w' => e = .returned (.slice A l0.length n) ∧ w' = w := by
            clear hv hown ho0 hB HO HB HV hr hlen
            go_enter Try.func53, Try.ntmps53
            go_wp2
            all_goals (go_ret; exact ⟨rfl, rfl⟩)
          rw [HV.out]
          refine h0.mono ?_
          rintro e w' ⟨rfl, rfl⟩
          exact ⟨_, rfl, Kd.R_mono (HV.out ▸ HO.out) (fun k hk => .inl hk), HB.out, Kept.refl _ _⟩
        · have hlt : i < j := by omega
          rcases hown.2 with ⟨hv', hn⟩ | ⟨g, cap, cur, hv', hb, hh, hnc, hcm, hcs, ht⟩
          · exact absurd hn (by omega)
          · subst hv'
            clear hv
            rw [Nat.mul_one] at hcs ht
            simp only [maxLen] at hcm
            obtain ⟨news, hnews⟩ : ∃ news, news = (l0.drop j).map (Value.int .i64) := ⟨_, rfl⟩
            have hlen : news.length = l0.length - j := by rw [hnews]; simp
            have hcur : ∀ q, q < l0.length → cur[q]? = some (.int .i64 (l0.getD q 0)) := by
              intro q hq
              have e1 : cur.toList[q]? = (encs (Value.int .i64) l0)[q]? := by rw [← ht, List.getElem?_take, if_pos hq]
              rw [← Array.getElem?_toList, e1, encs_get (d := (0 : Int)) l0 q hq]
            have hcell : ∀ q, q < l0.length → w.cell? ⟨g, q, none⟩ = some (.int .i64 (l0.getD q 0)) := fun q hq => by rw [cell_of_row w g q cur 3 (0, 0) hh]; exact hcur q hq
            obtain ⟨AA, hAA, hsrc⟩ : ∃ AA : Addr, (if cap = j then some (⟨g, 0, none⟩ : Addr) else some ⟨g, j, none⟩) = some AA ∧ Aside0 (∀ t u, news[t]? = some u → w.drew.cell? (AA.add t) = some u) := by
              by_cases hcj : cap = j
              · refine ⟨⟨g, 0, none⟩, by simp [hcj], ⟨fun t u hu => ?_⟩⟩
                have h0 : news.length = 0 := by rw [hlen]; omega
                rw [List.length_eq_zero_iff.1 h0] at hu
                simp at hu
              · refine ⟨⟨g, j, none⟩, by simp [hcj], ⟨fun t u hu => ?_⟩⟩
                have ht' : t < l0.length - j := by
                  have := (List.getElem?_eq_some_iff.1 hu).1
                  rwa [hlen] at this
                rw [hnews, List.getElem?_map, List.getElem?_drop, List.getElem?_eq_getElem (by omega)] at hu
                simp only [Option.map_some, Option.some.injEq] at hu
                rw [add_at]
                show w.cell? ⟨g, j + t, none⟩ = some u
                rw [hcell (j + t) (by omega), ← hu, List.getD_eq_getElem?_getD, List.getElem?_eq_getElem (by omega)]
                rfl
            have s1 : Aside0 (news.length = (l0.length - j) * 1) := ⟨by rw [Nat.mul_one]; exact hlen⟩
            have s2 : Aside0 (∀ u ∈ news, u.oneCell' = true) := ⟨by
              intro u hu
              rw [hnews] at hu
              obtain ⟨x, _, rfl⟩ := List.mem_map.1 hu
              rfl⟩
            have s3 : Aside0 (∀ t, t < news.length → (w.drew.cell? ⟨g, 0 + i * 1 + t, none⟩).isSome = true ∧ w.drew.frozen? ⟨g, 0 + i * 1 + t, none⟩ = false) := ⟨by
              intro t ht'
              rw [hlen] at ht'
              rw [Nat.mul_one, Nat.zero_add]
              refine ⟨?_, ?_⟩
              · show (w.cell? ⟨g, i + t, none⟩).isSome = true
                rw [hcell (i + t) (by omega)]; rfl
              · show w.frozen? ⟨g, i + t, none⟩ = false
                exact blk_frozen hh _⟩
            obtain ⟨n', hn'⟩ : ∃ n', n' = i + (l0.length - j) := ⟨_, rfl⟩
            obtain ⟨cur', k1, k2, k3, k4, k5⟩ := slices_Delete_int_int.two (W := w.drew) (w0 := w0) (base := w0.heap.size) (zs := List.replicate (j - i) (Value.int .i64 0)) (news := news) (i := i) (n' := n') hh hcs (by omega) (by rw [List.length_replicate]; omega) hb (below_drew1 hB)
            have hel : (l0.take i ++ l0.drop j).length = n' := by simp; omega
            have hRR : Kd.R (Kd.int .i64) 3 ((w.drew.setCells g i news).setCells g n' (List.replicate (j - i) (Value.int .i64 0))) w0.heap.size (fun k_ => (P0_ k_ ∨ w.heap.size ≤ k_)) (.slice (some ⟨g, 0, none⟩) n' cap) (l0.take i ++ l0.drop j) := by
              refine Kd.R_of_own (enc := Value.int .i64) (h1 := fun _ => rfl) ?_ (fun k hk => .inl (ho0.1 k (by rw [← hk]; simp [Value.ownBlock])))
              rw [hel]
              refine ⟨by rw [encs_length, hel, Nat.mul_one], .inr ⟨g, cap, cur', rfl, hb, k1, by omega, by simp only [maxLen]; omega, by omega, ?_⟩⟩
              rw [Nat.mul_one, k3, hnews]
              have e2 : cur.toList.take i = (encs (Value.int .i64) l0).take i := by
                rw [← ht, List.take_take, Nat.min_eq_left (by omega)]
              rw [e2]
              simp [encs]
            have HRR := Aside0.mk hRR
            have HK4 := Aside0.mk k4
            have HKept : Aside0 (Kept w ((w.drew.setCells g i news).setCells g n' (List.replicate (j - i) (Value.int .i64 0))) (fun k_ => P0_ k_)) := by
              obtain ⟨_, _, _, t4⟩ := setCells_same g (List.replicate (j - i) (Value.int .i64 0)) n' (w.drew.setCells g i news)
              obtain ⟨_, _, _, s4⟩ := setCells_same g news i w.drew
              exact ⟨⟨by rw [t4, s4]; exact Nat.le_refl _, fun k hk hP => k5 k (fun e => hP (by subst e; exact ho0.1 k (by simp [Value.ownBlock])))⟩⟩
            obtain ⟨W1, hW1⟩ : ∃ W1, W1 = w.drew.setCells g (0 + i * 1) news := ⟨_, rfl⟩
            have hW1' : W1 = w.drew.setCells g i news := by rw [hW1, Nat.mul_one, Nat.zero_add]
            obtain ⟨cur1, q1, q2, _⟩ := setCells_row news i w.drew cur hh (by omega)
            have hcl : ∀ ty, (Builtin.clear_ #[22] ty #[.slice (some ⟨g, n', none⟩) (l0.length - n') (cap - n')]).run Try.prog W1 = .ok (.tuple #[]) (W1.setCells g n' (List.replicate (l0.length - n') (Value.int .i64 0))) :=
              fun ty => Lib.run_clear_slice W1 22 3 ty (.int .i64 0) Try.underlying22 (fun w => by kernel_rfl) rfl rfl g n' _ _ (by omega) (fun t ht' => by rw [hW1', cell_of_row _ g _ cur1 3 (0, 0) q1, Array.getElem?_eq_getElem (by omega)]; rfl) (fun t ht' => by rw [hW1']; exact blk_frozen q1 _)
            have HW1' := Aside0.mk hW1'
            have HW1 := Aside0.mk hW1
            have HN' := Aside0.mk hn'
            have hic : i ≤ cap := by omega
            have hjc : j ≤ cap := by omega
            obtain ⟨i0, hi0, hz0, hz1, hz2⟩ := info_parts info3
            have E1 := Aside0.mk (show l0.length - n' = j - i by omega)
            have E2 := Aside0.mk (show i + (l0.length - j) = n' by omega)
            have B1 : n' ≤ cap := by omega
            have B2 : n' ≤ l0.length := by omega
            have B3 : n' < cap := by omega
            clear hW1 hW1' hh hcur hcell hnews hlen ht hRR k4 k5 k3 k2 k1 hown ho0 hB hel q1 q2 hn' hcs
            go_enter Try.func53, Try.ntmps53
            go_wp2_with fail
            go_region_law (refine step_append_room rfl (.tmp 22) (.tmp 25) 22 rfl 3 i0 1 Try.underlying22 hi0 hz1 g 0 i cap (by simp [Act.eval, Act.put]) AA (l0.length - j) (cap - j) news (by simp [Act.eval, Act.put]) s1.out hsrc.out s2.out (by omega) s3.out ?_; rw [← HW1.out, E2.out])
            go_wp2
            go_ret
            refine ⟨_, rfl, ?_, ?_, ?_⟩
            · rw [HW1'.out, E1.out]; exact HRR.out
            · rw [HW1'.out, E1.out]; exact HK4.out
            · rw [HW1'.out, E1.out]; exact HKept.out
      · rw [if_neg h3] at h; cases h
    · rw [if_neg h2] at h; cases h
  · rw [if_neg h1] at h; cases h

/-! ### slices_Clone_int_int: function 54 -/
def slices_Clone_int_int.f (l0 : List Int) : Option (List Int) := if l0.length < 17592186044416 then (some l0) else (none)
set_option maxHeartbeats 2000000 in
set_option maxRecDepth 100000 in
theorem slices_Clone_int_int.calls (A0 : Option Addr) (c0 : Nat) (l0 : List Int) (r : List Int) (w : World) (hr0 : Kd.C (Kd.int .i64) w A0 l0.length l0) (hc0 : l0.length ≤ c0) (h : slices_Clone_int_int.f l0 = some r) :
    Calls Try.prog 54 #[.slice A0 l0.length c0] w fun e w' => ∃ v0_ : Value, e = .returned (v0_) ∧ Kd.R (Kd.int .i64) 3 w' w.heap.size (fun _ => True) v0_ r ∧ Below w.heap.size w w' := by
  have HR0 := Aside0.mk hr0
  have hz : A0 = none → l0 = [] := fun e => by
    rcases Nat.eq_zero_or_pos l0.length with h0 | h0
    · exact List.eq_nil_of_length_eq_zero h0
    · obtain ⟨ad, hA, _⟩ := hr0.2.2 h0
      rw [e] at hA; cases hA
  unfold slices_Clone_int_int.f at h
  by_cases hl : l0.length < 17592186044416
  · rw [if_pos hl] at h
    obtain rfl := Option.some.inj h
    have HL := Aside0.mk hl
    clear hl h hr0 hc0
    have hnil := fun (w : World) (a : Option Addr) (n c : Nat) => Lib.run_eql_slice_nil (P := Try.prog) w 22 3 a n c 0 0 Try.underlying22
    cases A0 with
    | none =>
      obtain rfl := hz rfl
      clear hz
      go_enter Try.func54, Try.ntmps54
      go_wp2
      go_ret
      exact ⟨_, rfl, Kd.R_nil _ _ _ _ _, by repeat (first | exact Below.refl _ _ | apply pw_below_drewN | apply below_drew1)⟩
    | some ad =>
      clear hz
      have HB := Aside0.mk (Below.refl w.heap.size w)
      obtain ⟨y1, hy1⟩ : ∃ y_ : List Int, y_ = (([] : List Int)) := ⟨_, rfl⟩
      have Ny1 := Aside0.mk hy1
      obtain ⟨y2, hy2⟩ : ∃ y_ : List Int, y_ = (y1 ++ l0) := ⟨_, rfl⟩
      have Ny2 := Aside0.mk hy2
      have NE := Aside0.mk (show y2 = l0 by rw [hy2, hy1]; rfl)
      have LM := Aside0.mk (show y1.length + l0.length < 17592186044416 by rw [hy1]; simpa using HL.out)
      clear hy1 hy2
      go_enter Try.func54, Try.ntmps54
      go_wp2_with (first | ((with_reducible refine gate_dst (N := 5) rfl ?_); refine Kd.R_lit (Kd.int .i64) _ 3 ?hg (N := 5) ?hd (xs := ([] : List Int)) (inner := []) (ok := fun _ => True) (okp := fun _ => True) ?hr ?hp (fun _ hk => hk) trivial (Below.refl _ _) (Nat.le_refl _) (by simp) ?_; (case hd => rfl); (case hg => rfl); (case hr => first | (go_simp; done) | (go_simp; rfl)); (case hp => exact (Reps.none _ _)); intro v1 w3 ho4 hb hg_ hnew_; clear hg_ hnew_; (first | rw [← Ny1.out] at ho4 | (simp only [Int.reduceToNat] at ho4; rw [← Ny1.out] at ho4)); have n0_ := Aside0.mk (Kd.R_lower ho4 (below_size HB.out)); have n1_ := Aside0.mk (below_step HB.out hb); clear HB; have HO1 := n0_; have HB := n1_; clear n0_ n1_; clear hb ho4) | ((with_reducible refine gate_builtin (b := .append) (xs := #[.tmp 5, .tmp 6]) rfl ?_); at_builtin; refine Kd.R_append_rows (Kd.int .i64) (w0 := w) w.heap.size rfl (.tmp 5) (.tmp 6) 22 3 (.int .i64 0) 8 rfl Try.underlying22 info3 rfl (by decide) (by omega) v1 y1 l0 _ _ _ (fun _ => True) (fun _ => False) rfl rfl ?aO ?aR (fun _ _ h => h) (fun _ h => h.elim) ?aF ?aB ?aS ?aL ?_; (case aR => repeat (first | exact (Kd.C_below HR0.out HB.out) | (with_reducible refine Kd.C_alloc ?_ _) | (with_reducible refine Kd.C_drewN ?_ _) | (with_reducible refine Kd.C_drew ?_))); (case aB => exact HB.out); (case aF => exact (fun _ _ => trivial)); (case aO => exact (by (with_reducible repeat (first | apply Kd.R_alloc | apply Kd.R_drewN | apply Kd.R_drew)); exact HO1.out)); (case aS => exact (below_size HB.out)); (case aL => have := LM.out; omega); intro v2 w5 ho hb hg hat; rw [← Ny2.out, NE.out] at ho; have n0_ := Aside0.mk (hb); have n1_ := Aside0.mk (ho); clear HB; clear HO1; have HB := n0_; have HO2 := n1_; clear n0_ n1_; clear ho hb hg hat))
      go_ret
      exact ⟨_, by rfl, by (with_reducible repeat (first | apply Kd.R_alloc | apply Kd.R_drewN | apply Kd.R_drew)); exact HO2.out, by repeat (first | (with_reducible first | exact HB.out | apply below_alloc | apply pw_below_drewN | apply below_drew1) | exact HB.out)⟩
  · rw [if_neg hl] at h
    cases h

end Go.Proofs.Ytmoobmeihckaiaa.PAll
