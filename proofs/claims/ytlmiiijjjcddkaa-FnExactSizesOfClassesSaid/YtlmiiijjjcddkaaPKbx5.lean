-- Written for this claim by a program of this session (myprint.py) over the kit's printer.
import Derived.Test.YtlmiiijjjcddkaaPKbx0
import Derived.Test.YtlmiiijjjcddkaaPKbx3
import Derived.Test.YtlmiiijjjcddkaaPKbx4
namespace Go.Proofs.Ytlmiiijjjcddkaa.PKb
noncomputable section
open Go.RowKit Go.Proofs.YtlmiiijjjcddkaaW.PrintWords Go.Proofs.YtlmiiijjjcddkaaW.PrintLast Go.Proofs.YtlmiiijjjcddkaaW.PrintMore
attribute [local go_sem] max2_int min2_int max_two min_two max_three min_three max_four min_four   -- for this text's walks alone
open List (setIfInBounds_toArray set_cons_zero set_cons_succ)
set_option maxHeartbeats 8000000
set_option maxRecDepth 100000
set_option linter.unusedVariables false
set_option linter.unusedSimpArgs false
theorem pRq5 {α : Type} {d : Kd α} {e base : Nat} {ok : Nat → Prop} {v : Value} {xs : List α} {w W : World} (h0 : Aside0 (Kd.R d e w base ok v xs)) (hp : Kd.R d e W base ok v xs := by (with_reducible repeat (first | apply Kd.R_alloc | apply Kd.R_drewN | apply Kd.R_drew)); exact Aside0.out (by with_reducible assumption)) : Kd.R d e W base ok v xs := hp
theorem pKq5 {g : Nat} {o : Obj} {w W : World} (h0 : Aside0 (w.heap[g]? = some o)) (hp : W.heap[g]? = some o := by (with_reducible repeat (first | refine blk_drewN ?_ _ | refine blk_drew ?_ | refine blk_alloc ?_ _)); exact Aside0.out (by with_reducible assumption)) : W.heap[g]? = some o := hp
theorem pBq5 {b : Nat} {w0 w W : World} (h0 : Aside0 (Below b w0 w)) (hp : Below b w0 W := by repeat (first | (with_reducible first | exact Aside0.out (by assumption) | apply below_alloc | apply pw_below_drewN | apply below_drew1 | refine below_set ?_ (Aside0.out (by assumption))))) : Below b w0 W := hp
/-! ### slices_Delete_int_int: function 59 -/
def slices_Delete_int_int.f (l0 : List Int) (a1 : Int) (a2 : Int) : Option (List Int) := if 0 ≤ a1 then (if a1 ≤ a2 then (if a2 ≤ (l0.length : Int) then (some (l0.take a1.toNat ++ l0.drop a2.toNat)) else (none)) else (none)) else (none)
/-- Two stretches of a block written, one behind the other. -/
theorem slices_Delete_int_int.two {g cap : Nat} {cur : Array Value} {e : TypeId} {w0 W : World} {base i n' : Nat} {news zs : List Value} (hh : W.heap[g]? = some (.cells cur e (0, 0))) (hcs : cur.size = cap) (hi : i + news.length = n') (hn : n' + zs.length ≤ cap) (hb : base ≤ g) (hB : Below base w0 W) :
  ∃ cur', ((W.setCells g i news).setCells g n' zs).heap[g]? = some (.cells cur' e (0, 0)) ∧ cur'.size = cap ∧ cur'.toList.take n' = cur.toList.take i ++ news ∧ Below base w0 ((W.setCells g i news).setCells g n' zs) ∧ ∀ k, k ≠ g → ((W.setCells g i news).setCells g n' zs).heap[k]? = W.heap[k]? := by
 obtain ⟨c1, h1, h2, h3⟩ := setCells_row news i W cur hh zq10
 obtain ⟨c2, h4, h5, h6⟩ := setCells_row zs n' _ c1 h1 zq10
 obtain ⟨s1, s2, s3, s4⟩ := setCells_same g news i W
 obtain ⟨t1, t2, t3, t4⟩ := setCells_same g zs n' (W.setCells g i news)
 have hfar : ∀ k, k ≠ g → ((W.setCells g i news).setCells g n' zs).heap[k]? = W.heap[k]? := fun k hk => (setCells_far zs _ k hk).trans (setCells_far news _ k hk)
 refine ⟨c2, h4, zq10, ?_, ⟨by rw [t1, s1]; exact hB.os, by rw [t2, s2]; exact hB.tape, by rw [t3, s3]; exact hB.output, by rw [t4, s4]; exact hB.size, fun k hk => (hfar k zq10).trans (hB.block k hk)⟩, hfar⟩
 have hc1 : c1.toList.take n' = cur.toList.take i ++ news := by
  rw [h3]
  exact List.take_left' (by rw [List.length_append, List.length_take, Array.length_toList]; omega)
 rw [h6, List.append_assoc, List.take_append_of_le_length (by rw [List.length_take, Array.length_toList]; omega), List.take_take, Nat.min_self, hc1]
set_option maxHeartbeats 4000000 in
set_option maxRecDepth 100000 in
theorem slices_Delete_int_int.calls (P0_ : Nat → Prop) (u9000_ : Value) (l0 : List Int) (a1 : Int) (a2 : Int) (r : List Int) (w0 w : World) (hB : Below w0.heap.size w0 w) (ho0 : Kd.R (Kd.int .i64) 3 w w0.heap.size P0_ u9000_ l0) (h : slices_Delete_int_int.f l0 a1 a2 = some r) :
  Calls Try.prog 59 #[u9000_, .int .i64 a1, .int .i64 a2] w fun e w' => ∃ v0_ : Value, e = .returned (v0_) ∧ Kd.R (Kd.int .i64) 3 w' w0.heap.size (fun k_ => (P0_ k_ ∨ w.heap.size ≤ k_)) v0_ r ∧ Below w0.heap.size w0 w' ∧ Kept w w' (fun k_ => P0_ k_) := by
 unfold slices_Delete_int_int.f at h
 by_cases h1 : 0 ≤ a1
 ·rw [if_pos h1] at h
  by_cases h2 : a1 ≤ a2
  ·rw [if_pos h2] at h
   by_cases h3 : a2 ≤ (l0.length : Int)
   ·rw [if_pos h3] at h
    obtain rfl := Option.some.inj h
    clear h
    obtain ⟨i, rfl⟩ := Int.eq_ofNat_of_zero_le h1
    obtain ⟨j, rfl⟩ := Int.eq_ofNat_of_zero_le (Int.le_trans h1 h2)
    simp only [Int.toNat_natCast]
    have hij : i ≤ j := zq10
    have hj : j ≤ l0.length := zq10
    clear h1 h2 h3
    have HO := am ho0
    have HB := am hB
    have hown := Kd.own_of_R (enc := Value.int .i64) (h1 := fun _ => rfl) ho0
    obtain ⟨A, n, hv⟩ := own_slice hown
    by_cases heq : i = j
    ·subst heq
     have hr : l0.take i ++ l0.drop i = l0 := List.take_append_drop i l0
     rw [hr]
     obtain ⟨hlen, hcap, _⟩ : l0.length = l0.length ∧ l0.length ≤ n ∧ True := by
      have := Kd.R_reads' (hv ▸ ho0)
      exact ⟨rfl, this.2.1, trivial⟩
     have hm : n ≤ 9223372036854775807 := by
      rcases hown.2 with ⟨hv', hn⟩ | ⟨g, cap, cur, hv', hb, hh, hnc, hcm, hcs, ht⟩
      ·rw [hv'] at hv; injection hv with _ _ hc; omega
      ·rw [hv'] at hv; injection hv with _ _ hc; simp only [maxLen] at hcm; omega
     have HV := am hv
     have h0 : Calls Try.prog 59 #[.slice A l0.length n, .int .i64 i, .int .i64 i] w fun e w' => e = .returned (.slice A l0.length n) ∧ w' = w := by
      clear hv hown ho0 hB HO HB HV hr hlen
      go_enter Try.func59, Try.ntmps59
      go_wp2
      all_goals (go_ret; exact ⟨rfl, rfl⟩)
     rw [HV.out]
     refine h0.mono ?_
     rintro e w' ⟨rfl, rfl⟩
     exact ⟨_, rfl, Kd.R_mono (HV.out ▸ HO.out) (fun k hk => .inl hk), HB.out, Kept.refl _ _⟩
    ·have hlt : i < j := zq10
     rcases hown.2 with ⟨hv', hn⟩ | ⟨g, cap, cur, hv', hb, hh, hnc, hcm, hcs, ht⟩
     ·exact absurd hn zq10
     ·subst hv'
      clear hv
      rw [Nat.mul_one] at hcs ht
      simp only [maxLen] at hcm
      obtain ⟨news, hnews⟩ : ∃ news, news = (l0.drop j).map (Value.int .i64) := ⟨_, rfl⟩
      have hlen : news.length = l0.length - j := by rw [hnews]; simp
      have hcur : ∀ q, q < l0.length → cur[q]? = some (.int .i64 (l0.getD q 0)) := by
       intro q hq
       have e1 : cur.toList[q]? = (encs (Value.int .i64) l0)[q]? := by rw [← ht, List.getElem?_take, if_pos hq]
       rw [← Array.getElem?_toList, e1, encs_get (d := (0 : Int)) l0 q hq]
      have hcell : ∀ q, q < l0.length → w.cell? ⟨g, q, none⟩ = some (.int .i64 (l0.getD q 0)) := fun q hq => by rw [cell_of_row w g q cur 3 (0, 0) hh]; exact hcur q hq
      obtain ⟨AA, hAA, hsrc⟩ : ∃ AA : Addr, (if cap = j then some (⟨g, 0, none⟩ : Addr) else some ⟨g, j, none⟩) = some AA ∧ Aside0 (∀ t u, news[t]? = some u → w.drew.cell? (AA.add t) = some u) := by
       by_cases hcj : cap = j
       ·refine ⟨⟨g, 0, none⟩, by simp [hcj], ⟨fun t u hu => ?_⟩⟩
        have h0 : news.length = 0 := by rw [hlen]; omega
        rw [List.length_eq_zero_iff.1 h0] at hu
        simp at hu
       ·refine ⟨⟨g, j, none⟩, by simp [hcj], ⟨fun t u hu => ?_⟩⟩
        have ht' : t < l0.length - j := by
         have := (List.getElem?_eq_some_iff.1 hu).1
         rwa [hlen] at this
        rw [hnews, List.getElem?_map, List.getElem?_drop, List.getElem?_eq_getElem zq10] at hu
        simp only [Option.map_some, Option.some.injEq] at hu
        rw [add_at]
        show w.cell? ⟨g, j + t, none⟩ = some u
        rw [hcell (j + t) zq10, ← hu, List.getD_eq_getElem?_getD, List.getElem?_eq_getElem zq10]
        rfl
      have s1 : Aside0 (news.length = (l0.length - j) * 1) := ⟨by rw [Nat.mul_one]; exact hlen⟩
      have s2 : Aside0 (∀ u ∈ news, u.oneCell' = true) := ⟨by
       intro u hu
       rw [hnews] at hu
       obtain ⟨x, _, rfl⟩ := List.mem_map.1 hu
       rfl⟩
      have s3 : Aside0 (∀ t, t < news.length → (w.drew.cell? ⟨g, 0 + i * 1 + t, none⟩).isSome = true ∧ w.drew.frozen? ⟨g, 0 + i * 1 + t, none⟩ = false) := ⟨by
       intro t ht'
       rw [hlen] at ht'
       rw [Nat.mul_one, Nat.zero_add]
       refine ⟨?_, ?_⟩
       ·show (w.cell? ⟨g, i + t, none⟩).isSome = true
        rw [hcell (i + t) zq10]; rfl
       ·show w.frozen? ⟨g, i + t, none⟩ = false
        exact blk_frozen hh _⟩
      obtain ⟨n', hn'⟩ : ∃ n', n' = i + (l0.length - j) := ⟨_, rfl⟩
      obtain ⟨cur', k1, k2, k3, k4, k5⟩ := slices_Delete_int_int.two (W := w.drew) (w0 := w0) (base := w0.heap.size) (zs := List.replicate (j - i) (Value.int .i64 0)) (news := news) (i := i) (n' := n') hh hcs zq10 (by rw [List.length_replicate]; omega) hb (below_drew1 hB)
      have hel : (l0.take i ++ l0.drop j).length = n' := by simp; omega
      have hRR : Kd.R (Kd.int .i64) 3 ((w.drew.setCells g i news).setCells g n' (List.replicate (j - i) (Value.int .i64 0))) w0.heap.size (fun k_ => (P0_ k_ ∨ w.heap.size ≤ k_)) (.slice (some ⟨g, 0, none⟩) n' cap) (l0.take i ++ l0.drop j) := by
       refine Kd.R_of_own (enc := Value.int .i64) (h1 := fun _ => rfl) ?_ (fun k hk => .inl (ho0.1 k (by rw [← hk]; simp [Value.ownBlock])))
       rw [hel]
       refine ⟨by rw [encs_length, hel, Nat.mul_one], .inr ⟨g, cap, cur', rfl, hb, k1, zq10, by simp only [maxLen]; omega, zq10, ?_⟩⟩
       rw [Nat.mul_one, k3, hnews]
       have e2 : cur.toList.take i = (encs (Value.int .i64) l0).take i := by
        rw [← ht, List.take_take, Nat.min_eq_left zq10]
       rw [e2]
       simp [encs]
      have HRR := am hRR
      have HK4 := am k4
      have HKept : Aside0 (Kept w ((w.drew.setCells g i news).setCells g n' (List.replicate (j - i) (Value.int .i64 0))) (fun k_ => P0_ k_)) := by
       obtain ⟨_, _, _, t4⟩ := setCells_same g (List.replicate (j - i) (Value.int .i64 0)) n' (w.drew.setCells g i news)
       obtain ⟨_, _, _, s4⟩ := setCells_same g news i w.drew
       exact ⟨⟨by rw [t4, s4]; exact Nat.le_refl _, fun k hk hP => k5 k (fun e => hP (by subst e; exact ho0.1 k (by simp [Value.ownBlock])))⟩⟩
      obtain ⟨W1, hW1⟩ : ∃ W1, W1 = w.drew.setCells g (0 + i * 1) news := ⟨_, rfl⟩
      have hW1' : W1 = w.drew.setCells g i news := by rw [hW1, Nat.mul_one, Nat.zero_add]
      obtain ⟨cur1, q1, q2, _⟩ := setCells_row news i w.drew cur hh zq10
      have hcl : ∀ ty, (Builtin.clear_ #[22] ty #[.slice (some ⟨g, n', none⟩) (l0.length - n') (cap - n')]).run Try.prog W1 = .ok (.tuple #[]) (W1.setCells g n' (List.replicate (l0.length - n') (Value.int .i64 0))) :=
       fun ty => Lib.run_clear_slice W1 22 3 ty (.int .i64 0) Try.underlying22 (fun w => by kernel_rfl) rfl rfl g n' _ _ zq10 (fun t ht' => by rw [hW1', cell_of_row _ g _ cur1 3 (0, 0) q1, Array.getElem?_eq_getElem zq10]; rfl) (fun t ht' => by rw [hW1']; exact blk_frozen q1 _)
      have HW1' := am hW1'
      have HW1 := am hW1
      have HN' := am hn'
      have hic : i ≤ cap := zq10
      have hjc : j ≤ cap := zq10
      obtain ⟨i0, hi0, hz0, hz1, hz2⟩ := info_parts info3
      have E1 := am (show l0.length - n' = j - i by omega)
      have E2 := am (show i + (l0.length - j) = n' by omega)
      have B1 : n' ≤ cap := zq10
      have B2 : n' ≤ l0.length := zq10
      have B3 : n' < cap := zq10
      clear hW1 hW1' hh hcur hcell hnews hlen ht hRR k4 k5 k3 k2 k1 hown ho0 hB hel q1 q2 hn' hcs
      go_enter Try.func59, Try.ntmps59
      go_wp2_with fail
      go_region_law (refine step_append_room rfl (.tmp 22) (.tmp 25) 22 rfl 3 i0 1 Try.underlying22 hi0 hz1 g 0 i cap (by simp [Act.eval, Act.put]) AA (l0.length - j) (cap - j) news (by simp [Act.eval, Act.put]) s1.out hsrc.out s2.out zq10 s3.out ?_; rw [← HW1.out, E2.out])
      go_wp2
      go_ret
      refine ⟨_, rfl, ?_, ?_, ?_⟩
      ·rw [HW1'.out, E1.out]; exact HRR.out
      ·rw [HW1'.out, E1.out]; exact HK4.out
      ·rw [HW1'.out, E1.out]; exact HKept.out
   ·rw [if_neg h3] at h; cases h
  ·rw [if_neg h2] at h; cases h
 ·rw [if_neg h1] at h; cases h
/-! ### impl_without: function 43 -/
def impl_without.f (l0 : List Int) (a1 : Int) : Option (List Int) := (slices_Clone_int_int.f l0).bind fun t254 => ((slices_Delete_int_int.f t254 a1 (wrap64 (a1 + 1))).bind fun t257 => (some t257))
theorem impl_without.calls (A0 : Option Addr) (c0 : Nat) (l0 : List Int) (a1 : Int) (r : List Int) (w : World) (hr0 : Kd.C (Kd.int .i64) w A0 l0.length l0) (hc0 : l0.length ≤ c0) (h : impl_without.f l0 a1 = some r) :
  Calls Try.prog 43 #[.slice A0 l0.length c0, .int .i64 a1] w fun e w' => ∃ v0_ : Value, e = .returned (v0_) ∧ Kd.R (Kd.int .i64) 3 w' w.heap.size (fun _ => True) v0_ r ∧ Below w.heap.size w w' := by
 have HR0 := am hr0
 have HC0 := am hc0
 clear hr0 hc0
 have HB := am (Below.refl w.heap.size w)
 have H : ((slices_Clone_int_int.f l0).bind fun t254 => ((slices_Delete_int_int.f t254 a1 (wrap64 (a1 + 1))).bind fun t257 => (some t257))) = some r := h
 clear h
 obtain ⟨t254, A3, H⟩ := zS H
 (try dsimp only at H)
 obtain ⟨t257, A4, H⟩ := zS H
 (try dsimp only at H)
 obtain rfl := Option.some.inj H
 go_enter Try.func43, Try.ntmps43
 go_wp2_with (first | ((with_reducible refine gate_callee (f := 48) rfl ?_); refine goesL_ (some 6) rfl rfl Try.func48 zq20 rfl #[.slice A0 l0.length c0] rfl zq2 ?_; (with_reducible refine (slices_Clone_int_int.calls _ _ l0 t254 _ ?side1 ?side2 A3.out).mono ?_); (case side1 => exact zq9); (case side2 => exact HC0.out); rintro e w5 ⟨v255, rfl, ho0, hb⟩; refine ⟨_, rfl, ?_⟩; have HO256 := am (Kd.R_lower ho0 (below_size (pBq5 HB))); replace HB := am (below_step (pBq5 HB) hb); (try clear hb ho0); obtain ⟨Ao6, co6, eo6⟩ := Kd.R_slice HO256.out; subst eo6) | ((with_reducible refine gate_callee (f := 59) rfl ?_); refine goesL_ (some 10) rfl rfl Try.func59 zq20 rfl #[.slice Ao6 t254.length co6, .int .i64 a1, .int .i64 (wrap64 (a1 + 1))] rfl zq2 ?_; (with_reducible refine (slices_Delete_int_int.calls (fun k_ => some k_ = (.slice Ao6 t254.length co6 : Value).ownBlock) (.slice Ao6 t254.length co6) t254 a1 (wrap64 (a1 + 1)) t257 w _ ?side1 ?side2 A4.out).mono ?_); (case side1 => exact zq1); (case side2 => exact Kd.R_tight rfl HO256.out); rintro e w7 ⟨v258, rfl, ho0, hb, hkp⟩; refine ⟨_, rfl, ?_⟩; have HO259 := am (Kd.R_mono (ok' := fun k_ => True) ho0 (fun k_ hk_ => trivial)); replace HB := am (hb); clear HO256; (try clear hb hkp ho0)))
 go_ret
 exact ⟨_, zq6, by (with_reducible repeat (first | apply Kd.R_alloc | apply Kd.R_drewN | apply Kd.R_drew)); exact HO259.out, zq1⟩
/-! ### impl_firstSame: function 29 -/
def impl_firstSame.l0 : Nat → List Int → List Int → Option (List Int)
 | 0, _, _ => none
 | k + 1, x0, x3 => if (x0.length : Int) > 0 then ((impl_firsts.f x0).bind fun t263 => (if 0 < (t263.length : Int) then (if 0 ≤ (rd t263 0) then (if (rd t263 0) < (x0.length : Int) then (if x3.length < 17592186044416 then ((impl_without.f x0 (rd t263 0)).bind fun t271 => (impl_firstSame.l0 k t271 (x3 ++ [rd x0 (rd t263 0)]))) else (none)) else (none)) else (none)) else (none))) else (some x3)
def impl_firstSame.f (k : Nat) (l0 : List Int) : Option (List Int) := impl_firstSame.l0 k l0 (([] : List Int))
theorem impl_firstSame.mono_l : ∀ k, (∀ y0 y1, LeO (impl_firstSame.l0 k y0 y1) (impl_firstSame.l0 (k + 1) y0 y1))
 | 0 => fun _ _ r h => by simp [impl_firstSame.l0] at h
 | k + 1 => by
  have ih0 := impl_firstSame.mono_l k
  ·intro y0 y1
   unfold impl_firstSame.l0
   repeat' first | (with_reducible first | exact ih0 _ _ | exact LeO.refl _ | exact LeO.none _ | refine LeO.ite ?_ ?_ | refine LeO.bind ?_ (fun _ => ?_))
theorem impl_firstSame.mono : ∀ a0 k, LeO (impl_firstSame.f k a0) (impl_firstSame.f (k + 1) a0) := by
 intro a0 k
 have ih0 := impl_firstSame.mono_l k
 unfold impl_firstSame.f
 repeat' first | (with_reducible first | exact ih0 _ _ | exact LeO.refl _ | exact LeO.none _ | refine LeO.ite ?_ ?_ | refine LeO.bind ?_ (fun _ => ?_))
theorem impl_firstSame.calls (k : Nat) (P0_ : Nat → Prop) (A0 : Option Addr) (c0 : Nat) (l0 : List Int) (r : List Int) (w : World) (hs0 : Kd.V (Kd.int .i64) 3 w w.heap.size (fun k_ => P0_ k_) (.slice A0 l0.length c0) l0) (h : impl_firstSame.f k l0 = some r) :
  Calls Try.prog 29 #[.slice A0 l0.length c0] w fun e w' => ∃ v0_ : Value, e = .returned (v0_) ∧ Kd.R (Kd.int .i64) 3 w' w.heap.size (fun k_ => (w.heap.size ≤ k_)) v0_ r ∧ Below w.heap.size w w' := by
 have HO0 := am (show Kd.V (Kd.int .i64) 3 w w.heap.size (fun k_ => (P0_ k_ ∨ w.heap.size ≤ k_)) (.slice A0 l0.length c0) l0 from Kd.V_mono hs0 (fun k_ hk => .inl hk))
 have HB := am (Below.refl w.heap.size w)
 have H : (impl_firstSame.l0 k l0 (([] : List Int))) = some r := h
 clear h
 obtain ⟨y260, hy260⟩ : ∃ y_ : List Int, y_ = (([] : List Int)) := ⟨_, rfl⟩
 replace H : (impl_firstSame.l0 k l0 y260) = some r := by first | (rw [hy260]; exact zH) | exact zH
 have Ny260 := am hy260
 clear hy260
 have H' := am H
 clear H
 go_enter Try.func29, Try.ntmps29
 go_wp2_with (first | ((with_reducible refine gate_dst (N := 5) rfl ?_); refine Kd.R_lit (Kd.int .i64) _ 3 ?hg (N := 5) ?hd (xs := ([] : List Int)) (inner := []) (ok := fun _ => True) (okp := fun _ => True) ?hr ?hp (fun _ hk => hk) trivial (Below.refl _ _) (Nat.le_refl _) zq24 ?_; (case hd => rfl); (case hg => rfl); (case hr => exact zq8); (case hp => exact (Reps.none _ _)); intro v261 w2 ho3 hb hg_ hnew_; clear hg_ hnew_; (first | rw [← Ny260.out] at ho3 | (simp only [Int.reduceToNat] at ho3; rw [← Ny260.out] at ho3)); have HO262 := am (Kd.R_lower (Kd.R_newM (M := fun k_ => (w.heap.size ≤ k_)) ho3 (below_size (pBq5 HB)) (fun k_ h_ => h_)) (below_size (pBq5 HB))); replace HO0 := am (Kd.V_elder' (by (with_reducible repeat (first | apply Kd.V_alloc | apply Kd.V_drewN | apply Kd.V_drew)); exact HO0.out) (Kd.R_base ho3) hb); replace HB := am (below_step (pBq5 HB) hb); clear hb ho3))
 go_loopg [0, 3] k (fun kq v0 v3 w' => ∃ (x0_1 : List Int) (x3_1 : List Int), Aside0 (impl_firstSame.l0 kq x0_1 x3_1 = some r) ∧ Aside0 (kq ≤ k) ∧ Aside0 (Kd.V (Kd.int .i64) 3 w' w.heap.size (fun k_ => (P0_ k_ ∨ w.heap.size ≤ k_) ∧ some k_ ≠ (v3 : Value).ownBlock) v0 x0_1) ∧ Aside0 (Kd.R (Kd.int .i64) 3 w' w.heap.size (fun k_ => (w.heap.size ≤ k_)) v3 x3_1) ∧ Aside0 (Below w.heap.size w w'))
 case atStart => exact ⟨(l0), (y260), H', ⟨Nat.le_refl _⟩, ⟨by (with_reducible repeat (first | apply Kd.V_alloc | apply Kd.V_drewN | apply Kd.V_drew)); exact HO0.out⟩, ⟨by (with_reducible repeat (first | apply Kd.R_alloc | apply Kd.R_drewN | apply Kd.R_drew)); exact Kd.R_mono HO262.out (fun _ hk => hk.1)⟩, ⟨zq1⟩⟩
 case round =>
  clear H'
  try clear c2
  try clear p2
  obtain ⟨x0_1, x3_1, HA, HK1, HO_0, HO_3, HB⟩ := hrel
  cases gk with
  | zero => exact absurd HA.out (by simp [impl_firstSame.l0])
  | succ k1 =>
   have H := HA.out
   clear HA
   simp only [impl_firstSame.l0] at H
   by_cases c4 : (x0_1.length : Int) > 0
   ·rw [if_pos c4] at H
    have c4b0 : decide (0 < (x0_1.length : Int)) = true := decide_eq_true c4
    have c4b1 : decide (0 < x0_1.length) = true := decide_eq_true zq10
    clear c4
    obtain ⟨t263, A5, H⟩ := zS H
    (try dsimp only at H)
    by_cases c6 : 0 < (t263.length : Int)
    ·rw [if_pos c6] at H
     have c6b0 : decide (0 < (t263.length : Int)) = true := decide_eq_true c6
     have c6b1 : decide (0 < t263.length) = true := decide_eq_true zq10
     clear c6
     by_cases c7 : 0 ≤ (rd t263 0)
     ·rw [if_pos c7] at H
      have c7b0 : decide (0 ≤ (rd t263 0)) = true := decide_eq_true c7
      clear c7
      by_cases c8 : (rd t263 0) < (x0_1.length : Int)
      ·rw [if_pos c8] at H
       have c8b0 : decide ((rd t263 0) < (x0_1.length : Int)) = true := decide_eq_true c8
       clear c8
       by_cases c9 : x3_1.length < 17592186044416
       ·rw [if_pos c9] at H
        have LMc9 := am c9
        clear c9
        obtain ⟨y268, hy268⟩ : ∃ y_ : List Int, y_ = (x3_1 ++ [rd x0_1 (rd t263 0)]) := ⟨_, rfl⟩
        replace H : ((impl_without.f x0_1 (rd t263 0)).bind fun t271 => (impl_firstSame.l0 k1 t271 y268)) = some r := by first | (rw [hy268]; exact zH) | exact zH
        have Ny268 := am hy268
        clear hy268
        obtain ⟨t271, A10, H⟩ := zS H
        (try dsimp only at H)
        have H' := am H
        clear H
        obtain ⟨Ao11, co11, eo11⟩ := Kd.V_slice HO_0.out
        subst eo11
        go_wp2_with (first | ((with_reducible refine gate_callee (f := 42) rfl ?_); refine goesL_ (some 10) rfl rfl Try.func42 zq20 rfl #[.slice Ao11 x0_1.length co11] rfl zq2 ?_; (with_reducible refine (impl_firsts.calls _ _ x0_1 t263 _ ?side1 ?side2 A5.out).mono ?_); (case side1 => exact zq77); (case side2 => exact (Kd.V_reads' HO_0.out).2.1); rintro e w12 ⟨v264, rfl, ho0, hb⟩; refine ⟨_, rfl, ?_⟩; have HO265 := am (Kd.R_lower (Kd.R_new' (Kd.R_newM (M := fun k_ => (w.heap.size ≤ k_)) ho0 (below_size (pBq5 HB)) (fun k_ h_ => h_)) (Kd.R_lt (pRq5 HO_3))) (below_size (pBq5 HB))); replace HO_0 := am (Kd.V_elder' (by (with_reducible repeat (first | apply Kd.V_alloc | apply Kd.V_drewN | apply Kd.V_drew)); exact HO_0.out) (Kd.R_base ho0) hb); replace HO_3 := am (Kd.R_elder' (pRq5 HO_3) (Kd.R_base ho0) hb); replace HB := am (below_step (pBq5 HB) hb); (try clear hb ho0); obtain ⟨Ao13, co13, eo13⟩ := Kd.R_slice HO265.out; subst eo13; have p266 : 0 ≤ (0 : Int) := zq10; have q266 : 0 < (t263.length : Int) := of_decide_eq_true zq0; obtain ⟨ad266, e266, hx266_0⟩ := Kd.at_int (Kd.R_reads' HO265.out).2.2 0 p266 q266; cases e266; have qi266 : (0 < t263.length) = True := eq_true zq10; (try rw [show ((0 : Int)).toNat = 0 from rfl] at hx266_0); (try rw [Addr.add_zero'] at hx266_0); replace p266 := eq_true p266; replace q266 := eq_true q266; have p267 : 0 ≤ ((rd t263 0) : Int) := of_decide_eq_true zq0; have q267 : (rd t263 0) < (x0_1.length : Int) := of_decide_eq_true zq0; obtain ⟨ad267, e267, hx267_0⟩ := Kd.at_int (Kd.V_reads' HO_0.out).2.2 (rd t263 0) p267 q267; cases e267; replace p267 := eq_true p267; replace q267 := eq_true q267) | ((with_reducible refine gate_builtin (b := .append) (xs := #[.tmp 13, .tmp 18]) rfl ?_); at_builtin; refine Kd.R_append (Kd.int .i64) (w0 := w) w.heap.size rfl (.tmp 13) (.tmp 18) 22 3 (.int .i64 0) 8 rfl Try.underlying22 info3 rfl zq33 zq10 u3 x3_1 (rd x0_1 (rd t263 0)) [.int .i64 (rd x0_1 (rd t263 0))] (fun k_ => (w.heap.size ≤ k_) ∧ some k_ ≠ (.slice (some ad266) t263.length co13 : Value).ownBlock) (fun _ => False) rfl rfl ?aP (fun _ hk => hk.elim) ?aF ?aO ?aB ?aS ?aL ?_; (case aP => exact rfl); (case aB => exact (pBq5 HB)); (case aF => exact (fun k_ hk => ⟨(Nat.le_trans (below_size (pBq5 HB)) hk), Kd.fresh' (Kd.R_lt (pRq5 HO265)) k_ hk⟩)); (case aO => exact (pRq5 HO_3)); (case aS => exact (below_size (pBq5 HB))); (case aL => have := LMc9.out; omega); intro v269 w14 ho hb hg hat; rw [← Ny268.out] at ho; have HO270 := am (ho); replace HO_0 := am (Kd.V_afterv (ok := (fun k_ => (P0_ k_ ∨ w.heap.size ≤ k_) ∧ some k_ ≠ (.slice (some ad266) t263.length co13 : Value).ownBlock)) (by (with_reducible repeat (first | apply Kd.V_alloc | apply Kd.V_drewN | apply Kd.V_drew)); exact Kd.V_mono HO_0.out (fun _ hk => ⟨⟨hk.1.1, hk.2⟩, hk.1.2⟩)) hg hat); replace HO265 := am (Kd.R_after (ok := (fun k_ => (w.heap.size ≤ k_))) (by (with_reducible repeat (first | apply Kd.R_alloc | apply Kd.R_drewN | apply Kd.R_drew)); exact Kd.R_mono HO265.out (fun _ hk => ⟨hk.1.1, hk.2⟩)) hg hat); replace HB := am (hb); clear HO_3; clear ho hb hg hat) | ((with_reducible refine gate_callee (f := 43) rfl ?_); refine goesL_ (some 22) rfl rfl Try.func43 zq20 rfl #[.slice (some ad267) x0_1.length co11, .int .i64 (rd t263 0)] rfl zq2 ?_; (with_reducible refine (impl_without.calls _ _ x0_1 (rd t263 0) t271 _ ?side1 ?side2 A10.out).mono ?_); (case side1 => exact zq77); (case side2 => exact (Kd.V_reads' HO_0.out).2.1); rintro e w15 ⟨v272, rfl, ho0, hb⟩; refine ⟨_, rfl, ?_⟩; have HO273 := am (Kd.R_lower (Kd.R_new' (Kd.R_new' (Kd.R_newM (M := fun k_ => (w.heap.size ≤ k_)) ho0 (below_size (pBq5 HB)) (fun k_ h_ => h_)) (Kd.R_lt (pRq5 HO265))) (Kd.R_lt (pRq5 HO270))) (below_size (pBq5 HB))); replace HO_0 := am (Kd.V_elder' (by (with_reducible repeat (first | apply Kd.V_alloc | apply Kd.V_drewN | apply Kd.V_drew)); exact HO_0.out) (Kd.R_base ho0) hb); replace HO265 := am (Kd.R_elder' (pRq5 HO265) (Kd.R_base ho0) hb); replace HO270 := am (Kd.R_elder' (pRq5 HO270) (Kd.R_base ho0) hb); replace HB := am (below_step (pBq5 HB) hb); (try clear hb ho0)))
        go_roundg k1
        case measure => have := HK1.out; omega
        case rel => exact ⟨(t271), (y268), H', ⟨zq32⟩, ⟨Kd.V_mono (Kd.R_V (pRq5 HO273)) (fun k_ hk => by exact ⟨(.inr (hk.1.1.1)), hk.2⟩)⟩, ⟨by (with_reducible repeat (first | apply Kd.R_alloc | apply Kd.R_drewN | apply Kd.R_drew)); exact Kd.R_mono HO270.out (fun _ hk => hk.1.1)⟩, ⟨zq1⟩⟩
       ·rw [if_neg c9] at H
        exact absurd H zq24
      ·rw [if_neg c8] at H
       exact absurd H zq24
     ·rw [if_neg c7] at H
      exact absurd H zq24
    ·rw [if_neg c6] at H
     exact absurd H zq24
   ·rw [if_neg c4] at H
    have c4b0 : decide (0 < (x0_1.length : Int)) = false := decide_eq_false c4
    have c4b1 : decide (0 < x0_1.length) = false := decide_eq_false zq10
    clear c4
    obtain rfl := Option.some.inj H
    obtain ⟨Ao16, co16, eo16⟩ := Kd.V_slice HO_0.out
    subst eo16
    go_wp2
    go_ret
    exact ⟨_, zq6, zq34, zq1⟩
/-! ### impl_canFlip: function 31 -/
def impl_canFlip.f (a0_0 : Int) (l0_1 : List Int) (a1 : Int) : Option (Bool) := (impl_between.f a1 0 (wrap64 ((l0_1.length : Int) - 3))).bind fun t279 => (if t279 = true then (if 0 ≤ a1 then (if a1 < (l0_1.length : Int) then (if 0 ≤ (wrap64 (a1 + 2)) then (if (wrap64 (a1 + 2)) < (l0_1.length : Int) then (if (rd l0_1 a1) = (rd l0_1 (wrap64 (a1 + 2))) then (if 0 ≤ (wrap64 (a1 + 1)) then (if (wrap64 (a1 + 1)) < (l0_1.length : Int) then (if (rd l0_1 (wrap64 (a1 + 1))) = (wrap64 ((rd l0_1 a1) + 1)) then (some true) else (some ((rd l0_1 (wrap64 (a1 + 1))) == (wrap64 ((rd l0_1 a1) - 1))))) else (none)) else (none)) else (some false)) else (none)) else (none)) else (none)) else (none)) else (some false))
theorem impl_canFlip.calls (a0_0 : Int) (A0_1 : Option Addr) (c0_1 : Nat) (l0_1 : List Int) (a1 : Int) (r : Bool) (w : World) (hr0_1 : Kd.C (Kd.int .i64) w A0_1 l0_1.length l0_1) (hc0_1 : l0_1.length ≤ c0_1) (h : impl_canFlip.f a0_0 l0_1 a1 = some r) :
  Calls Try.prog 31 #[.agg #[.int .i64 a0_0, .slice A0_1 l0_1.length c0_1], .int .i64 a1] w fun e w' => e = .returned (.bool r) ∧ Below w.heap.size w w' := by
 have hu40 := Try.underlying40
 have HR0_1 := am hr0_1
 have HC0_1 := am hc0_1
 clear hr0_1 hc0_1
 have HB := am (Below.refl w.heap.size w)
 have H : ((impl_between.f a1 0 (wrap64 ((l0_1.length : Int) - 3))).bind fun t279 => (if t279 = true then (if 0 ≤ a1 then (if a1 < (l0_1.length : Int) then (if 0 ≤ (wrap64 (a1 + 2)) then (if (wrap64 (a1 + 2)) < (l0_1.length : Int) then (if (rd l0_1 a1) = (rd l0_1 (wrap64 (a1 + 2))) then (if 0 ≤ (wrap64 (a1 + 1)) then (if (wrap64 (a1 + 1)) < (l0_1.length : Int) then (if (rd l0_1 (wrap64 (a1 + 1))) = (wrap64 ((rd l0_1 a1) + 1)) then (some true) else (some ((rd l0_1 (wrap64 (a1 + 1))) == (wrap64 ((rd l0_1 a1) - 1))))) else (none)) else (none)) else (some false)) else (none)) else (none)) else (none)) else (none)) else (some false))) = some r := h
 clear h
 obtain ⟨t279, A3, H⟩ := zS H
 (try dsimp only at H)
 by_cases c4 : t279 = true
 ·subst c4
  rw [if_pos rfl] at H
  by_cases c5 : 0 ≤ a1
  ·rw [if_pos c5] at H
   have c5b0 : decide (0 ≤ a1) = true := decide_eq_true c5
   clear c5
   by_cases c6 : a1 < (l0_1.length : Int)
   ·rw [if_pos c6] at H
    have c6b0 : decide (a1 < (l0_1.length : Int)) = true := decide_eq_true c6
    clear c6
    obtain ⟨ji7, hji7⟩ : ∃ j_ : Int, (wrap64 (a1 + 2)) = j_ := ⟨_, rfl⟩
    replace H : (if 0 ≤ (ji7) then (if (ji7) < (l0_1.length : Int) then (if (rd l0_1 a1) = (rd l0_1 (ji7)) then (if 0 ≤ (wrap64 (a1 + 1)) then (if (wrap64 (a1 + 1)) < (l0_1.length : Int) then (if (rd l0_1 (wrap64 (a1 + 1))) = (wrap64 ((rd l0_1 a1) + 1)) then (some true) else (some ((rd l0_1 (wrap64 (a1 + 1))) == (wrap64 ((rd l0_1 a1) - 1))))) else (none)) else (none)) else (some false)) else (none)) else (none)) = some r := by first | (rw [hji7] at H; exact H) | (simp only [hji7] at H ⊢; exact H)
    (try rw [hji7] at A3)
    have hji7w : (IntKind.i64.wrap (a1 + 2)) = ji7 := (i64_w _).trans hji7
    by_cases c8 : 0 ≤ (ji7)
    ·rw [if_pos c8] at H
     have c8b0 : decide (0 ≤ (ji7)) = true := decide_eq_true c8
     clear c8
     by_cases c9 : (ji7) < (l0_1.length : Int)
     ·rw [if_pos c9] at H
      have c9b0 : decide ((ji7) < (l0_1.length : Int)) = true := decide_eq_true c9
      clear c9
      by_cases c10 : (rd l0_1 a1) = (rd l0_1 (ji7))
      ·rw [if_pos c10] at H
       have c10b0 : ((rd l0_1 a1) == (rd l0_1 (ji7))) = true := beq_iff_eq.mpr c10
       have c10b1 : ((rd l0_1 a1) != (rd l0_1 (ji7))) = false := bne_eq_false_iff_eq.mpr c10
       clear c10
       obtain ⟨ji11, hji11⟩ : ∃ j_ : Int, (wrap64 (a1 + 1)) = j_ := ⟨_, rfl⟩
       replace H : (if 0 ≤ (ji11) then (if (ji11) < (l0_1.length : Int) then (if (rd l0_1 (ji11)) = (wrap64 ((rd l0_1 a1) + 1)) then (some true) else (some ((rd l0_1 (ji11)) == (wrap64 ((rd l0_1 a1) - 1))))) else (none)) else (none)) = some r := by first | (rw [hji11] at H; exact H) | (simp only [hji11] at H ⊢; exact H)
       (try rw [hji11] at A3)
       have hji11w : (IntKind.i64.wrap (a1 + 1)) = ji11 := (i64_w _).trans hji11
       by_cases c12 : 0 ≤ (ji11)
       ·rw [if_pos c12] at H
        have c12b0 : decide (0 ≤ (ji11)) = true := decide_eq_true c12
        clear c12
        by_cases c13 : (ji11) < (l0_1.length : Int)
        ·rw [if_pos c13] at H
         have c13b0 : decide ((ji11) < (l0_1.length : Int)) = true := decide_eq_true c13
         clear c13
         by_cases c14 : (rd l0_1 (ji11)) = (wrap64 ((rd l0_1 a1) + 1))
         ·rw [if_pos c14] at H
          have c14b0 : ((rd l0_1 (ji11)) == (wrap64 ((rd l0_1 a1) + 1))) = true := beq_iff_eq.mpr c14
          have c14b1 : ((rd l0_1 (ji11)) != (wrap64 ((rd l0_1 a1) + 1))) = false := bne_eq_false_iff_eq.mpr c14
          clear c14
          obtain rfl := Option.some.inj H
          go_enter Try.func31, Try.ntmps31
          go_wp2_with (first | ((with_reducible refine gate_dst (N := 2) rfl ?_); refine zE 2 (cs := #[.int .i64 a0_0, .slice A0_1 l0_1.length c0_1]) 40 ?_; intro gb278 hg w15 hbox hb; have BK278 := am (hbox); have GW278 := am ((zq16 : w.heap.size ≤ gb278)); have GE278 := am ((zq16 : w.heap.size ≤ gb278)); replace HB := am (below_step (pBq5 HB) hb); clear hb hbox hg; have hcz16_0 : w15.cell? ⟨gb278, 0, none⟩ = some (.int .i64 a0_0) := (blk_cell BK278.out 0).trans rfl; have hcz16_1 : w15.cell? ⟨gb278, 1, none⟩ = some (.slice A0_1 l0_1.length c0_1) := (blk_cell BK278.out 1).trans rfl; have hfz16_0 := blk_frozen BK278.out 0; have hfz16_1 := blk_frozen BK278.out 1) | (go_at_call 46; (with_reducible refine (impl_between.calls a1 0 (wrap64 ((l0_1.length : Int) - 3)) true _ A3.out).mono ?_); rintro e w' ⟨rfl, ⟨nd, rfl⟩⟩; (try first | exact ⟨rfl, _, World.drewN_drewN _ _ _⟩ | exact ⟨rfl, _, Eq.trans (World.drewN_drewN _ _ _) (congrArg (World.drewN _) (Nat.add_assoc _ _ _))⟩)))
          have p280 : 0 ≤ (a1 : Int) := of_decide_eq_true zq0
          have q280 : a1 < (l0_1.length : Int) := of_decide_eq_true zq0
          obtain ⟨ad280, e280, hx280_0⟩ := Kd.at_int HR0_1.out a1 p280 q280
          cases e280
          replace hx280_0 := (HB.out.cell (World.block_lt_of_cell? w _ hx280_0)).trans hx280_0
          replace p280 := eq_true p280
          replace q280 := eq_true q280
          have p281 : 0 ≤ ((ji7) : Int) := of_decide_eq_true zq0
          have q281 : (ji7) < (l0_1.length : Int) := of_decide_eq_true zq0
          obtain ⟨ad281, e281, hx281_0⟩ := Kd.at_int HR0_1.out (ji7) p281 q281
          obtain rfl : ad280 = ad281 := (by injection e281)
          replace hx281_0 := (HB.out.cell (World.block_lt_of_cell? w _ hx281_0)).trans hx281_0
          replace p281 := eq_true p281
          replace q281 := eq_true q281
          have p282 : 0 ≤ (a1 : Int) := of_decide_eq_true zq0
          have q282 : a1 < (l0_1.length : Int) := of_decide_eq_true zq0
          obtain ⟨ad282, e282, hx282_0⟩ := Kd.at_int HR0_1.out a1 p282 q282
          obtain rfl : ad280 = ad282 := (by injection e282)
          replace hx282_0 := (HB.out.cell (World.block_lt_of_cell? w _ hx282_0)).trans hx282_0
          replace p282 := eq_true p282
          replace q282 := eq_true q282
          have p283 : 0 ≤ ((ji11) : Int) := of_decide_eq_true zq0
          have q283 : (ji11) < (l0_1.length : Int) := of_decide_eq_true zq0
          obtain ⟨ad283, e283, hx283_0⟩ := Kd.at_int HR0_1.out (ji11) p283 q283
          obtain rfl : ad280 = ad283 := (by injection e283)
          replace hx283_0 := (HB.out.cell (World.block_lt_of_cell? w _ hx283_0)).trans hx283_0
          replace p283 := eq_true p283
          replace q283 := eq_true q283
          repeat (go_quiet (first | ((with_reducible refine gate_dst (N := 2) rfl ?_); refine zE 2 (cs := #[.int .i64 a0_0, .slice A0_1 l0_1.length c0_1]) 40 ?_; intro gb278 hg w15 hbox hb; have BK278 := am (hbox); have GW278 := am ((zq16 : w.heap.size ≤ gb278)); have GE278 := am ((zq16 : w.heap.size ≤ gb278)); replace HB := am (below_step (pBq5 HB) hb); clear hb hbox hg; have hcz16_0 : w15.cell? ⟨gb278, 0, none⟩ = some (.int .i64 a0_0) := (blk_cell BK278.out 0).trans rfl; have hcz16_1 : w15.cell? ⟨gb278, 1, none⟩ = some (.slice A0_1 l0_1.length c0_1) := (blk_cell BK278.out 1).trans rfl; have hfz16_0 := blk_frozen BK278.out 0; have hfz16_1 := blk_frozen BK278.out 1) | (go_at_call 46; (with_reducible refine (impl_between.calls a1 0 (wrap64 ((l0_1.length : Int) - 3)) true _ A3.out).mono ?_); rintro e w' ⟨rfl, ⟨nd, rfl⟩⟩; (try first | exact ⟨rfl, _, World.drewN_drewN _ _ _⟩ | exact ⟨rfl, _, Eq.trans (World.drewN_drewN _ _ _) (congrArg (World.drewN _) (Nat.add_assoc _ _ _))⟩))); try go_wp2_with (first | ((with_reducible refine gate_dst (N := 2) rfl ?_); refine zE 2 (cs := #[.int .i64 a0_0, .slice A0_1 l0_1.length c0_1]) 40 ?_; intro gb278 hg w15 hbox hb; have BK278 := am (hbox); have GW278 := am ((zq16 : w.heap.size ≤ gb278)); have GE278 := am ((zq16 : w.heap.size ≤ gb278)); replace HB := am (below_step (pBq5 HB) hb); clear hb hbox hg; have hcz16_0 : w15.cell? ⟨gb278, 0, none⟩ = some (.int .i64 a0_0) := (blk_cell BK278.out 0).trans rfl; have hcz16_1 : w15.cell? ⟨gb278, 1, none⟩ = some (.slice A0_1 l0_1.length c0_1) := (blk_cell BK278.out 1).trans rfl; have hfz16_0 := blk_frozen BK278.out 0; have hfz16_1 := blk_frozen BK278.out 1) | (go_at_call 46; (with_reducible refine (impl_between.calls a1 0 (wrap64 ((l0_1.length : Int) - 3)) true _ A3.out).mono ?_); rintro e w' ⟨rfl, ⟨nd, rfl⟩⟩; (try first | exact ⟨rfl, _, World.drewN_drewN _ _ _⟩ | exact ⟨rfl, _, Eq.trans (World.drewN_drewN _ _ _) (congrArg (World.drewN _) (Nat.add_assoc _ _ _))⟩))))
          go_ret
          exact ⟨zq66, zq17⟩
         ·rw [if_neg c14] at H
          have c14b0 : ((rd l0_1 (ji11)) == (wrap64 ((rd l0_1 a1) + 1))) = false := beq_eq_false_iff_ne.mpr c14
          have c14b1 : ((rd l0_1 (ji11)) != (wrap64 ((rd l0_1 a1) + 1))) = true := bne_iff_ne.mpr c14
          obtain rfl := Option.some.inj H
          go_enter Try.func31, Try.ntmps31
          go_wp2_with (first | ((with_reducible refine gate_dst (N := 2) rfl ?_); refine zE 2 (cs := #[.int .i64 a0_0, .slice A0_1 l0_1.length c0_1]) 40 ?_; intro gb278 hg w17 hbox hb; have BK278 := am (hbox); have GW278 := am ((zq16 : w.heap.size ≤ gb278)); have GE278 := am ((zq16 : w.heap.size ≤ gb278)); replace HB := am (below_step (pBq5 HB) hb); clear hb hbox hg; have hcz18_0 : w17.cell? ⟨gb278, 0, none⟩ = some (.int .i64 a0_0) := (blk_cell BK278.out 0).trans rfl; have hcz18_1 : w17.cell? ⟨gb278, 1, none⟩ = some (.slice A0_1 l0_1.length c0_1) := (blk_cell BK278.out 1).trans rfl; have hfz18_0 := blk_frozen BK278.out 0; have hfz18_1 := blk_frozen BK278.out 1) | (go_at_call 46; (with_reducible refine (impl_between.calls a1 0 (wrap64 ((l0_1.length : Int) - 3)) true _ A3.out).mono ?_); rintro e w' ⟨rfl, ⟨nd, rfl⟩⟩; (try first | exact ⟨rfl, _, World.drewN_drewN _ _ _⟩ | exact ⟨rfl, _, Eq.trans (World.drewN_drewN _ _ _) (congrArg (World.drewN _) (Nat.add_assoc _ _ _))⟩)))
          have p280 : 0 ≤ (a1 : Int) := of_decide_eq_true zq0
          have q280 : a1 < (l0_1.length : Int) := of_decide_eq_true zq0
          obtain ⟨ad280, e280, hx280_0⟩ := Kd.at_int HR0_1.out a1 p280 q280
          cases e280
          replace hx280_0 := (HB.out.cell (World.block_lt_of_cell? w _ hx280_0)).trans hx280_0
          replace p280 := eq_true p280
          replace q280 := eq_true q280
          have p281 : 0 ≤ ((ji7) : Int) := of_decide_eq_true zq0
          have q281 : (ji7) < (l0_1.length : Int) := of_decide_eq_true zq0
          obtain ⟨ad281, e281, hx281_0⟩ := Kd.at_int HR0_1.out (ji7) p281 q281
          obtain rfl : ad280 = ad281 := (by injection e281)
          replace hx281_0 := (HB.out.cell (World.block_lt_of_cell? w _ hx281_0)).trans hx281_0
          replace p281 := eq_true p281
          replace q281 := eq_true q281
          have p282 : 0 ≤ (a1 : Int) := of_decide_eq_true zq0
          have q282 : a1 < (l0_1.length : Int) := of_decide_eq_true zq0
          obtain ⟨ad282, e282, hx282_0⟩ := Kd.at_int HR0_1.out a1 p282 q282
          obtain rfl : ad280 = ad282 := (by injection e282)
          replace hx282_0 := (HB.out.cell (World.block_lt_of_cell? w _ hx282_0)).trans hx282_0
          replace p282 := eq_true p282
          replace q282 := eq_true q282
          have p283 : 0 ≤ ((ji11) : Int) := of_decide_eq_true zq0
          have q283 : (ji11) < (l0_1.length : Int) := of_decide_eq_true zq0
          obtain ⟨ad283, e283, hx283_0⟩ := Kd.at_int HR0_1.out (ji11) p283 q283
          obtain rfl : ad280 = ad283 := (by injection e283)
          replace hx283_0 := (HB.out.cell (World.block_lt_of_cell? w _ hx283_0)).trans hx283_0
          replace p283 := eq_true p283
          replace q283 := eq_true q283
          repeat (go_quiet (first | ((with_reducible refine gate_dst (N := 2) rfl ?_); refine zE 2 (cs := #[.int .i64 a0_0, .slice A0_1 l0_1.length c0_1]) 40 ?_; intro gb278 hg w17 hbox hb; have BK278 := am (hbox); have GW278 := am ((zq16 : w.heap.size ≤ gb278)); have GE278 := am ((zq16 : w.heap.size ≤ gb278)); replace HB := am (below_step (pBq5 HB) hb); clear hb hbox hg; have hcz18_0 : w17.cell? ⟨gb278, 0, none⟩ = some (.int .i64 a0_0) := (blk_cell BK278.out 0).trans rfl; have hcz18_1 : w17.cell? ⟨gb278, 1, none⟩ = some (.slice A0_1 l0_1.length c0_1) := (blk_cell BK278.out 1).trans rfl; have hfz18_0 := blk_frozen BK278.out 0; have hfz18_1 := blk_frozen BK278.out 1) | (go_at_call 46; (with_reducible refine (impl_between.calls a1 0 (wrap64 ((l0_1.length : Int) - 3)) true _ A3.out).mono ?_); rintro e w' ⟨rfl, ⟨nd, rfl⟩⟩; (try first | exact ⟨rfl, _, World.drewN_drewN _ _ _⟩ | exact ⟨rfl, _, Eq.trans (World.drewN_drewN _ _ _) (congrArg (World.drewN _) (Nat.add_assoc _ _ _))⟩))); try go_wp2_with (first | ((with_reducible refine gate_dst (N := 2) rfl ?_); refine zE 2 (cs := #[.int .i64 a0_0, .slice A0_1 l0_1.length c0_1]) 40 ?_; intro gb278 hg w17 hbox hb; have BK278 := am (hbox); have GW278 := am ((zq16 : w.heap.size ≤ gb278)); have GE278 := am ((zq16 : w.heap.size ≤ gb278)); replace HB := am (below_step (pBq5 HB) hb); clear hb hbox hg; have hcz18_0 : w17.cell? ⟨gb278, 0, none⟩ = some (.int .i64 a0_0) := (blk_cell BK278.out 0).trans rfl; have hcz18_1 : w17.cell? ⟨gb278, 1, none⟩ = some (.slice A0_1 l0_1.length c0_1) := (blk_cell BK278.out 1).trans rfl; have hfz18_0 := blk_frozen BK278.out 0; have hfz18_1 := blk_frozen BK278.out 1) | (go_at_call 46; (with_reducible refine (impl_between.calls a1 0 (wrap64 ((l0_1.length : Int) - 3)) true _ A3.out).mono ?_); rintro e w' ⟨rfl, ⟨nd, rfl⟩⟩; (try first | exact ⟨rfl, _, World.drewN_drewN _ _ _⟩ | exact ⟨rfl, _, Eq.trans (World.drewN_drewN _ _ _) (congrArg (World.drewN _) (Nat.add_assoc _ _ _))⟩))))
          go_ret
          exact ⟨zq66, zq17⟩
        ·rw [if_neg c13] at H
         exact absurd H zq24
       ·rw [if_neg c12] at H
        exact absurd H zq24
      ·rw [if_neg c10] at H
       have c10b0 : ((rd l0_1 a1) == (rd l0_1 (ji7))) = false := beq_eq_false_iff_ne.mpr c10
       have c10b1 : ((rd l0_1 a1) != (rd l0_1 (ji7))) = true := bne_iff_ne.mpr c10
       obtain rfl := Option.some.inj H
       go_enter Try.func31, Try.ntmps31
       go_wp2_with (first | ((with_reducible refine gate_dst (N := 2) rfl ?_); refine zE 2 (cs := #[.int .i64 a0_0, .slice A0_1 l0_1.length c0_1]) 40 ?_; intro gb278 hg w19 hbox hb; have BK278 := am (hbox); have GW278 := am ((zq16 : w.heap.size ≤ gb278)); have GE278 := am ((zq16 : w.heap.size ≤ gb278)); replace HB := am (below_step (pBq5 HB) hb); clear hb hbox hg; have hcz20_0 : w19.cell? ⟨gb278, 0, none⟩ = some (.int .i64 a0_0) := (blk_cell BK278.out 0).trans rfl; have hcz20_1 : w19.cell? ⟨gb278, 1, none⟩ = some (.slice A0_1 l0_1.length c0_1) := (blk_cell BK278.out 1).trans rfl; have hfz20_0 := blk_frozen BK278.out 0; have hfz20_1 := blk_frozen BK278.out 1) | (go_at_call 46; (with_reducible refine (impl_between.calls a1 0 (wrap64 ((l0_1.length : Int) - 3)) true _ A3.out).mono ?_); rintro e w' ⟨rfl, ⟨nd, rfl⟩⟩; (try first | exact ⟨rfl, _, World.drewN_drewN _ _ _⟩ | exact ⟨rfl, _, Eq.trans (World.drewN_drewN _ _ _) (congrArg (World.drewN _) (Nat.add_assoc _ _ _))⟩)))
       have p280 : 0 ≤ (a1 : Int) := of_decide_eq_true zq0
       have q280 : a1 < (l0_1.length : Int) := of_decide_eq_true zq0
       obtain ⟨ad280, e280, hx280_0⟩ := Kd.at_int HR0_1.out a1 p280 q280
       cases e280
       replace hx280_0 := (HB.out.cell (World.block_lt_of_cell? w _ hx280_0)).trans hx280_0
       replace p280 := eq_true p280
       replace q280 := eq_true q280
       have p281 : 0 ≤ ((ji7) : Int) := of_decide_eq_true zq0
       have q281 : (ji7) < (l0_1.length : Int) := of_decide_eq_true zq0
       obtain ⟨ad281, e281, hx281_0⟩ := Kd.at_int HR0_1.out (ji7) p281 q281
       obtain rfl : ad280 = ad281 := (by injection e281)
       replace hx281_0 := (HB.out.cell (World.block_lt_of_cell? w _ hx281_0)).trans hx281_0
       replace p281 := eq_true p281
       replace q281 := eq_true q281
       repeat (go_quiet (first | ((with_reducible refine gate_dst (N := 2) rfl ?_); refine zE 2 (cs := #[.int .i64 a0_0, .slice A0_1 l0_1.length c0_1]) 40 ?_; intro gb278 hg w19 hbox hb; have BK278 := am (hbox); have GW278 := am ((zq16 : w.heap.size ≤ gb278)); have GE278 := am ((zq16 : w.heap.size ≤ gb278)); replace HB := am (below_step (pBq5 HB) hb); clear hb hbox hg; have hcz20_0 : w19.cell? ⟨gb278, 0, none⟩ = some (.int .i64 a0_0) := (blk_cell BK278.out 0).trans rfl; have hcz20_1 : w19.cell? ⟨gb278, 1, none⟩ = some (.slice A0_1 l0_1.length c0_1) := (blk_cell BK278.out 1).trans rfl; have hfz20_0 := blk_frozen BK278.out 0; have hfz20_1 := blk_frozen BK278.out 1) | (go_at_call 46; (with_reducible refine (impl_between.calls a1 0 (wrap64 ((l0_1.length : Int) - 3)) true _ A3.out).mono ?_); rintro e w' ⟨rfl, ⟨nd, rfl⟩⟩; (try first | exact ⟨rfl, _, World.drewN_drewN _ _ _⟩ | exact ⟨rfl, _, Eq.trans (World.drewN_drewN _ _ _) (congrArg (World.drewN _) (Nat.add_assoc _ _ _))⟩))); try go_wp2_with (first | ((with_reducible refine gate_dst (N := 2) rfl ?_); refine zE 2 (cs := #[.int .i64 a0_0, .slice A0_1 l0_1.length c0_1]) 40 ?_; intro gb278 hg w19 hbox hb; have BK278 := am (hbox); have GW278 := am ((zq16 : w.heap.size ≤ gb278)); have GE278 := am ((zq16 : w.heap.size ≤ gb278)); replace HB := am (below_step (pBq5 HB) hb); clear hb hbox hg; have hcz20_0 : w19.cell? ⟨gb278, 0, none⟩ = some (.int .i64 a0_0) := (blk_cell BK278.out 0).trans rfl; have hcz20_1 : w19.cell? ⟨gb278, 1, none⟩ = some (.slice A0_1 l0_1.length c0_1) := (blk_cell BK278.out 1).trans rfl; have hfz20_0 := blk_frozen BK278.out 0; have hfz20_1 := blk_frozen BK278.out 1) | (go_at_call 46; (with_reducible refine (impl_between.calls a1 0 (wrap64 ((l0_1.length : Int) - 3)) true _ A3.out).mono ?_); rintro e w' ⟨rfl, ⟨nd, rfl⟩⟩; (try first | exact ⟨rfl, _, World.drewN_drewN _ _ _⟩ | exact ⟨rfl, _, Eq.trans (World.drewN_drewN _ _ _) (congrArg (World.drewN _) (Nat.add_assoc _ _ _))⟩))))
       go_ret
       exact ⟨by first | rfl | (simp [errW_none, errW_some] <;> rfl) | (simp only [← hji7]; first | rfl | (simp [errW_none, errW_some] <;> rfl)) | (simp [*, errW_none, errW_some] <;> rfl), zq17⟩
     ·rw [if_neg c9] at H
      exact absurd H zq24
    ·rw [if_neg c8] at H
     exact absurd H zq24
   ·rw [if_neg c6] at H
    exact absurd H zq24
  ·rw [if_neg c5] at H
   exact absurd H zq24
 ·replace c4 := Bool.eq_false_iff.mpr c4
  subst c4
  rw [if_neg (show ¬ (false = true) by decide)] at H
  obtain rfl := Option.some.inj H
  go_enter Try.func31, Try.ntmps31
  go_wp2_with (first | ((with_reducible refine gate_dst (N := 2) rfl ?_); refine zE 2 (cs := #[.int .i64 a0_0, .slice A0_1 l0_1.length c0_1]) 40 ?_; intro gb278 hg w21 hbox hb; have BK278 := am (hbox); have GW278 := am ((zq16 : w.heap.size ≤ gb278)); have GE278 := am ((zq16 : w.heap.size ≤ gb278)); replace HB := am (below_step (pBq5 HB) hb); clear hb hbox hg; have hcz22_0 : w21.cell? ⟨gb278, 0, none⟩ = some (.int .i64 a0_0) := (blk_cell BK278.out 0).trans rfl; have hcz22_1 : w21.cell? ⟨gb278, 1, none⟩ = some (.slice A0_1 l0_1.length c0_1) := (blk_cell BK278.out 1).trans rfl; have hfz22_0 := blk_frozen BK278.out 0; have hfz22_1 := blk_frozen BK278.out 1) | (go_at_call 46; (with_reducible refine (impl_between.calls a1 0 (wrap64 ((l0_1.length : Int) - 3)) false _ A3.out).mono ?_); rintro e w' ⟨rfl, ⟨nd, rfl⟩⟩; (try first | exact ⟨rfl, _, World.drewN_drewN _ _ _⟩ | exact ⟨rfl, _, Eq.trans (World.drewN_drewN _ _ _) (congrArg (World.drewN _) (Nat.add_assoc _ _ _))⟩)))
  repeat (go_quiet (first | ((with_reducible refine gate_dst (N := 2) rfl ?_); refine zE 2 (cs := #[.int .i64 a0_0, .slice A0_1 l0_1.length c0_1]) 40 ?_; intro gb278 hg w21 hbox hb; have BK278 := am (hbox); have GW278 := am ((zq16 : w.heap.size ≤ gb278)); have GE278 := am ((zq16 : w.heap.size ≤ gb278)); replace HB := am (below_step (pBq5 HB) hb); clear hb hbox hg; have hcz22_0 : w21.cell? ⟨gb278, 0, none⟩ = some (.int .i64 a0_0) := (blk_cell BK278.out 0).trans rfl; have hcz22_1 : w21.cell? ⟨gb278, 1, none⟩ = some (.slice A0_1 l0_1.length c0_1) := (blk_cell BK278.out 1).trans rfl; have hfz22_0 := blk_frozen BK278.out 0; have hfz22_1 := blk_frozen BK278.out 1) | (go_at_call 46; (with_reducible refine (impl_between.calls a1 0 (wrap64 ((l0_1.length : Int) - 3)) false _ A3.out).mono ?_); rintro e w' ⟨rfl, ⟨nd, rfl⟩⟩; (try first | exact ⟨rfl, _, World.drewN_drewN _ _ _⟩ | exact ⟨rfl, _, Eq.trans (World.drewN_drewN _ _ _) (congrArg (World.drewN _) (Nat.add_assoc _ _ _))⟩))); try go_wp2_with (first | ((with_reducible refine gate_dst (N := 2) rfl ?_); refine zE 2 (cs := #[.int .i64 a0_0, .slice A0_1 l0_1.length c0_1]) 40 ?_; intro gb278 hg w21 hbox hb; have BK278 := am (hbox); have GW278 := am ((zq16 : w.heap.size ≤ gb278)); have GE278 := am ((zq16 : w.heap.size ≤ gb278)); replace HB := am (below_step (pBq5 HB) hb); clear hb hbox hg; have hcz22_0 : w21.cell? ⟨gb278, 0, none⟩ = some (.int .i64 a0_0) := (blk_cell BK278.out 0).trans rfl; have hcz22_1 : w21.cell? ⟨gb278, 1, none⟩ = some (.slice A0_1 l0_1.length c0_1) := (blk_cell BK278.out 1).trans rfl; have hfz22_0 := blk_frozen BK278.out 0; have hfz22_1 := blk_frozen BK278.out 1) | (go_at_call 46; (with_reducible refine (impl_between.calls a1 0 (wrap64 ((l0_1.length : Int) - 3)) false _ A3.out).mono ?_); rintro e w' ⟨rfl, ⟨nd, rfl⟩⟩; (try first | exact ⟨rfl, _, World.drewN_drewN _ _ _⟩ | exact ⟨rfl, _, Eq.trans (World.drewN_drewN _ _ _) (congrArg (World.drewN _) (Nat.add_assoc _ _ _))⟩))))
  go_ret
  exact ⟨zq6, zq17⟩
/-! ### slices_Reverse_int_int: function 80 -/
def slices_Reverse_int_int.l0 : Nat → List Int → Int → Int → Option (List Int)
 | 0, _, _, _ => none
 | k + 1, x0, x2, x3 => if x2 < x3 then (if 0 ≤ x3 then (if x3 < (x0.length : Int) then (if 0 ≤ x2 then (if x2 < (x0.length : Int) then (slices_Reverse_int_int.l0 k ((x0.set (x2 : Int).toNat (rd x0 x3)).set (x3 : Int).toNat (rd x0 x2)) (wrap64 (x2 + 1)) (wrap64 (x3 - 1))) else (none)) else (none)) else (none)) else (none)) else (some x0)
def slices_Reverse_int_int.f (k : Nat) (l0 : List Int) : Option (List Int) := slices_Reverse_int_int.l0 k l0 0 (wrap64 ((l0.length : Int) - 1))
theorem slices_Reverse_int_int.mono_l : ∀ k, (∀ y0 y1 y2, LeO (slices_Reverse_int_int.l0 k y0 y1 y2) (slices_Reverse_int_int.l0 (k + 1) y0 y1 y2))
 | 0 => fun _ _ _ r h => by simp [slices_Reverse_int_int.l0] at h
 | k + 1 => by
  have ih0 := slices_Reverse_int_int.mono_l k
  ·intro y0 y1 y2
   unfold slices_Reverse_int_int.l0
   repeat' first | (with_reducible first | exact ih0 _ _ _ | exact LeO.refl _ | exact LeO.none _ | refine LeO.ite ?_ ?_ | refine LeO.bind ?_ (fun _ => ?_))
theorem slices_Reverse_int_int.mono : ∀ a0 k, LeO (slices_Reverse_int_int.f k a0) (slices_Reverse_int_int.f (k + 1) a0) := by
 intro a0 k
 have ih0 := slices_Reverse_int_int.mono_l k
 unfold slices_Reverse_int_int.f
 repeat' first | (with_reducible first | exact ih0 _ _ _ | exact LeO.refl _ | exact LeO.none _ | refine LeO.ite ?_ ?_ | refine LeO.bind ?_ (fun _ => ?_))
def slices_Reverse_int_int.T3 : Bool × List (List Nat × List Nat) := (true, [([], []), ([], []), ([], []), ([], []), ([], []), ([], []), ([4, 5], [4, 5]), ([6], [6]), ([], []), ([], []), ([8, 9], [8, 9]), ([10], [10]), ([0, 1, 0, 1, 4, 5, 6, 7, 11], [0, 1]), ([12, 7, 0, 1, 4, 5, 6, 7, 11], [7, 12]), ([2, 3, 0, 1, 2, 3, 4, 5, 6, 7, 8, 9, 10, 11, 12, 13], [2, 3]), ([14, 11, 13, 0, 1, 2, 3, 4, 5, 6, 7, 8, 9, 10, 11, 12, 13], [11, 14])])
def slices_Reverse_int_int.B3 : List Nat := [0, 0, 0, 0, 0, 0, 48, 112, 0, 0, 768, 1792, 4083, 8179, 16383, 32767]
theorem slices_Reverse_int_int.tab3 : rtab .any (opsOf Try.f80 3) = slices_Reverse_int_int.T3 := by kernel_rfl
theorem slices_Reverse_int_int.bits3 : waitsOk slices_Reverse_int_int.T3.2 slices_Reverse_int_int.B3 = true := by kernel_rfl
theorem slices_Reverse_int_int.calls (k : Nat) (P0_ : Nat → Prop) (u9000_ : Value) (l0 : List Int) (r : List Int) (w0 w : World) (hB : Below w0.heap.size w0 w) (ho0 : Kd.R (Kd.int .i64) 3 w w0.heap.size P0_ u9000_ l0) (h : slices_Reverse_int_int.f k l0 = some r) :
  Calls Try.prog 80 #[u9000_] w fun e w' => e = .returned (.tuple #[]) ∧ Kd.R (Kd.int .i64) 3 w' w0.heap.size (fun k_ => (P0_ k_ ∨ w.heap.size ≤ k_)) u9000_ r ∧ Below w0.heap.size w0 w' ∧ Kept w w' (fun k_ => P0_ k_) := by
 have HO0 := am (show Kd.R (Kd.int .i64) 3 w w0.heap.size (fun k_ => (P0_ k_ ∨ w.heap.size ≤ k_)) u9000_ l0 from Kd.R_mono ho0 (fun k_ hk => (.inl hk)))
 have HK := am (Kept.refl w (fun k_ => P0_ k_))
 have HW0 := am hB.size
 have HB := am hB
 clear hB
 have H : (slices_Reverse_int_int.l0 k l0 0 (wrap64 ((l0.length : Int) - 1))) = some r := h
 clear h
 have H' := am H
 clear H
 obtain ⟨Ao2, co2, eo2⟩ := Kd.R_slice HO0.out
 subst eo2
 go_enter Try.func80, Try.ntmps80
 go_wp2
 go_loopg [2, 3] k (fun kq v2 v3 w' => ∃ (x0_1 : List Int) (x2_1 : Int) (x3_1 : Int), v2 = .int .i64 x2_1 ∧ v3 = .int .i64 x3_1 ∧ Aside0 (slices_Reverse_int_int.l0 kq x0_1 x2_1 x3_1 = some r) ∧ Aside0 (kq ≤ k) ∧ Aside0 (Kd.R (Kd.int .i64) 3 w' w0.heap.size (fun k_ => (P0_ k_ ∨ w.heap.size ≤ k_)) (.slice Ao2 l0.length co2) x0_1) ∧ Aside0 (Kept w w' (fun k_ => P0_ k_)) ∧ Aside0 (Below w0.heap.size w0 w'))
 case atStart => exact ⟨(l0), (0), (wrap64 ((l0.length : Int) - 1)), zq3, zq3, H', ⟨Nat.le_refl _⟩, ⟨by (with_reducible repeat (first | apply Kd.R_alloc | apply Kd.R_drewN | apply Kd.R_drew)); exact HO0.out⟩, ⟨zq13⟩, ⟨zq1⟩⟩
 case round =>
  clear H'
  try clear p2
  obtain ⟨x0_1, x2_1, x3_1, rfl, rfl, HA, HK1, HO_0, HK, HB⟩ := hrel
  have hl0_1 := (Kd.R_reads' HO_0.out).1
  rw [hl0_1] at HO_0
  (try simp only [hl0_1])
  cases gk with
  | zero => exact absurd HA.out (by simp [slices_Reverse_int_int.l0])
  | succ k1 =>
   have H := HA.out
   clear HA
   simp only [slices_Reverse_int_int.l0] at H
   by_cases c3 : x2_1 < x3_1
   ·rw [if_pos c3] at H
    have c3b0 : decide (x2_1 < x3_1) = true := decide_eq_true c3
    clear c3
    by_cases c4 : 0 ≤ x3_1
    ·rw [if_pos c4] at H
     have c4b0 : decide (0 ≤ x3_1) = true := decide_eq_true c4
     clear c4
     by_cases c5 : x3_1 < (x0_1.length : Int)
     ·rw [if_pos c5] at H
      have c5b0 : decide (x3_1 < (x0_1.length : Int)) = true := decide_eq_true c5
      clear c5
      by_cases c6 : 0 ≤ x2_1
      ·rw [if_pos c6] at H
       have c6b0 : decide (0 ≤ x2_1) = true := decide_eq_true c6
       clear c6
       by_cases c7 : x2_1 < (x0_1.length : Int)
       ·rw [if_pos c7] at H
        have c7b0 : decide (x2_1 < (x0_1.length : Int)) = true := decide_eq_true c7
        clear c7
        obtain ⟨y286, hy286⟩ : ∃ y_ : List Int, y_ = (x0_1.set (x2_1 : Int).toNat (rd x0_1 x3_1)) := ⟨_, rfl⟩
        replace H : (slices_Reverse_int_int.l0 k1 (y286.set (x3_1 : Int).toNat (rd x0_1 x2_1)) (wrap64 (x2_1 + 1)) (wrap64 (x3_1 - 1))) = some r := by first | (rw [hy286]; exact zH) | exact zH
        have Ny286 := am hy286
        clear hy286
        obtain ⟨y287, hy287⟩ : ∃ y_ : List Int, y_ = (y286.set (x3_1 : Int).toNat (rd x0_1 x2_1)) := ⟨_, rfl⟩
        replace H : (slices_Reverse_int_int.l0 k1 y287 (wrap64 (x2_1 + 1)) (wrap64 (x3_1 - 1))) = some r := by first | (rw [hy287]; exact zH) | exact zH
        have Ny287 := am hy287
        clear hy287
        have H' := am H
        clear H
        try go_wp2
        replace HO_0 := am (Kd.R_drew HO_0.out)
        replace HK := am (Kept.drew HK.out)
        replace HB := am (below_drew1 HB.out)
        have p284 : 0 ≤ (x3_1 : Int) := of_decide_eq_true zq0
        have q284 : x3_1 < (x0_1.length : Int) := of_decide_eq_true zq0
        obtain ⟨ad284, e284, hx284_0⟩ := Kd.at_int (Kd.R_reads' HO_0.out).2.2 x3_1 p284 q284
        cases e284
        replace p284 := eq_true p284
        replace q284 := eq_true q284
        have p285 : 0 ≤ (x2_1 : Int) := of_decide_eq_true zq0
        have q285 : x2_1 < (x0_1.length : Int) := of_decide_eq_true zq0
        obtain ⟨ad285, e285, hx285_0⟩ := Kd.at_int (Kd.R_reads' HO_0.out).2.2 x2_1 p285 q285
        obtain rfl : ad284 = ad285 := (by injection e285)
        replace p285 := eq_true p285
        replace q285 := eq_true q285
        have p8 : 0 ≤ (x2_1 : Int) := of_decide_eq_true zq0
        have q8 : (x2_1 : Int) < ((x0_1.length : Int) : Int) := of_decide_eq_true zq0
        obtain ⟨go8, co8, eo8, gb8, gl8, cl8, HG8⟩ := Kd.R_form HO_0.out zq10
        (first | cases eo8 | (injection eo8 with ea_ en_ ec_; (first | subst ea_ | (injection ea_ with ea_; subst ea_)); subst ec_; clear en_))
        have GB8 := am gb8
        have GG8 := am HG8
        clear gb8 gl8 HG8
        have HMgo8 := am (show (P0_ go8 ∨ w.heap.size ≤ go8) from (HO_0.out.1 _ rfl))
        (first | simp only [add_plain] at hx284_0 | skip)
        (first | simp only [add_plain] at hx285_0 | skip)
        obtain ⟨hx8_0, hf8_0⟩ := Kd.R_celln 0 HO_0.out (x2_1 : Int) p8 q8
        replace p8 := eq_true p8
        replace q8 := eq_true q8
        have HP11 := Kd.R_putn HO_0.out (x2_1 : Int) (rd x0_1 x3_1)
        rw [← Ny286.out] at HP11
        have HQ11 := am HP11
        clear HP11
        have p9 : 0 ≤ (x3_1 : Int) := of_decide_eq_true zq0
        have q9 : (x3_1 : Int) < ((x0_1.length : Int) : Int) := of_decide_eq_true zq0
        obtain ⟨hx9_0, hf9_0⟩ := Kd.R_celln 0 HQ11.out (x3_1 : Int) p9 q9
        replace p9 := eq_true p9
        replace q9 := eq_true q9
        have HP12 := Kd.R_putn HQ11.out (x3_1 : Int) (rd x0_1 x2_1)
        rw [← Ny287.out] at HP12
        have HQ12 := am HP12
        clear HP12
        refine start_ (n := 16) (S := fun w' => w'.cell? ⟨go8, (x3_1).toNat, none⟩ = some (.int .i64 (rd x0_1 x3_1)) ∧ w'.cell? ⟨go8, (x2_1).toNat, none⟩ = some (.int .i64 (rd x0_1 x2_1))) (ds := [13, 15]) #[false, false, false, false, false, false, false, false, false, false, false, false, false, false, false, false] zq20 rfl rfl ⟨hx284_0, hx285_0⟩ (fun hHeld => ?_); refine with_tabW slices_Reverse_int_int.tab3 slices_Reverse_int_int.bits3 (fun HT_ HW_ => ?_)
        generalize wr.drew = w10 at HO_0 HK HB GG8 HQ11 HQ12 hf8_0 hf9_0 hx284_0 hx285_0 hx8_0 hx9_0 hHeld ⊢
        refine zU 0 14 HT_ ?_
        refine zU 1 15 HT_ ?_
        refine zU 2 16 HT_ ?_
        refine zU 3 17 HT_ ?_
        refine zU 4 18 HT_ ?_
        refine zU 5 19 HT_ ?_
        refine zU 6 20 HT_ ?_
        refine zU 8 22 HT_ ?_
        refine zU 9 23 HT_ ?_
        refine zU 10 24 HT_ ?_
        refine zT 7 21 HT_ HW_ hHeld ?_
        refine zT 11 25 HT_ HW_ hHeld ?_
        refine zU 12 26 HT_ ?_
        refine last_ (i := 13) (N := none) #[true, true, true, true, true, true, true, true, true, true, true, true, true, true, false, false] rfl rfl (one_of HT_.out zq20) zq33 (fun K hK => ?_)
        refine skip_ (w1 := ?_) (by rfl) rfl ?_ ?_
        rotate_left
        ·go_simp
         rfl
        refine hK.out _ _ ?_
        clear hK K
        refine zU 14 27 HT_ ?_
        refine last_ (i := 15) (N := none) #[true, true, true, true, true, true, true, true, true, true, true, true, true, true, true, true] rfl rfl (one_of HT_.out zq20) zq33 (fun K hK => ?_)
        refine skip_ (w1 := ?_) (by rfl) rfl ?_ ?_
        rotate_left
        ·go_simp
         rfl
        refine hK.out _ _ ?_
        clear hK K
        refine done_ (done_of HT_.out zq20) ?_
        try go_wp2
        (try simp only [← hl0_1])
        go_roundg k1
        case measure => have := HK1.out; omega
        case rel => exact ⟨(y287), (wrap64 (x2_1 + 1)), (wrap64 (x3_1 - 1)), zq3, zq3, H', ⟨zq32⟩, ⟨by (try simp only [hl0_1]); (with_reducible repeat (first | apply Kd.R_alloc | apply Kd.R_drewN | apply Kd.R_drew)); exact HQ12.out⟩, ⟨by repeat (first | (with_reducible first | exact HK.out | apply Kept.alloc | apply Kept.drewN | apply Kept.drew | refine Kept.setCell ?_ HMgo8.out _ | refine Kept.setCell ?_ HMgo8.out _) | exact HK.out)⟩, ⟨by repeat (first | (with_reducible first | exact HB.out | apply below_alloc | apply pw_below_drewN | apply below_drew1 | refine below_set ?_ GB8.out | refine below_set ?_ GB8.out) | exact HB.out)⟩⟩
       ·rw [if_neg c7] at H
        exact absurd H zq24
      ·rw [if_neg c6] at H
       exact absurd H zq24
     ·rw [if_neg c5] at H
      exact absurd H zq24
    ·rw [if_neg c4] at H
     exact absurd H zq24
   ·rw [if_neg c3] at H
    have c3b0 : decide (x2_1 < x3_1) = false := decide_eq_false c3
    clear c3
    obtain rfl := Option.some.inj H
    go_wp2
    first | go_end0 | ((try simp only [Exit.inBlock, Exit.then]); refine bodyPost_ret (results_none rfl _ _ _) rfl ?_)
    exact ⟨zq6, (by first | exact (pRq5 HO_0) | (simp only [hl0_1]; exact (pRq5 HO_0))), zq1, zq13⟩
/-! ### slices_Insert_int_int: function 60 -/
def slices_Insert_int_int.f (l0 : List Int) (a1 : Int) (l2 : List Int) : Option (List Int) := if 0 ≤ a1 then (if a1 ≤ (l0.length : Int) then (if 0 < l2.length then (if l0.length + l2.length ≤ 1048576 then (some (l0.take a1.toNat ++ l2 ++ l0.drop a1.toNat)) else (none)) else (none)) else (none)) else (none)
theorem slices_Insert_int_int.encs_map (l : List Int) : encs (Value.int .i64) l = l.map (Value.int .i64) := by simp [encs]
theorem slices_Insert_int_int.put (g : Nat) (cur : Array Value) (e : TypeId) (W : World) (i m k : Nat) (vs zs : List Value) (hvs : vs.length = m) (hzs : zs.length = k) (hh : W.heap[g]? = some (.cells cur e (0, 0))) (hsz : i + m + k ≤ cur.size) :
  (∃ c, ((W.setCells g i vs).setCells g (i + m) zs).heap[g]? = some (.cells c e (0, 0)) ∧ c.size = cur.size ∧ c.toList.take (i + m + k) = cur.toList.take i ++ vs ++ zs) ∧ (∃ c, ((W.setCells g (i + m) zs).setCells g i vs).heap[g]? = some (.cells c e (0, 0)) ∧ c.size = cur.size ∧ c.toList.take (i + m + k) = cur.toList.take i ++ vs ++ zs) := by
 have hl : cur.toList.length = cur.size := Array.length_toList
 constructor
 ·obtain ⟨c1, h1, h2, h3⟩ := setCells_row vs i W cur hh zq10
  obtain ⟨c2, h4, h5, h6⟩ := setCells_row zs (i + m) _ c1 h1 zq10
  refine ⟨c2, h4, zq10, ?_⟩
  have e1 : c1.toList.take (i + m) = cur.toList.take i ++ vs := by
   rw [h3]; exact List.take_left' (by rw [List.length_append, List.length_take]; omega)
  rw [h6, e1]
  exact List.take_left' zq57
 ·obtain ⟨c1, h1, h2, h3⟩ := setCells_row zs (i + m) W cur hh zq10
  obtain ⟨c2, h4, h5, h6⟩ := setCells_row vs i _ c1 h1 zq10
  refine ⟨c2, h4, zq10, ?_⟩
  have e1 : c1.toList.take i = cur.toList.take i := by
   rw [h3, List.append_assoc, List.take_append_of_le_length (by rw [List.length_take]; omega), List.take_take, Nat.min_eq_left zq10]
  have e2 : c1.toList.drop (i + vs.length) = zs ++ cur.toList.drop (i + m + zs.length) := by
   rw [h3, List.append_assoc]
   exact List.drop_left' (by rw [List.length_take]; omega)
  rw [h6, e1, e2, ← List.append_assoc]
  exact List.take_left' zq57
theorem slices_Insert_int_int.fin (g : Nat) (c : Array Value) (W : World) (base n' cap : Nat) (P' : Nat → Prop) (r : List Int) (hh : W.heap[g]? = some (.cells c 3 (0, 0))) (hc : c.size = cap) (hr : r.length = n') (hn : n' ≤ cap) (hcm : cap ≤ maxLen) (hb : base ≤ g) (hP : P' g) (ht : c.toList.take n' = r.map (Value.int .i64)) : Kd.R (Kd.int .i64) 3 W base P' (.slice (some ⟨g, 0, none⟩) n' cap) r := by
 subst hr
 refine Kd.R_of_own (enc := Value.int .i64) (h1 := fun _ => rfl) ?_ (fun k hk => ?_)
 ·refine ⟨by rw [encs_length, Nat.mul_one], .inr ⟨g, cap, c, rfl, hb, hh, hn, hcm, zq10, ?_⟩⟩
  rw [Nat.mul_one, ht, slices_Insert_int_int.encs_map]
 ·simp only [Value.ownBlock] at hk
  obtain rfl : g = k := by simpa using hk
  exact hP
theorem slices_Insert_int_int.world (g : Nat) (w0 w W : World) (base o1 o2 : Nat) (vs zs : List Value) (S : Nat → Prop) (hS : S g ∨ w.heap.size ≤ g) (hb : base ≤ g) (hB : Below base w0 W) (hK : Kept w W S) :
  Below base w0 ((W.setCells g o1 vs).setCells g o2 zs) ∧ Kept w ((W.setCells g o1 vs).setCells g o2 zs) S := by
 obtain ⟨s1, s2, s3, s4⟩ := setCells_same g vs o1 W
 obtain ⟨t1, t2, t3, t4⟩ := setCells_same g zs o2 (W.setCells g o1 vs)
 have hfar : ∀ k, k ≠ g → ((W.setCells g o1 vs).setCells g o2 zs).heap[k]? = W.heap[k]? := fun k hk => (setCells_far zs _ k hk).trans (setCells_far vs _ k hk)
 refine ⟨⟨by rw [t1, s1]; exact hB.os, by rw [t2, s2]; exact hB.tape, by rw [t3, s3]; exact hB.output, by rw [t4, s4]; exact hB.size, fun k hk => (hfar k zq10).trans (hB.block k hk)⟩, ⟨by rw [t4, s4]; exact hK.1, fun k hk hn => (hfar k (fun e => ?_)).trans (hK.2 k hk hn)⟩⟩
 subst e
 rcases hS with h | h
 ·exact hn h
 ·omega
theorem slices_Insert_int_int.cells {g n : Nat} {cur : Array Value} {W : World} {l : List Int} (hh : W.heap[g]? = some (.cells cur 3 (0, 0))) (hl : l.length = n) (ht : cur.toList.take n = l.map (Value.int .i64)) : ∀ j v, (l.map (Value.int .i64))[j]? = some v → W.cell? ⟨g, 0 + j, none⟩ = some v := by
 intro j v hv
 have hj : j < n := by
  have := (List.getElem?_eq_some_iff.1 hv).1
  rwa [List.length_map, hl] at this
 rw [Nat.zero_add, cell_of_row W g j cur 3 (0, 0) hh, ← hv, ← ht, List.getElem?_take, if_pos hj, Array.getElem?_toList]
theorem slices_Insert_int_int.some_cell {g j : Nat} {cur : Array Value} {W : World} (hh : W.heap[g]? = some (.cells cur 3 (0, 0))) (hj : j < cur.size) : (W.cell? ⟨g, j, none⟩).isSome = true := by
 rw [cell_of_row W g j cur 3 (0, 0) hh, Array.getElem?_eq_getElem hj]; rfl
theorem slices_Insert_int_int.one (l : List Int) : ∀ v ∈ l.map (Value.int .i64), v.oneCell' = true := by
 intro v hv
 obtain ⟨x, _, rfl⟩ := List.mem_map.1 hv
 rfl
theorem slices_Insert_int_int.own {w : World} {base : Nat} {P' : Nat → Prop} {v : Value} {l : List Int} (h : Kd.R (Kd.int .i64) 3 w base P' v l) : (v = .slice none 0 0 ∧ l = []) ∨ ∃ g cap cur, v = .slice (some ⟨g, 0, none⟩) l.length cap ∧ base ≤ g ∧ P' g ∧ w.heap[g]? = some (.cells cur 3 (0, 0)) ∧ l.length ≤ cap ∧ cap ≤ maxLen ∧ cur.size = cap ∧ cur.toList.take l.length = l.map (Value.int .i64) := by
 rcases (Kd.own_of_R (enc := Value.int .i64) (h1 := fun _ => rfl) h).2 with ⟨hv, hn⟩ | ⟨g, cap, cur, hv, hb, hh, hnc, hcm, hcs, ht⟩
 ·exact .inl ⟨by rw [hv], List.eq_nil_of_length_eq_zero hn⟩
 ·refine .inr ⟨g, cap, cur, hv, hb, h.1 g (by rw [hv]; simp [Value.ownBlock]), hh, hnc, hcm, zq10, ?_⟩
  rw [Nat.mul_one, slices_Insert_int_int.encs_map] at ht
  exact ht
set_option maxHeartbeats 4000000 in
set_option maxRecDepth 100000 in
theorem slices_Insert_int_int.calls (P0_ : Nat → Prop) (u9000_ : Value) (l0 : List Int) (a1 : Int) (P2_ : Nat → Prop) (u9001_ : Value) (l2 : List Int) (r : List Int) (w0 w : World) (hB : Below w0.heap.size w0 w) (ho0 : Kd.R (Kd.int .i64) 3 w w0.heap.size P0_ u9000_ l0) (hp0_2 : ∀ k_, P0_ k_ → ¬ P2_ k_) (ho2 : Kd.R (Kd.int .i64) 3 w w0.heap.size P2_ u9001_ l2) (hp2_0 : ∀ k_, P2_ k_ → ¬ P0_ k_) (h : slices_Insert_int_int.f l0 a1 l2 = some r) :
  Calls Try.prog 60 #[u9000_, .int .i64 a1, u9001_] w fun e w' => ∃ v0_ : Value, e = .returned (v0_) ∧ Kd.R (Kd.int .i64) 3 w' w0.heap.size (fun k_ => ((P0_ k_ ∨ P2_ k_) ∨ w.heap.size ≤ k_)) v0_ r ∧ Below w0.heap.size w0 w' ∧ Kept w w' (fun k_ => P0_ k_ ∨ P2_ k_) := by
 unfold slices_Insert_int_int.f at h
 by_cases h1 : 0 ≤ a1
 ·rw [if_pos h1] at h
  by_cases h2 : a1 ≤ (l0.length : Int)
  ·rw [if_pos h2] at h
   by_cases h3 : 0 < l2.length
   ·rw [if_pos h3] at h
    by_cases h4 : l0.length + l2.length ≤ 1048576
    ·rw [if_pos h4] at h
     obtain rfl := Option.some.inj h
     clear h
     obtain ⟨i, rfl⟩ := Int.eq_ofNat_of_zero_le h1
     simp only [Int.toNat_natCast]
     have hi : i ≤ l0.length := zq10
     rcases slices_Insert_int_int.own ho2 with ⟨_, e⟩ | ⟨vb, vc, vcur, rfl, hvb, hvP, hvh, hvn, hvm, hvs, hvt⟩
     ·subst e; simp at h3
     have hvcell := slices_Insert_int_int.cells hvh rfl hvt
     have hone := slices_Insert_int_int.one l2
     have hvl : (l2.map (Value.int .i64)).length = l2.length := List.length_map _
     have hml : maxLen = 9223372036854775807 := rfl
     have hrl : (l0.take i ++ l2 ++ l0.drop i).length = l0.length + l2.length := by simp; omega
     have hws := hB.size
     rcases slices_Insert_int_int.own ho0 with ⟨rfl, e⟩ | ⟨g, cap, cur, rfl, hb, hP, hh, hnc, hcm, hcs, ht⟩
     ·subst e
      obtain rfl : i = 0 := by simpa using hi
      refine (Any2.slices_Insert_int_end_grow Try.lays21 none 0 0 vb 0 l2.length vc [] (l2.map (Value.int .i64)) w h3 (Nat.le_refl _) zq10 (by simp at h4; omega) rfl hvl (fun _ => rfl) (fun a h => by cases h) hvcell hone).mono ?_
      rintro e w' ⟨rfl, rfl⟩
      have g1 := grownCap_ge w (0 + l2.length) 0 3
      have g2 := grownCap_le_maxLen w (0 + l2.length) 0 3 (by simp at h4; omega)
      refine ⟨_, rfl, slices_Insert_int_int.fin w.heap.size _ _ _ _ _ _ _ (by show (Array.push w.heap _)[w.heap.size]? = _; exact Array.getElem?_push_size) ?_ zq24 g1 g2 hws (.inr (Nat.le_refl _)) ?_, below_alloc (below_drew1 hB) _, Kept.alloc (Kept.drew (Kept.refl _ _)) _⟩
      ·rw [show Try.lays21_ren.t 3 = 3 from rfl]
       have e : grownCap w l2.length 0 3 = grownCap w (0 + l2.length) 0 3 := by rw [Nat.zero_add]
       simp only [Array.size_append, size_zeroCells, List.size_toArray, List.length_append, List.length_map, List.length_nil, Value.cells]
       simp
       simp at g1
       omega
      ·rw [Array.toList_append, List.nil_append]
       simp [List.take_append_of_le_length]
     ·have hcell := slices_Insert_int_int.cells hh rfl ht
      have hcl : (l0.map (Value.int .i64)).length = l0.length := List.length_map _
      have honec := slices_Insert_int_int.one l0
      have hvg : vb ≠ g := fun e => hp0_2 g hP (e ▸ hvP)
      have hdl : ((l0.map (Value.int .i64)).drop i).length = l0.length - i := zq24
      have hfin : (cur.toList.take i ++ l2.map (Value.int .i64) ++ (l0.map (Value.int .i64)).drop i) = (l0.take i ++ l2 ++ l0.drop i).map (Value.int .i64) := by
       have e1 : cur.toList.take i = (l0.map (Value.int .i64)).take i := by rw [← ht, List.take_take, Nat.min_eq_left hi]
       rw [e1, List.map_append, List.map_append, List.map_take, List.map_drop]
      by_cases hroom : l0.length + l2.length ≤ cap
      ·obtain ⟨⟨c1, p1, p2, p3⟩, ⟨c2, q1, q2, q3⟩⟩ := slices_Insert_int_int.put g cur 3 w i l2.length (l0.length - i) (l2.map (Value.int .i64)) ((l0.map (Value.int .i64)).drop i) hvl hdl hh zq10
       by_cases hin : i = l0.length
       ·subst hin
        refine (Any2.slices_Insert_int_end_room Try.lays21 g 0 l0.length cap vb 0 l2.length vc (l2.map (Value.int .i64)) w h3 hroom zq10 hvl (fun j hj => slices_Insert_int_int.some_cell hh zq10) (fun j hj => blk_frozen hh _) hvcell hone).mono ?_
        rintro e w' ⟨rfl, rfl⟩
        have hd : (l0.map (Value.int .i64)).drop l0.length = [] := List.drop_eq_nil_of_le zq24
        rw [hd] at p1 p3 hfin
        have hW := slices_Insert_int_int.world g w0 w w w0.heap.size l0.length (l0.length + l2.length) (l2.map (Value.int .i64)) [] (fun k_ => P0_ k_ ∨ P2_ k_) (.inl (.inl hP)) hb hB (Kept.refl _ _)
        rw [Nat.zero_add]
        exact ⟨_, rfl, slices_Insert_int_int.fin g c1 _ _ _ _ _ _ p1 zq10 hrl hroom hcm hb (.inl (.inl hP)) (by rw [← hfin, ← p3]; congr 1; omega), hW.1, hW.2⟩
       ·refine (Any2.slices_Insert_int_shift Try.lays21 g 0 l0.length cap i vb 0 l2.length vc (l0.map (Value.int .i64)) (l2.map (Value.int .i64)) w zq10 h3 hroom zq10 hvg hcl hvl hcell (fun j hj => slices_Insert_int_int.some_cell hh zq10) (fun j hj => blk_frozen hh _) hvcell honec hone 3 3 vcur.size cur.size (by simp [World.shape?, hvh]) (by simp [World.shape?, hh]) zq10 (blk_frozen hvh _) (blk_frozen hvh _)).mono ?_
        rintro e w' ⟨rfl, rfl⟩
        have hW := slices_Insert_int_int.world g w0 w w.drew w0.heap.size (i + l2.length) i ((l0.map (Value.int .i64)).drop i) (l2.map (Value.int .i64)) (fun k_ => P0_ k_ ∨ P2_ k_) (.inl (.inl hP)) hb (below_drew1 hB) (Kept.drew (Kept.refl _ _))
        obtain ⟨_, ⟨c3, r1, r2, r3⟩⟩ := slices_Insert_int_int.put g cur 3 w.drew i l2.length (l0.length - i) (l2.map (Value.int .i64)) ((l0.map (Value.int .i64)).drop i) hvl hdl hh zq10
        rw [Nat.zero_add, Nat.zero_add]
        exact ⟨_, rfl, slices_Insert_int_int.fin g c3 _ _ _ _ _ _ r1 zq10 hrl hroom hcm hb (.inl (.inl hP)) (by rw [← hfin, ← r3]; congr 1; omega), hW.1, hW.2⟩
      ·have g1 := grownCap_ge w (l0.length + l2.length) cap 3
       have g2 := grownCap_le_maxLen w (l0.length + l2.length) cap 3 zq10
       by_cases hin : i = l0.length
       ·subst hin
        refine (Any2.slices_Insert_int_end_grow Try.lays21 (some ⟨g, 0, none⟩) l0.length cap vb 0 l2.length vc (l0.map (Value.int .i64)) (l2.map (Value.int .i64)) w h3 hnc zq10 zq10 hcl hvl (fun h => by cases h) (fun a ha j v hv => by cases ha; rw [add_at]; exact hcell j v hv) hvcell hone).mono ?_
        rintro e w' ⟨rfl, rfl⟩
        refine ⟨_, rfl, slices_Insert_int_int.fin w.heap.size _ _ _ _ _ _ _ (by show (Array.push w.heap _)[w.heap.size]? = _; exact Array.getElem?_push_size) ?_ hrl g1 g2 hws (.inr (Nat.le_refl _)) ?_, below_alloc (below_drew1 hB) _, Kept.alloc (Kept.drew (Kept.refl _ _)) _⟩
        ·rw [show Try.lays21_ren.t 3 = 3 from rfl]
         simp only [Array.size_append, size_zeroCells, List.size_toArray, List.length_append, List.length_map, Value.cells]
         simp
         omega
        ·rw [Array.toList_append, List.take_left' zq24]
         simp
       ·refine (Any2.slices_Insert_int_grow Try.lays21 g 0 l0.length cap i vb 0 l2.length vc (l0.map (Value.int .i64)) (l2.map (Value.int .i64)) w zq10 h3 hnc zq10 zq10 hcl hvl hcell hvcell honec hone).mono ?_
        rintro e w' ⟨rfl, rfl⟩
        obtain ⟨arr, harr⟩ : ∃ arr : Array Value, arr = ((l0.map (Value.int .i64)).take i).toArray ++ Builtin.zeroCells (Value.int .i64 0).cells (l0.length + l2.length - i) ++ Builtin.zeroCells (Value.int .i64 0).cells (grownCap w (l0.length + l2.length) cap 3 - (l0.length + l2.length)) := ⟨_, rfl⟩
        have hasz : arr.size = grownCap w (l0.length + l2.length) cap 3 := by
         rw [harr]
         simp only [Array.size_append, size_zeroCells, List.size_toArray, List.length_take, List.length_map, Value.cells]
         simp
         omega
        have hat : arr.toList.take i = cur.toList.take i := by
         have e1 : cur.toList.take i = (l0.map (Value.int .i64)).take i := by rw [← ht, List.take_take, Nat.min_eq_left hi]
         rw [e1, harr, Array.toList_append, Array.toList_append, List.append_assoc]
         exact List.take_left' (by simp; omega)
        have hnew : (w.alloc (.cells arr 3)).drew.drew.heap[w.heap.size]? = some (.cells arr 3 (0, 0)) := by
         show (Array.push w.heap _)[w.heap.size]? = _
         exact Array.getElem?_push_size
        have hW := slices_Insert_int_int.world w.heap.size w0 w (w.alloc (.cells arr 3)).drew.drew w0.heap.size i (i + l2.length) (l2.map (Value.int .i64)) ((l0.map (Value.int .i64)).drop i) (fun k_ => P0_ k_ ∨ P2_ k_) (.inr (Nat.le_refl _)) hws (below_drew1 (below_drew1 (below_alloc hB _))) (Kept.drew (Kept.drew (Kept.alloc (Kept.refl _ _) _)))
        obtain ⟨⟨c3, r1, r2, r3⟩, _⟩ := slices_Insert_int_int.put w.heap.size arr 3 _ i l2.length (l0.length - i) (l2.map (Value.int .i64)) ((l0.map (Value.int .i64)).drop i) hvl hdl hnew zq10
        rw [show Try.lays21_ren.t 3 = 3 from rfl, ← harr, drew_setCells]
        exact ⟨_, rfl, slices_Insert_int_int.fin w.heap.size c3 _ _ _ _ _ _ r1 zq10 hrl g1 g2 hws (.inr (Nat.le_refl _)) (by rw [← hfin, ← hat, ← r3]; congr 1; omega), hW.1, hW.2⟩
    ·rw [if_neg h4] at h; cases h
   ·rw [if_neg h3] at h; cases h
  ·rw [if_neg h2] at h; cases h
 ·rw [if_neg h1] at h; cases h
/-! ### slices_Replace_int_int: function 47 -/
def slices_Replace_int_int.f (l0 : List Int) (a1 : Int) (a2 : Int) (l3 : List Int) : Option (List Int) := if 0 ≤ a1 then (if a2 = a1 + (l3.length : Int) then (if a2 ≤ (l0.length : Int) then (if 0 < l3.length then (if l0.length ≤ 1048576 then (some (l0.take a1.toNat ++ l3 ++ l0.drop a2.toNat)) else (none)) else (none)) else (none)) else (none)) else (none)
theorem slices_Replace_int_int.encs_map (l : List Int) : encs (Value.int .i64) l = l.map (Value.int .i64) := by simp [encs]
theorem slices_Replace_int_int.put (g : Nat) (cur : Array Value) (e : TypeId) (W : World) (i m k : Nat) (vs zs : List Value) (hvs : vs.length = m) (hzs : zs.length = k) (hh : W.heap[g]? = some (.cells cur e (0, 0))) (hsz : i + m + k ≤ cur.size) :
  (∃ c, ((W.setCells g i vs).setCells g (i + m) zs).heap[g]? = some (.cells c e (0, 0)) ∧ c.size = cur.size ∧ c.toList.take (i + m + k) = cur.toList.take i ++ vs ++ zs) ∧ (∃ c, ((W.setCells g (i + m) zs).setCells g i vs).heap[g]? = some (.cells c e (0, 0)) ∧ c.size = cur.size ∧ c.toList.take (i + m + k) = cur.toList.take i ++ vs ++ zs) := by
 have hl : cur.toList.length = cur.size := Array.length_toList
 constructor
 ·obtain ⟨c1, h1, h2, h3⟩ := setCells_row vs i W cur hh zq10
  obtain ⟨c2, h4, h5, h6⟩ := setCells_row zs (i + m) _ c1 h1 zq10
  refine ⟨c2, h4, zq10, ?_⟩
  have e1 : c1.toList.take (i + m) = cur.toList.take i ++ vs := by
   rw [h3]; exact List.take_left' (by rw [List.length_append, List.length_take]; omega)
  rw [h6, e1]
  exact List.take_left' zq57
 ·obtain ⟨c1, h1, h2, h3⟩ := setCells_row zs (i + m) W cur hh zq10
  obtain ⟨c2, h4, h5, h6⟩ := setCells_row vs i _ c1 h1 zq10
  refine ⟨c2, h4, zq10, ?_⟩
  have e1 : c1.toList.take i = cur.toList.take i := by
   rw [h3, List.append_assoc, List.take_append_of_le_length (by rw [List.length_take]; omega), List.take_take, Nat.min_eq_left zq10]
  have e2 : c1.toList.drop (i + vs.length) = zs ++ cur.toList.drop (i + m + zs.length) := by
   rw [h3, List.append_assoc]
   exact List.drop_left' (by rw [List.length_take]; omega)
  rw [h6, e1, e2, ← List.append_assoc]
  exact List.take_left' zq57
theorem slices_Replace_int_int.fin (g : Nat) (c : Array Value) (W : World) (base n' cap : Nat) (P' : Nat → Prop) (r : List Int) (hh : W.heap[g]? = some (.cells c 3 (0, 0))) (hc : c.size = cap) (hr : r.length = n') (hn : n' ≤ cap) (hcm : cap ≤ maxLen) (hb : base ≤ g) (hP : P' g) (ht : c.toList.take n' = r.map (Value.int .i64)) : Kd.R (Kd.int .i64) 3 W base P' (.slice (some ⟨g, 0, none⟩) n' cap) r := by
 subst hr
 refine Kd.R_of_own (enc := Value.int .i64) (h1 := fun _ => rfl) ?_ (fun k hk => ?_)
 ·refine ⟨by rw [encs_length, Nat.mul_one], .inr ⟨g, cap, c, rfl, hb, hh, hn, hcm, zq10, ?_⟩⟩
  rw [Nat.mul_one, ht, slices_Replace_int_int.encs_map]
 ·simp only [Value.ownBlock] at hk
  obtain rfl : g = k := by simpa using hk
  exact hP
theorem slices_Replace_int_int.world (g : Nat) (w0 w W : World) (base o1 o2 : Nat) (vs zs : List Value) (S : Nat → Prop) (hS : S g ∨ w.heap.size ≤ g) (hb : base ≤ g) (hB : Below base w0 W) (hK : Kept w W S) :
  Below base w0 ((W.setCells g o1 vs).setCells g o2 zs) ∧ Kept w ((W.setCells g o1 vs).setCells g o2 zs) S := by
 obtain ⟨s1, s2, s3, s4⟩ := setCells_same g vs o1 W
 obtain ⟨t1, t2, t3, t4⟩ := setCells_same g zs o2 (W.setCells g o1 vs)
 have hfar : ∀ k, k ≠ g → ((W.setCells g o1 vs).setCells g o2 zs).heap[k]? = W.heap[k]? := fun k hk => (setCells_far zs _ k hk).trans (setCells_far vs _ k hk)
 refine ⟨⟨by rw [t1, s1]; exact hB.os, by rw [t2, s2]; exact hB.tape, by rw [t3, s3]; exact hB.output, by rw [t4, s4]; exact hB.size, fun k hk => (hfar k zq10).trans (hB.block k hk)⟩, ⟨by rw [t4, s4]; exact hK.1, fun k hk hn => (hfar k (fun e => ?_)).trans (hK.2 k hk hn)⟩⟩
 subst e
 rcases hS with h | h
 ·exact hn h
 ·omega
theorem slices_Replace_int_int.cells {g n : Nat} {cur : Array Value} {W : World} {l : List Int} (hh : W.heap[g]? = some (.cells cur 3 (0, 0))) (hl : l.length = n) (ht : cur.toList.take n = l.map (Value.int .i64)) : ∀ j v, (l.map (Value.int .i64))[j]? = some v → W.cell? ⟨g, 0 + j, none⟩ = some v := by
 intro j v hv
 have hj : j < n := by
  have := (List.getElem?_eq_some_iff.1 hv).1
  rwa [List.length_map, hl] at this
 rw [Nat.zero_add, cell_of_row W g j cur 3 (0, 0) hh, ← hv, ← ht, List.getElem?_take, if_pos hj, Array.getElem?_toList]
theorem slices_Replace_int_int.some_cell {g j : Nat} {cur : Array Value} {W : World} (hh : W.heap[g]? = some (.cells cur 3 (0, 0))) (hj : j < cur.size) : (W.cell? ⟨g, j, none⟩).isSome = true := by
 rw [cell_of_row W g j cur 3 (0, 0) hh, Array.getElem?_eq_getElem hj]; rfl
theorem slices_Replace_int_int.one (l : List Int) : ∀ v ∈ l.map (Value.int .i64), v.oneCell' = true := by
 intro v hv
 obtain ⟨x, _, rfl⟩ := List.mem_map.1 hv
 rfl
theorem slices_Replace_int_int.own {w : World} {base : Nat} {P' : Nat → Prop} {v : Value} {l : List Int} (h : Kd.R (Kd.int .i64) 3 w base P' v l) : (v = .slice none 0 0 ∧ l = []) ∨ ∃ g cap cur, v = .slice (some ⟨g, 0, none⟩) l.length cap ∧ base ≤ g ∧ P' g ∧ w.heap[g]? = some (.cells cur 3 (0, 0)) ∧ l.length ≤ cap ∧ cap ≤ maxLen ∧ cur.size = cap ∧ cur.toList.take l.length = l.map (Value.int .i64) := by
 rcases (Kd.own_of_R (enc := Value.int .i64) (h1 := fun _ => rfl) h).2 with ⟨hv, hn⟩ | ⟨g, cap, cur, hv, hb, hh, hnc, hcm, hcs, ht⟩
 ·exact .inl ⟨by rw [hv], List.eq_nil_of_length_eq_zero hn⟩
 ·refine .inr ⟨g, cap, cur, hv, hb, h.1 g (by rw [hv]; simp [Value.ownBlock]), hh, hnc, hcm, zq10, ?_⟩
  rw [Nat.mul_one, slices_Replace_int_int.encs_map] at ht
  exact ht
set_option maxHeartbeats 4000000 in
set_option maxRecDepth 100000 in
theorem slices_Replace_int_int.calls (P0_ : Nat → Prop) (u9000_ : Value) (l0 : List Int) (a1 : Int) (a2 : Int) (P3_ : Nat → Prop) (u9001_ : Value) (l3 : List Int) (r : List Int) (w0 w : World) (hB : Below w0.heap.size w0 w) (ho0 : Kd.R (Kd.int .i64) 3 w w0.heap.size P0_ u9000_ l0) (hp0_3 : ∀ k_, P0_ k_ → ¬ P3_ k_) (ho3 : Kd.R (Kd.int .i64) 3 w w0.heap.size P3_ u9001_ l3) (hp3_0 : ∀ k_, P3_ k_ → ¬ P0_ k_) (h : slices_Replace_int_int.f l0 a1 a2 l3 = some r) :
  Calls Try.prog 47 #[u9000_, .int .i64 a1, .int .i64 a2, u9001_] w fun e w' => ∃ v0_ : Value, e = .returned (v0_) ∧ Kd.R (Kd.int .i64) 3 w' w0.heap.size (fun k_ => ((P0_ k_ ∨ P3_ k_) ∨ w.heap.size ≤ k_)) v0_ r ∧ Below w0.heap.size w0 w' ∧ Kept w w' (fun k_ => P0_ k_ ∨ P3_ k_) := by
 unfold slices_Replace_int_int.f at h
 by_cases h1 : 0 ≤ a1
 ·rw [if_pos h1] at h
  by_cases h2 : a2 = a1 + (l3.length : Int)
  ·rw [if_pos h2] at h
   by_cases h3 : a2 ≤ (l0.length : Int)
   ·rw [if_pos h3] at h
    by_cases h4 : 0 < l3.length
    ·rw [if_pos h4] at h
     by_cases h5 : l0.length ≤ 1048576
     ·rw [if_pos h5] at h
      obtain rfl := Option.some.inj h
      clear h
      obtain ⟨i, rfl⟩ := Int.eq_ofNat_of_zero_le h1
      obtain ⟨j, rfl⟩ := Int.eq_ofNat_of_zero_le (show 0 ≤ a2 by omega)
      simp only [Int.toNat_natCast]
      have hj : j = i + l3.length := zq10
      have hjn : j ≤ l0.length := zq10
      have hij : i < j := zq10
      rcases slices_Replace_int_int.own ho3 with ⟨_, e⟩ | ⟨vb, vc, vcur, rfl, hvb, hvP, hvh, hvn, hvm, hvs, hvt⟩
      ·subst e; simp at h4
      rcases slices_Replace_int_int.own ho0 with ⟨_, e⟩ | ⟨g, cap, cur, rfl, hb, hP, hh, hnc, hcm, hcs, ht⟩
      ·subst e; simp at hjn; omega
      have hvcell := slices_Replace_int_int.cells hvh rfl hvt
      have hone := slices_Replace_int_int.one l3
      have hcell := slices_Replace_int_int.cells hh rfl ht
      have hvg : vb ≠ g := fun e => hp0_3 g hP (e ▸ hvP)
      have hml : maxLen = 9223372036854775807 := rfl
      obtain ⟨⟨c1, p1, p2, p3⟩, _⟩ := slices_Replace_int_int.put g cur 3 w i l3.length (l0.length - j) (l3.map (Value.int .i64)) ((l0.drop j).map (Value.int .i64)) zq24 zq24 hh zq10
      have hW := slices_Replace_int_int.world g w0 w w w0.heap.size i (i + l3.length) (l3.map (Value.int .i64)) ((l0.drop j).map (Value.int .i64)) (fun k_ => P0_ k_ ∨ P3_ k_) (.inl (.inl hP)) hb hB (Kept.refl _ _)
      have hvl : (l3.map (Value.int .i64)).length = l3.length := List.length_map _
      have hsrc : Src Try.prog 1 22 (.slice (some ⟨vb, 0, none⟩) l3.length vc) l3.length (l3.map (Value.int .i64)) w := Src.ofSlice w Try.underlying22 ⟨vb, 0, none⟩ l3.length vc (l3.map (Value.int .i64)) zq10 (fun j u hj => by rw [Addr.add_lit]; exact hvcell j u hj) hone
      by_cases hjl : j = l0.length
      ·have hroom : i + l3.length ≤ cap := zq10
       have hsp : ∀ q, q < l3.length → (w.cell? ⟨g, 0 + i + q, none⟩).isSome = true := fun q hq => slices_Replace_int_int.some_cell hh zq10
       have hfz : ∀ q, q < l3.length → w.frozen? ⟨g, 0 + i + q, none⟩ = false := fun q hq => blk_frozen hh _
       go_enter Try.func47, Try.ntmps47
       go_wp2_with (at_builtin; refine wpList_append_room1 _ rfl _ _ 22 22 rfl 3 _ _ Try.underlying22 Try.lays21.i3 g 0 i cap rfl _ rfl l3.length (l3.map (Value.int .i64)) hsrc hroom (by rw [hvl]; exact hsp) (by rw [hvl]; exact hfz) ?_)
       go_ret
       have hd : (l0.drop j).map (Value.int .i64) = [] := by rw [List.drop_eq_nil_of_le zq10]; rfl
       rw [hd] at p1 p3 hW
       have hrl : (l0.take i ++ l3 ++ l0.drop j).length = i + l3.length := by simp; omega
       have hfin : cur.toList.take i ++ l3.map (Value.int .i64) ++ [] = (l0.take i ++ l3 ++ l0.drop j).map (Value.int .i64) := by
        have e1 : cur.toList.take i = (l0.map (Value.int .i64)).take i := by rw [← ht, List.take_take, Nat.min_eq_left zq10]
        rw [e1, ← hd, List.map_append, List.map_append, List.map_take]
       exact ⟨_, rfl, slices_Replace_int_int.fin g c1 _ _ _ _ _ _ p1 zq10 hrl hroom hcm hb (.inl (.inl hP)) (by rw [← hfin, ← p3]; congr 1; omega), hW.1, hW.2⟩
      ·have hsz : (Try.prog.info? 3).map (·.size) = some 1 := by
        obtain ⟨i0, hi0, hz0, hz1, hz2⟩ := info_parts info3
        rw [hi0]; simp [hz1]
       subst hj
       have hjn' : i + l3.length < l0.length := zq10
       have hcp1 : ∀ q L dc ty, l3.length ≤ L → (Builtin.copy_ #[22, 22] ty #[.slice (some ⟨g, i, none⟩) L dc, .slice (some ⟨vb, 0, none⟩) l3.length vc]).run Try.prog (w.drewN q) = .ok (goInt (l3.map (Value.int .i64)).length) ((w.drewN q).setCells g i (l3.map (Value.int .i64))) := fun q L dc ty hL =>
        run_copy_cells (w.drewN q) _ _ ty 3 g i L dc ⟨vb, 0, none⟩ l3.length vc (l3.map (Value.int .i64)) Try.underlying22 hsz (by rw [hvl]; simp only [Nat.min_def]; split <;> omega) (fun j v hj => by rw [Addr.add_lit]; exact hvcell j v hj) (fun q' hq => slices_Replace_int_int.some_cell (W := w.drewN q) hh zq10) (fun q' hq => blk_frozen (w := w.drewN q) hh _) hone
       have hkeep : ∀ q k v, ((l0.drop (i + l3.length)).map (Value.int .i64))[k]? = some v → ((w.drewN q).setCells g i (l3.map (Value.int .i64))).drew.cell? ⟨g, i + l3.length + k, none⟩ = some v := fun q k v hk => by
        show ((w.drewN q).setCells g i (l3.map (Value.int .i64))).cell? ⟨g, i + l3.length + k, none⟩ = some v
        rw [World.cell?_setCells_out g _ i _ ⟨g, i + l3.length + k, none⟩ (fun _ _ => by show i + l3.length + k < i ∨ i + (l3.map (Value.int .i64)).length ≤ i + l3.length + k; rw [hvl]; omega)]
        have := hcell (i + l3.length + k) v (by rw [List.getElem?_map, List.getElem?_drop, ← List.getElem?_map] at hk; exact hk)
        rw [Nat.zero_add] at this
        exact this
       have hcp2 : ∀ q L dc K sc ty, l0.length - (i + l3.length) = L → l0.length - (i + l3.length) = K → (Builtin.copy_ #[22, 22] ty #[.slice (some ⟨g, i + l3.length, none⟩) L dc, .slice (some ⟨g, i + l3.length, none⟩) K sc]).run Try.prog ((w.drewN q).setCells g i (l3.map (Value.int .i64))).drew = .ok (goInt ((l0.drop (i + l3.length)).map (Value.int .i64)).length) (((w.drewN q).setCells g i (l3.map (Value.int .i64))).drew.setCells g (i + l3.length) ((l0.drop (i + l3.length)).map (Value.int .i64))) := fun q L dc K sc ty hL hK => by
        subst hL
        subst hK
        refine run_copy_cells _ _ _ ty 3 g (i + l3.length) _ dc ⟨g, i + l3.length, none⟩ _ sc ((l0.drop (i + l3.length)).map (Value.int .i64)) Try.underlying22 hsz zq24 (fun k v hk => by rw [Addr.add_lit]; exact hkeep q k v hk) (fun k hk => ?_) (fun k hk => ?_) (slices_Replace_int_int.one _)
        ·have hk' : k < ((l0.drop (i + l3.length)).map (Value.int .i64)).length := by simpa using hk
         rw [hkeep q k _ (List.getElem?_eq_getElem hk')]; rfl
        ·show ((w.drewN q).setCells g i (l3.map (Value.int .i64))).frozen? ⟨g, i + l3.length + k, none⟩ = false
         rw [World.frozen?_setCells]
         exact blk_frozen (w := w.drewN q) hh _
       have htot : (i : Int) + (l3.length : Int) + ((l0.length - (i + l3.length) : Nat) : Int) = (l0.length : Int) := zq10
       have hc1 : ¬ (cap = i + l3.length) := zq10
       have hclr : ∀ a k W ty, (Builtin.clear_ #[22] ty #[.slice (some a) 0 k]).run Try.prog W = .ok (.tuple #[]) W := fun a k W ty => by
        simp [Builtin.clear_]
       have mixed : Try.prog.follows .mixedOrders = true := Try.lays21.mixed
       have hw1 : IntKind.i64.wrap ((i : Int) + (l3.length : Int)) = (i : Int) + (l3.length : Int) := by rw [IntKind.wrap_i64]; omega
       have hb1 : (0 : Int) ≤ (i : Int) + (l3.length : Int) := zq10
       have htn : ((i : Int) + (l3.length : Int)).toNat = i + l3.length := zq10
       have hb3 : (i : Int) + (l3.length : Int) ≤ (l0.length : Int) := zq10
       go_enter Try.func47, Try.ntmps47
       go_wp2_with fail
       go_quiet (fail)
       go_wp2_with (first | rw [hcp1 _ _ _ _ zq10])
       go_region_law_o (refine step_copy_runI rfl _ _ 22 22 rfl _ _ (by simp [Act.eval, Act.put]) (by simp [Act.eval, Act.put]) (hcp2 _ _ _ _ _ _ zq10 zq10) ?_)
       go_wp2_with (first | rw [hclr])
       all_goals
        go_ret
        have hX := slices_Replace_int_int.put g cur 3 (w.drewN nq).drew i l3.length (l0.length - (i + l3.length)) (l3.map (Value.int .i64)) ((l0.drop (i + l3.length)).map (Value.int .i64)) zq24 zq24 hh zq10
        have hW2 := slices_Replace_int_int.world g w0 w (w.drewN nq).drew w0.heap.size i (i + l3.length) (l3.map (Value.int .i64)) ((l0.drop (i + l3.length)).map (Value.int .i64)) (fun k_ => P0_ k_ ∨ P3_ k_) (.inl (.inl hP)) hb (below_drew1 (pw_below_drewN hB nq)) (Kept.drew (Kept.drewN (Kept.refl _ _) nq))
        obtain ⟨⟨c3, r1, r2, r3⟩, _⟩ := hX
        have hrl : (l0.take i ++ l3 ++ l0.drop (i + l3.length)).length = l0.length := by simp; omega
        have hfin : cur.toList.take i ++ l3.map (Value.int .i64) ++ (l0.drop (i + l3.length)).map (Value.int .i64) = (l0.take i ++ l3 ++ l0.drop (i + l3.length)).map (Value.int .i64) := by
         have e1 : cur.toList.take i = (l0.map (Value.int .i64)).take i := by rw [← ht, List.take_take, Nat.min_eq_left zq10]
         rw [e1, List.map_append, List.map_append, List.map_take]
        have hd : List.drop (i + l3.length) (l0.map (Value.int .i64)) = (l0.drop (i + l3.length)).map (Value.int .i64) := (List.map_drop ..).symm
        rw [drew_setCells]
        exact ⟨_, rfl, slices_Replace_int_int.fin g c3 _ _ _ _ _ _ (by rw [hd]; exact r1) zq10 hrl zq10 zq10 hb (.inl (.inl hP)) (by rw [← hfin, ← r3]; congr 1; omega), by rw [hd]; exact hW2.1, by rw [hd]; exact hW2.2⟩
     ·rw [if_neg h5] at h; cases h
    ·rw [if_neg h4] at h; cases h
   ·rw [if_neg h3] at h; cases h
  ·rw [if_neg h2] at h; cases h
 ·rw [if_neg h1] at h; cases h
/-! ### impl_flipped: function 32 -/
def impl_flipped.f (a0_0 : Int) (l0_1 : List Int) (a1 : Int) : Option (Int × List Int) := if 0 ≤ a1 then (if a1 < (l0_1.length : Int) then (if 0 ≤ (wrap64 (a1 + 1)) then (if (wrap64 (a1 + 1)) < (l0_1.length : Int) then ((slices_Clone_int_int.f l0_1).bind fun t297 => ((slices_Replace_int_int.f t297 a1 (wrap64 (a1 + 3)) (([rd l0_1 (wrap64 (a1 + 1)), rd l0_1 a1, rd l0_1 (wrap64 (a1 + 1))] : List Int))).bind fun t303 => (some (a0_0, t303)))) else (none)) else (none)) else (none)) else (none)
def impl_flipped.T1 : Bool × List (List Nat × List Nat) := (true, [([], []), ([0], [0]), ([], []), ([1, 2], [1, 2]), ([3], [3]), ([], []), ([5], [5]), ([], []), ([7], [7]), ([6, 8], [6, 8]), ([9], [9]), ([4, 0, 1, 2, 3, 4], [4]), ([10, 11, 0, 1, 2, 3, 4, 5, 6, 7, 8, 9, 10, 11], [10])])
def impl_flipped.B1 : List Nat := [0, 1, 0, 7, 15, 0, 32, 0, 128, 480, 992, 31, 4095]
theorem impl_flipped.tab1 : rtab .any (opsOf Try.f32 1) = impl_flipped.T1 := by kernel_rfl
theorem impl_flipped.bits1 : waitsOk impl_flipped.T1.2 impl_flipped.B1 = true := by kernel_rfl
def impl_flipped.T2 : Bool × List (List Nat × List Nat) := (true, [([], []), ([0], [0]), ([], []), ([2], [2]), ([3], [3]), ([], []), ([], []), ([6], [6]), ([], []), ([], []), ([], []), ([8, 9, 10], [8, 9, 10]), ([4, 5, 7, 11, 4], [4, 5, 7, 11]), ([1, 12], [1, 12]), ([13, 12, 0, 1, 2, 3, 4, 5, 6, 7, 8, 9, 10, 11, 12, 13], [13])])
def impl_flipped.B2 : List Nat := [0, 1, 0, 4, 12, 0, 0, 64, 0, 0, 0, 1792, 4092, 8191, 16383]
theorem impl_flipped.tab2 : rtab .any (opsOf Try.f32 2) = impl_flipped.T2 := by kernel_rfl
theorem impl_flipped.bits2 : waitsOk impl_flipped.T2.2 impl_flipped.B2 = true := by kernel_rfl
theorem impl_flipped.calls (a0_0 : Int) (A0_1 : Option Addr) (c0_1 : Nat) (l0_1 : List Int) (a1 : Int) (r1 : Int) (r2 : List Int) (w : World) (hr0_1 : Kd.C (Kd.int .i64) w A0_1 l0_1.length l0_1) (hc0_1 : l0_1.length ≤ c0_1) (h : impl_flipped.f a0_0 l0_1 a1 = some (r1, r2)) :
  Calls Try.prog 32 #[.agg #[.int .i64 a0_0, .slice A0_1 l0_1.length c0_1], .int .i64 a1] w fun e w' => ∃ v1_ : Value, e = .returned (.agg #[.int .i64 r1, v1_]) ∧ Kd.R (Kd.int .i64) 3 w' w.heap.size (fun _ => True) v1_ r2 ∧ Below w.heap.size w w' := by
 have hu40 := Try.underlying40
 have HR0_1 := am hr0_1
 have HC0_1 := am hc0_1
 clear hr0_1 hc0_1
 have HB := am (Below.refl w.heap.size w)
 have H : (if 0 ≤ a1 then (if a1 < (l0_1.length : Int) then (if 0 ≤ (wrap64 (a1 + 1)) then (if (wrap64 (a1 + 1)) < (l0_1.length : Int) then ((slices_Clone_int_int.f l0_1).bind fun t297 => ((slices_Replace_int_int.f t297 a1 (wrap64 (a1 + 3)) (([rd l0_1 (wrap64 (a1 + 1)), rd l0_1 a1, rd l0_1 (wrap64 (a1 + 1))] : List Int))).bind fun t303 => (some (a0_0, t303)))) else (none)) else (none)) else (none)) else (none)) = some (r1, r2) := h
 clear h
 by_cases c3 : 0 ≤ a1
 ·rw [if_pos c3] at H
  have c3b0 : decide (0 ≤ a1) = true := decide_eq_true c3
  clear c3
  by_cases c4 : a1 < (l0_1.length : Int)
  ·rw [if_pos c4] at H
   have c4b0 : decide (a1 < (l0_1.length : Int)) = true := decide_eq_true c4
   clear c4
   obtain ⟨ji5, hji5⟩ : ∃ j_ : Int, (wrap64 (a1 + 1)) = j_ := ⟨_, rfl⟩
   replace H : (if 0 ≤ (ji5) then (if (ji5) < (l0_1.length : Int) then ((slices_Clone_int_int.f l0_1).bind fun t297 => ((slices_Replace_int_int.f t297 a1 (wrap64 (a1 + 3)) (([rd l0_1 (ji5), rd l0_1 a1, rd l0_1 (ji5)] : List Int))).bind fun t303 => (some (a0_0, t303)))) else (none)) else (none)) = some (r1, r2) := zq84
   have hji5w : (IntKind.i64.wrap (a1 + 1)) = ji5 := (i64_w _).trans hji5
   by_cases c6 : 0 ≤ (ji5)
   ·rw [if_pos c6] at H
    have c6b0 : decide (0 ≤ (ji5)) = true := decide_eq_true c6
    clear c6
    by_cases c7 : (ji5) < (l0_1.length : Int)
    ·rw [if_pos c7] at H
     have c7b0 : decide ((ji5) < (l0_1.length : Int)) = true := decide_eq_true c7
     clear c7
     obtain ⟨t297, A8, H⟩ := zS H
     (try dsimp only at H)
     obtain ⟨y300, hy300⟩ : ∃ y_ : List Int, y_ = (([rd l0_1 (ji5), rd l0_1 a1, rd l0_1 (ji5)] : List Int)) := ⟨_, rfl⟩
     replace H : ((slices_Replace_int_int.f t297 a1 (wrap64 (a1 + 3)) y300).bind fun t303 => (some (a0_0, t303))) = some (r1, r2) := by first | (rw [hy300]; exact zH) | exact zH
     have Ny300 := am hy300
     clear hy300
     obtain ⟨t303, A9, H⟩ := zS H
     (try dsimp only at H)
     simp only [Option.some.injEq, Prod.mk.injEq] at H
     obtain ⟨rfl, rfl⟩ := H
     go_enter Try.func32, Try.ntmps32
     try go_wp2_with (first | ((with_reducible refine gate_dst (N := 2) rfl ?_); refine zE 2 (cs := #[.int .i64 a0_0, .slice A0_1 l0_1.length c0_1]) 40 ?_; intro gb293 hg w10 hbox hb; have BK293 := am (hbox); have GW293 := am ((zq16 : w.heap.size ≤ gb293)); have GE293 := am ((zq16 : w.heap.size ≤ gb293)); replace HB := am (below_step (pBq5 HB) hb); clear hb hbox hg) | ((with_reducible refine gate_dst (N := 4) rfl ?_); refine zE 4 (cs := #[.int .i64 0, .slice none 0 0]) 40 ?_; intro gb294 hg w11 hbox hb; have BK294 := am (hbox); have GW294 := am ((zq16 : w.heap.size ≤ gb294)); have GE294 := am ((zq16 : w.heap.size ≤ gb294)); have NB293_294 := am ((by rw [hg]; exact Nat.ne_of_lt (blk_lt (pKq5 BK293)) : gb293 ≠ gb294)); have NB294_293 := am ((by rw [hg]; exact Nat.ne_of_gt (blk_lt (pKq5 BK293)) : gb294 ≠ gb293)); replace BK293 := am (blk_below (pKq5 BK293) hb); replace HB := am (below_step (pBq5 HB) hb); clear hb hbox hg))
     replace BK293 := am (blk_drew BK293.out)
     replace BK294 := am (blk_drew BK294.out)
     replace HB := am (below_drew1 HB.out)
     have p295 : 0 ≤ (a1 : Int) := of_decide_eq_true zq0
     have q295 : a1 < (l0_1.length : Int) := of_decide_eq_true zq0
     obtain ⟨ad295, e295, hx295_0⟩ := Kd.at_int HR0_1.out a1 p295 q295
     have hw295_0 := hx295_0
     cases e295
     replace hx295_0 := (HB.out.cell (World.block_lt_of_cell? w _ hx295_0)).trans hx295_0
     replace p295 := eq_true p295
     replace q295 := eq_true q295
     have p296 : 0 ≤ ((ji5) : Int) := of_decide_eq_true zq0
     have q296 : (ji5) < (l0_1.length : Int) := of_decide_eq_true zq0
     obtain ⟨ad296, e296, hx296_0⟩ := Kd.at_int HR0_1.out (ji5) p296 q296
     have hw296_0 := hx296_0
     obtain rfl : ad295 = ad296 := (by injection e296)
     replace hx296_0 := (HB.out.cell (World.block_lt_of_cell? w _ hx296_0)).trans hx296_0
     replace p296 := eq_true p296
     replace q296 := eq_true q296
     refine start_ (n := 13) (S := fun w' => w'.cell? ⟨gb293, 0, none⟩ = some (.int .i64 a0_0) ∧ w'.cell? ⟨gb293, 1, none⟩ = some (.slice (some ad295) l0_1.length c0_1) ∧ w'.cell? (ad295.add (a1).toNat) = some (.int .i64 (rd l0_1 a1)) ∧ w'.cell? (ad295.add ((ji5)).toNat) = some (.int .i64 (rd l0_1 (ji5)))) (ds := []) #[false, false, false, false, false, false, false, false, false, false, false, false, false] zq20 rfl rfl ⟨(blk_cell BK293.out 0).trans rfl, (blk_cell BK293.out 1).trans rfl, ((HB.out.cell (World.block_lt_of_cell? w _ hw295_0)).trans hw295_0), ((HB.out.cell (World.block_lt_of_cell? w _ hw296_0)).trans hw296_0)⟩ (fun hHeld => ?_); refine with_tabW impl_flipped.tab1 impl_flipped.bits1 (fun HT_ HW_ => ?_)
     generalize w11.drew = w12 at BK293 BK294 HB hx295_0 hx296_0 hHeld ⊢
     refine zU 0 7 HT_ ?_
     refine zU 2 9 HT_ ?_
     refine zU 5 12 HT_ ?_
     refine zU 7 14 HT_ ?_
     refine zU 8 15 HT_ ?_
     refine zT 1 8 HT_ HW_ hHeld ?_
     refine zU 3 10 HT_ ?_
     refine zT 4 11 HT_ HW_ hHeld ?_
     refine zU 11 5 HT_ ?_
     refine zT 6 13 HT_ HW_ hHeld ?_
     refine zU 9 16 HT_ ?_
     refine zT 10 17 HT_ HW_ hHeld ?_
     refine zU 12 6 HT_ ?_
     refine done_ (done_of HT_.out zq20) ?_
     try go_wp2
     replace BK293 := am (blk_drew BK293.out)
     replace BK294 := am (blk_drew BK294.out)
     replace HB := am (below_drew1 HB.out)
     refine start_ (n := 15) (S := fun w' => w'.cell? ⟨gb293, 0, none⟩ = some (.int .i64 a0_0) ∧ w'.cell? ⟨gb293, 1, none⟩ = some (.slice (some ad295) l0_1.length c0_1)) (ds := []) #[false, false, false, false, false, false, false, false, false, false, false, false, false, false, false] zq20 rfl rfl ⟨(blk_cell BK293.out 0).trans rfl, (blk_cell BK293.out 1).trans rfl⟩ (fun hHeld => ?_); refine with_tabW impl_flipped.tab2 impl_flipped.bits2 (fun HT_ HW_ => ?_)
     generalize w12.drew = w13 at BK293 BK294 HB hHeld ⊢
     refine zU 0 18 HT_ ?_
     refine zU 2 20 HT_ ?_
     refine zU 5 23 HT_ ?_
     refine zU 6 24 HT_ ?_
     refine zU 7 25 HT_ ?_
     refine zU 8 26 HT_ ?_
     refine zU 9 27 HT_ ?_
     refine zU 10 28 HT_ ?_
     refine zT 1 19 HT_ HW_ hHeld ?_
     refine zT 3 21 HT_ HW_ hHeld ?_
     refine join_ (σ := Value × Value) 3 #[true, true, true, true, true, true, true, true, true, true, true, true, false, false, false] (fun s_ => [(22, s_.1), (29, s_.2)]) (fun s_ w' => (w'.cell? ⟨gb293, 0, none⟩ = some (.int .i64 a0_0) ∧ w'.cell? ⟨gb293, 1, none⟩ = some (.slice (some ad295) l0_1.length c0_1)) ∧ (Kd.R (Kd.int .i64) 3 w' w.heap.size (fun k_ => some k_ ≠ (s_.2 : Value).ownBlock) s_.1 t297) ∧ (Kd.R (Kd.int .i64) 3 w' w.heap.size (fun k_ => some k_ ≠ (s_.1 : Value).ownBlock) s_.2 y300) ∧ (w'.heap[gb293]? = some (.cells #[.int .i64 a0_0, .slice (some ad295) l0_1.length c0_1] 40 (0, 0))) ∧ (w'.heap[gb294]? = some (.cells #[.int .i64 0, .slice none 0 0] 40 (0, 0))) ∧ (Below w.heap.size w w')) ?_ ?_
     rotate_left
     ·intro hCont
      refine two_ (i := 4) (j := 11) (Ni := some 22) (Nj := some 29) #[true, true, true, true, true, true, true, true, true, true, true, false, false, false, false] #[true, true, true, true, false, true, true, true, true, true, true, true, false, false, false] rfl rfl rfl rfl (two_of HT_.out zq20) zq33 zq33 (fun K hK => ?_) (fun K hK => ?_)
      ·skip
       refine goes_ Try.func48 zq20 rfl #[.slice (some ad295) l0_1.length c0_1] (by rfl) rfl rfl zq2 ?_
       with_reducible refine (slices_Clone_int_int.calls _ _ l0_1 t297 _ ?side1 ?side2 A8.out).mono ?_
       (case side1 => exact zq72)
       (case side2 => exact HC0_1.out)
       rintro e w14 ⟨v298, rfl, ho0, hb⟩
       refine ⟨_, rfl, ?_⟩
       have HO299 := am (Kd.R_lower ho0 (below_size (pBq5 HB)))
       replace BK293 := am (blk_below (pKq5 BK293) hb)
       replace BK294 := am (blk_below (pKq5 BK294) hb)
       replace HB := am (below_step (pBq5 HB) hb)
       (try clear hb)
       (try clear hb2)
       (try clear hk)
       (try clear hi)
       (try clear ho0)
       refine hK.out _ _ ⟨(blk_cell BK293.out 0).trans rfl, (blk_cell BK293.out 1).trans rfl⟩ (fun hHeld => ?_)
       clear hK K
       refine zN 22 ?_
       refine zO 11 29 HT_ fun K hK => ?_
       refine Kd.R_lit_step (Kd.int .i64) _ 3 ?hg (N := 29) ?hd (xs := ([rd l0_1 (ji5), rd l0_1 a1, rd l0_1 (ji5)] : List Int)) (inner := [.int .i64 (rd l0_1 (ji5)), .int .i64 (rd l0_1 a1), .int .i64 (rd l0_1 (ji5))]) (ok := fun _ => True) (okp := fun _ => True) ?hr ?hp (fun _ hk => hk) trivial (Below.refl _ _) (Nat.le_refl _) zq24 ?_; (case hd => rfl); (case hg => rfl); (case hr => exact zq8); (case hp => exact zq48)
       intro v301 w15 ho16 hb hg_ hnew_
       clear hg_ hnew_
       (first | rw [← Ny300.out] at ho16 | (simp only [Int.reduceToNat] at ho16; rw [← Ny300.out] at ho16))
       have HO302 := am (Kd.R_lower (Kd.R_new' ho16 (Kd.R_lt (pRq5 HO299))) (below_size (pBq5 HB)))
       replace HO299 := am (Kd.R_elder' (pRq5 HO299) (Kd.R_base ho16) hb)
       replace BK293 := am (blk_below (pKq5 BK293) hb)
       replace BK294 := am (blk_below (pKq5 BK294) hb)
       replace HB := am (below_step (pBq5 HB) hb)
       clear hb ho16
       refine hK.out _ _ ⟨(blk_cell BK293.out 0).trans rfl, (blk_cell BK293.out 1).trans rfl⟩ (fun hHeld => ?_)
       clear hK K
       refine zN 29 ?_
       exact norm_ (by simp only [putAll, Act.put, setIfInBounds_toArray, set_cons_zero, set_cons_succ]) (hCont (v298, v301) _ ⟨hHeld, zq89, zq88, (pKq5 BK293), (pKq5 BK294), (pBq5 HB)⟩)
      ·skip
       refine Kd.R_lit_step (Kd.int .i64) _ 3 ?hg (N := 29) ?hd (xs := ([rd l0_1 (ji5), rd l0_1 a1, rd l0_1 (ji5)] : List Int)) (inner := [.int .i64 (rd l0_1 (ji5)), .int .i64 (rd l0_1 a1), .int .i64 (rd l0_1 (ji5))]) (ok := fun _ => True) (okp := fun _ => True) ?hr ?hp (fun _ hk => hk) trivial (Below.refl _ _) (Nat.le_refl _) zq24 ?_; (case hd => rfl); (case hg => rfl); (case hr => exact zq8); (case hp => exact zq48)
       intro v301 w14 ho15 hb hg_ hnew_
       clear hg_ hnew_
       (first | rw [← Ny300.out] at ho15 | (simp only [Int.reduceToNat] at ho15; rw [← Ny300.out] at ho15))
       have HO302 := am (Kd.R_lower ho15 (below_size (pBq5 HB)))
       replace BK293 := am (blk_below (pKq5 BK293) hb)
       replace BK294 := am (blk_below (pKq5 BK294) hb)
       replace HB := am (below_step (pBq5 HB) hb)
       clear hb ho15
       refine hK.out _ _ ⟨(blk_cell BK293.out 0).trans rfl, (blk_cell BK293.out 1).trans rfl⟩ (fun hHeld => ?_)
       clear hK K
       refine zN 29 ?_
       refine zO 4 22 HT_ fun K hK => ?_
       refine goes_ Try.func48 zq20 rfl #[.slice (some ad295) l0_1.length c0_1] (by rfl) rfl rfl zq2 ?_
       with_reducible refine (slices_Clone_int_int.calls _ _ l0_1 t297 _ ?side1 ?side2 A8.out).mono ?_
       (case side1 => exact zq72)
       (case side2 => exact HC0_1.out)
       rintro e w16 ⟨v298, rfl, ho0, hb⟩
       refine ⟨_, rfl, ?_⟩
       have HO299 := am (Kd.R_lower (Kd.R_new' ho0 (Kd.R_lt (pRq5 HO302))) (below_size (pBq5 HB)))
       replace HO302 := am (Kd.R_elder' (pRq5 HO302) (Kd.R_base ho0) hb)
       replace BK293 := am (blk_below (pKq5 BK293) hb)
       replace BK294 := am (blk_below (pKq5 BK294) hb)
       replace HB := am (below_step (pBq5 HB) hb)
       (try clear hb)
       (try clear hb2)
       (try clear hk)
       (try clear hi)
       (try clear ho0)
       refine hK.out _ _ ⟨(blk_cell BK293.out 0).trans rfl, (blk_cell BK293.out 1).trans rfl⟩ (fun hHeld => ?_)
       clear hK K
       refine zN 22 ?_
       exact norm_ (by simp only [putAll, Act.put, setIfInBounds_toArray, set_cons_zero, set_cons_succ]) (hCont (v298, v301) _ ⟨hHeld, zq89, zq88, (pKq5 BK293), (pKq5 BK294), (pBq5 HB)⟩)
     rintro ⟨v298, v301⟩ w17 ⟨hS_, h0_, h1_, h2_, h3_, h4_⟩
     have n0_ : Aside0 (Kd.R (Kd.int .i64) 3 w17 w.heap.size (fun k_ => some k_ ≠ (v301 : Value).ownBlock) v298 t297) := ⟨h0_⟩
     have n1_ : Aside0 (Kd.R (Kd.int .i64) 3 w17 w.heap.size (fun k_ => some k_ ≠ (v298 : Value).ownBlock) v301 y300) := ⟨h1_⟩
     have n2_ : Aside0 (w17.heap[gb293]? = some (.cells #[.int .i64 a0_0, .slice (some ad295) l0_1.length c0_1] 40 (0, 0))) := ⟨h2_⟩
     have n3_ : Aside0 (w17.heap[gb294]? = some (.cells #[.int .i64 0, .slice none 0 0] 40 (0, 0))) := ⟨h3_⟩
     have n4_ : Aside0 (Below w.heap.size w w17) := ⟨h4_⟩
     clear BK293
     clear BK294
     clear HB
     clear h0_ h1_ h2_ h3_ h4_
     have HO299 := n0_
     have HO302 := n1_
     have BK293 := n2_
     have BK294 := n3_
     have HB := n4_
     clear n0_ n1_ n2_ n3_ n4_
     have hHeld : w17.cell? ⟨gb293, 0, none⟩ = some (.int .i64 a0_0) ∧ w17.cell? ⟨gb293, 1, none⟩ = some (.slice (some ad295) l0_1.length c0_1) := hS_
     obtain ⟨Ao18, co18, eo18⟩ := Kd.R_slice HO299.out
     (first | subst eo18 | (injection eo18 with f1_ f2_ f3_; have f4_ := f1_.symm; have f5_ := f3_.symm; clear f1_ f2_ f3_; subst f4_; subst f5_))
     obtain ⟨Ao19, co19, eo19⟩ := Kd.R_slice HO302.out
     (first | subst eo19 | (injection eo19 with f1_ f2_ f3_; have f4_ := f1_.symm; have f5_ := f3_.symm; clear f1_ f2_ f3_; subst f4_; subst f5_))
     refine norm_ (a' := ?_) ?_ ?_
     rotate_left
     ·simp only [putAll, Act.put, setIfInBounds_toArray, set_cons_zero, set_cons_succ]
      rfl
     refine zO 12 30 HT_ fun K hK => ?_
     refine goes_ Try.func47 zq20 rfl #[.slice Ao18 t297.length co18, .int .i64 a1, .int .i64 (wrap64 (a1 + 3)), .slice Ao19 y300.length co19] (by rfl) rfl rfl zq2 ?_
     with_reducible refine (slices_Replace_int_int.calls (fun k_ => some k_ = (.slice Ao18 t297.length co18 : Value).ownBlock) (.slice Ao18 t297.length co18) t297 a1 (wrap64 (a1 + 3)) (fun k_ => some k_ = (.slice Ao19 y300.length co19 : Value).ownBlock) (.slice Ao19 y300.length co19) y300 t303 w _ ?side1 ?side2 ?side3 ?side4 ?side5 A9.out).mono ?_
     (case side1 => exact zq17)
     (case side2 => exact Kd.R_tight rfl HO299.out)
     (case side3 => exact fun k_ e_ => (HO299.out.1 k_ e_.symm))
     (case side4 => exact Kd.R_tight rfl HO302.out)
     (case side5 => exact fun k_ e_ => (HO302.out.1 k_ e_.symm))
     rintro e w20 ⟨v304, rfl, ho0, hb, hkp⟩
     refine ⟨_, rfl, ?_⟩
     have HO305 := am (Kd.R_mono (ok' := fun k_ => True) ho0 (fun k_ hk_ => trivial))
     replace BK293 := am (blk_kept (pKq5 BK293) hkp (fun hs_ => Or.elim hs_ (fun e_ => (fun e_ => (Kd.R_ne HO299.out BK293.out zq33) e_) e_) (fun e_ => (fun e_ => (Kd.R_ne HO302.out BK293.out zq33) e_) e_)))
     replace BK294 := am (blk_kept (pKq5 BK294) hkp (fun hs_ => Or.elim hs_ (fun e_ => (fun e_ => (Kd.R_ne HO299.out BK294.out zq33) e_) e_) (fun e_ => (fun e_ => (Kd.R_ne HO302.out BK294.out zq33) e_) e_)))
     replace HB := am (hb)
     clear HO299 HO302
     (try clear hb)
     (try clear hkp)
     (try clear ho0)
     obtain ⟨Ao21, co21, eo21⟩ := Kd.R_slice HO305.out
     (first | subst eo21 | (injection eo21 with f1_ f2_ f3_; have f4_ := f1_.symm; have f5_ := f3_.symm; clear f1_ f2_ f3_; subst f4_; subst f5_))
     refine hK.out _ _ ⟨(blk_cell BK293.out 0).trans rfl, (blk_cell BK293.out 1).trans rfl⟩ (fun hHeld => ?_)
     clear hK K
     refine zN 30 ?_
     refine zU 13 31 HT_ ?_
     refine one_ (i := 14) (N := none) #[true, true, true, true, true, true, true, true, true, true, true, true, true, true, true] rfl rfl (one_of HT_.out zq20) zq33 (fun K hK => ?_)
     have hs22 : w20.cell? ⟨gb294, 0, none⟩ = some (.int .i64 0) := (blk_cell BK294.out 0).trans rfl
     have hfs22 := blk_frozen BK294.out 0
     have hns22_0 := NB293_294.out
     have hms22_0 := NB294_293.out
     have hs23 : w20.cell? ⟨gb294, 1, none⟩ = some (.slice none 0 0) := (blk_cell BK294.out 1).trans rfl
     have hfs23 := blk_frozen BK294.out 1
     have hns23_0 := NB293_294.out
     have hms23_0 := NB294_293.out
     refine skip_ (w1 := ?_) (by rfl) rfl ?_ ?_
     rotate_left
     ·go_simp
      rfl
     refine hK.out _ _ ⟨((cell_far (p := ⟨gb294, _, none⟩) NB293_294.out _).trans (((cell_far (p := ⟨gb294, _, none⟩) NB293_294.out _).trans (hHeld.1)))), ((cell_far (p := ⟨gb294, _, none⟩) NB293_294.out _).trans (((cell_far (p := ⟨gb294, _, none⟩) NB293_294.out _).trans (hHeld.2))))⟩ (fun hHeld => ?_)
     clear hK K
     refine done_ (done_of HT_.out zq20) ?_
     try go_wp2
     refine bodyPost_ret (results_cell_row rfl _ _ gb294 40 #[.int .i64 a0_0, .slice Ao21 t303.length co21] (0, 0) _ rfl (by (with_reducible repeat (first | refine blk_drewN ?_ _ | refine blk_drew ?_ | refine blk_alloc ?_ _)); refine blk_put (cs := #[.int .i64 a0_0, .slice none 0 0]) ?_ 1 _ rfl; (with_reducible repeat (first | refine blk_drewN ?_ _ | refine blk_drew ?_ | refine blk_alloc ?_ _)); refine blk_put (cs := #[.int .i64 0, .slice none 0 0]) ?_ 0 _ rfl; (with_reducible repeat (first | refine blk_drewN ?_ _ | refine blk_drew ?_ | refine blk_alloc ?_ _)); exact BK294.out) Try.underlying40 rfl zq20) rfl ?_
     exact ⟨_, by first | rfl | (simp [errW_none, errW_some] <;> rfl) | (simp only [← hji5]; first | rfl | (simp [errW_none, errW_some] <;> rfl)) | (simp [*, errW_none, errW_some] <;> rfl), by (with_reducible repeat (first | apply Kd.R_alloc | apply Kd.R_drewN | apply Kd.R_drew)); exact Kd.R_mono (Kd.R_far (p := ⟨gb294, 1, none⟩) (Kd.R_far (p := ⟨gb294, 0, none⟩) (Kd.R_types HO305.out BK294.out zq33) (fun _ hk => hk.2) (.int .i64 a0_0)) (fun _ hk => hk.2) (.slice Ao21 t303.length co21)) (fun _ hk => trivial), zq17⟩
    ·rw [if_neg c7] at H
     exact absurd H zq24
   ·rw [if_neg c6] at H
    exact absurd H zq24
  ·rw [if_neg c4] at H
   exact absurd H zq24
 ·rw [if_neg c3] at H
  exact absurd H zq24
end
end Go.Proofs.Ytlmiiijjjcddkaa.PKb
