-- Written for this claim by a program of this session (myprint.py) over the kit's printer.
import Derived.Test.YtlmiiijjjcddkaaGreatDoorPLgx0
import Derived.Test.YtlmiiijjjcddkaaGreatDoorPLgx1
import Derived.Test.YtlmiiijjjcddkaaGreatDoorPLgx2
import Derived.Test.YtlmiiijjjcddkaaGreatDoorPLgx5
namespace Go.Proofs.YtlmiiijjjcddkaaGreatDoor.PLg
noncomputable section
open Go.RowKit Go.Proofs.YtlmiiijjjcddkaaGreatDoorW.PrintWords Go.Proofs.YtlmiiijjjcddkaaGreatDoorW.PrintLast Go.Proofs.YtlmiiijjjcddkaaGreatDoorW.PrintMore
attribute [local go_sem] max2_int min2_int max_two min_two max_three min_three max_four min_four   -- for this text's walks alone
open List (setIfInBounds_toArray set_cons_zero set_cons_succ)
set_option maxHeartbeats 8000000
set_option maxRecDepth 100000
set_option linter.unusedVariables false
set_option linter.unusedSimpArgs false
/-! ### slices_Delete_int_int: function 76 -/
def slices_Delete_int_int.f (l0 : List Int) (a1 : Int) (a2 : Int) : Option (List Int) := if 0 ≤ a1 then (if a1 ≤ a2 then (if a2 ≤ (l0.length : Int) then (some (l0.take a1.toNat ++ l0.drop a2.toNat)) else (none)) else (none)) else (none)
/-- Two stretches of a block written, one behind the other. -/
theorem slices_Delete_int_int.two {g cap : Nat} {cur : Array Value} {e : TypeId} {w0 W : World} {base i n' : Nat} {news zs : List Value} (hh : W.heap[g]? = some (.cells cur e (0, 0))) (hcs : cur.size = cap) (hi : i + news.length = n') (hn : n' + zs.length ≤ cap) (hb : base ≤ g) (hB : Below base w0 W) :
  ∃ cur', ((W.setCells g i news).setCells g n' zs).heap[g]? = some (.cells cur' e (0, 0)) ∧ cur'.size = cap ∧ cur'.toList.take n' = cur.toList.take i ++ news ∧ Below base w0 ((W.setCells g i news).setCells g n' zs) ∧ ∀ k, k ≠ g → ((W.setCells g i news).setCells g n' zs).heap[k]? = W.heap[k]? := by
 obtain ⟨c1, h1, h2, h3⟩ := setCells_row news i W cur hh zq32
 obtain ⟨c2, h4, h5, h6⟩ := setCells_row zs n' _ c1 h1 zq32
 obtain ⟨s1, s2, s3, s4⟩ := setCells_same g news i W
 obtain ⟨t1, t2, t3, t4⟩ := setCells_same g zs n' (W.setCells g i news)
 have hfar : ∀ k, k ≠ g → ((W.setCells g i news).setCells g n' zs).heap[k]? = W.heap[k]? := fun k hk => (setCells_far zs _ k hk).trans (setCells_far news _ k hk)
 refine ⟨c2, h4, zq32, ?_, ⟨by rw [t1, s1]; exact hB.os, by rw [t2, s2]; exact hB.tape, by rw [t3, s3]; exact hB.output, by rw [t4, s4]; exact hB.size, fun k hk => (hfar k zq32).trans (hB.block k hk)⟩, hfar⟩
 have hc1 : c1.toList.take n' = cur.toList.take i ++ news := by
  rw [h3]
  exact List.take_left' (by rw [List.length_append, List.length_take, Array.length_toList]; omega)
 rw [h6, List.append_assoc, List.take_append_of_le_length (by rw [List.length_take, Array.length_toList]; omega), List.take_take, Nat.min_self, hc1]
set_option maxHeartbeats 4000000 in
set_option maxRecDepth 100000 in
theorem slices_Delete_int_int.calls (P0_ : Nat → Prop) (u9000_ : Value) (l0 : List Int) (a1 : Int) (a2 : Int) (r : List Int) (w0 w : World) (hB : Below w0.heap.size w0 w) (ho0 : Kd.R (Kd.int .i64) 3 w w0.heap.size P0_ u9000_ l0) (h : slices_Delete_int_int.f l0 a1 a2 = some r) :
  Calls Tryz.prog 76 #[u9000_, .int .i64 a1, .int .i64 a2] w fun e w' => ∃ v0_ : Value, e = .returned (v0_) ∧ Kd.R (Kd.int .i64) 3 w' w0.heap.size (fun k_ => (P0_ k_ ∨ w.heap.size ≤ k_)) v0_ r ∧ Below w0.heap.size w0 w' ∧ Kept w w' (fun k_ => P0_ k_) := by
 unfold slices_Delete_int_int.f at h
 by_cases h1 : 0 ≤ a1
 ·rw [if_pos h1] at h
  by_cases h2 : a1 ≤ a2
  ·rw [if_pos h2] at h
   by_cases h3 : a2 ≤ (l0.length : Int)
   ·rw [if_pos h3] at h
    obtain rfl := Option.some.inj h
    clear h
    obtain ⟨i, rfl⟩ := Int.eq_ofNat_of_zero_le h1
    obtain ⟨j, rfl⟩ := Int.eq_ofNat_of_zero_le (Int.le_trans h1 h2)
    simp only [Int.toNat_natCast]
    have hij : i ≤ j := zq32
    have hj : j ≤ l0.length := zq32
    clear h1 h2 h3
    have HO := am ho0
    have HB := am hB
    have hown := Kd.own_of_R (enc := Value.int .i64) (h1 := fun _ => rfl) ho0
    obtain ⟨A, n, hv⟩ := own_slice hown
    by_cases heq : i = j
    ·subst heq
     have hr : l0.take i ++ l0.drop i = l0 := List.take_append_drop i l0
     rw [hr]
     obtain ⟨hlen, hcap, _⟩ : l0.length = l0.length ∧ l0.length ≤ n ∧ True := by
      have := Kd.R_reads' (hv ▸ ho0)
      exact ⟨rfl, this.2.1, trivial⟩
     have hm : n ≤ 9223372036854775807 := by
      rcases hown.2 with ⟨hv', hn⟩ | ⟨g, cap, cur, hv', hb, hh, hnc, hcm, hcs, ht⟩
      ·rw [hv'] at hv; injection hv with _ _ hc; omega
      ·rw [hv'] at hv; injection hv with _ _ hc; simp only [maxLen] at hcm; omega
     have HV := am hv
     have h0 : Calls Tryz.prog 76 #[.slice A l0.length n, .int .i64 i, .int .i64 i] w fun e w' => e = .returned (.slice A l0.length n) ∧ w' = w := by
      clear hv hown ho0 hB HO HB HV hr hlen
      go_enter Tryz.func76, Tryz.ntmps76
      go_wp2
      all_goals (go_ret; exact ⟨rfl, rfl⟩)
     rw [HV.out]
     refine h0.mono ?_
     rintro e w' ⟨rfl, rfl⟩
     exact ⟨_, rfl, Kd.R_mono (HV.out ▸ HO.out) (fun k hk => .inl hk), HB.out, Kept.refl _ _⟩
    ·have hlt : i < j := zq32
     rcases hown.2 with ⟨hv', hn⟩ | ⟨g, cap, cur, hv', hb, hh, hnc, hcm, hcs, ht⟩
     ·exact absurd hn zq32
     ·subst hv'
      clear hv
      rw [Nat.mul_one] at hcs ht
      simp only [maxLen] at hcm
      obtain ⟨news, hnews⟩ : ∃ news, news = (l0.drop j).map (Value.int .i64) := ⟨_, rfl⟩
      have hlen : news.length = l0.length - j := by rw [hnews]; simp
      have hcur : ∀ q, q < l0.length → cur[q]? = some (.int .i64 (l0.getD q 0)) := by
       intro q hq
       have e1 : cur.toList[q]? = (encs (Value.int .i64) l0)[q]? := by rw [← ht, List.getElem?_take, if_pos hq]
       rw [← Array.getElem?_toList, e1, encs_get (d := (0 : Int)) l0 q hq]
      have hcell : ∀ q, q < l0.length → w.cell? ⟨g, q, none⟩ = some (.int .i64 (l0.getD q 0)) := fun q hq => by rw [cell_of_row w g q cur 3 (0, 0) hh]; exact hcur q hq
      obtain ⟨AA, hAA, hsrc⟩ : ∃ AA : Addr, (if cap = j then some (⟨g, 0, none⟩ : Addr) else some ⟨g, j, none⟩) = some AA ∧ Aside0 (∀ t u, news[t]? = some u → w.drew.cell? (AA.add t) = some u) := by
       by_cases hcj : cap = j
       ·refine ⟨⟨g, 0, none⟩, by simp [hcj], ⟨fun t u hu => ?_⟩⟩
        have h0 : news.length = 0 := by rw [hlen]; omega
        rw [List.length_eq_zero_iff.1 h0] at hu
        simp at hu
       ·refine ⟨⟨g, j, none⟩, by simp [hcj], ⟨fun t u hu => ?_⟩⟩
        have ht' : t < l0.length - j := by
         have := (List.getElem?_eq_some_iff.1 hu).1
         rwa [hlen] at this
        rw [hnews, List.getElem?_map, List.getElem?_drop, List.getElem?_eq_getElem zq32] at hu
        simp only [Option.map_some, Option.some.injEq] at hu
        rw [add_at]
        show w.cell? ⟨g, j + t, none⟩ = some u
        rw [hcell (j + t) zq32, ← hu, List.getD_eq_getElem?_getD, List.getElem?_eq_getElem zq32]
        rfl
      have s1 : Aside0 (news.length = (l0.length - j) * 1) := ⟨by rw [Nat.mul_one]; exact hlen⟩
      have s2 : Aside0 (∀ u ∈ news, u.oneCell' = true) := ⟨by
       intro u hu
       rw [hnews] at hu
       obtain ⟨x, _, rfl⟩ := List.mem_map.1 hu
       rfl⟩
      have s3 : Aside0 (∀ t, t < news.length → (w.drew.cell? ⟨g, 0 + i * 1 + t, none⟩).isSome = true ∧ w.drew.frozen? ⟨g, 0 + i * 1 + t, none⟩ = false) := ⟨by
       intro t ht'
       rw [hlen] at ht'
       rw [Nat.mul_one, Nat.zero_add]
       refine ⟨?_, ?_⟩
       ·show (w.cell? ⟨g, i + t, none⟩).isSome = true
        rw [hcell (i + t) zq32]; rfl
       ·show w.frozen? ⟨g, i + t, none⟩ = false
        exact blk_frozen hh _⟩
      obtain ⟨n', hn'⟩ : ∃ n', n' = i + (l0.length - j) := ⟨_, rfl⟩
      obtain ⟨cur', k1, k2, k3, k4, k5⟩ := slices_Delete_int_int.two (W := w.drew) (w0 := w0) (base := w0.heap.size) (zs := List.replicate (j - i) (Value.int .i64 0)) (news := news) (i := i) (n' := n') hh hcs zq32 (by rw [List.length_replicate]; omega) hb (below_drew1 hB)
      have hel : (l0.take i ++ l0.drop j).length = n' := by simp; omega
      have hRR : Kd.R (Kd.int .i64) 3 ((w.drew.setCells g i news).setCells g n' (List.replicate (j - i) (Value.int .i64 0))) w0.heap.size (fun k_ => (P0_ k_ ∨ w.heap.size ≤ k_)) (.slice (some ⟨g, 0, none⟩) n' cap) (l0.take i ++ l0.drop j) := by
       refine Kd.R_of_own (enc := Value.int .i64) (h1 := fun _ => rfl) ?_ (fun k hk => .inl (ho0.1 k (by rw [← hk]; simp [Value.ownBlock])))
       rw [hel]
       refine ⟨by rw [encs_length, hel, Nat.mul_one], .inr ⟨g, cap, cur', rfl, hb, k1, zq32, by simp only [maxLen]; omega, zq32, ?_⟩⟩
       rw [Nat.mul_one, k3, hnews]
       have e2 : cur.toList.take i = (encs (Value.int .i64) l0).take i := by
        rw [← ht, List.take_take, Nat.min_eq_left zq32]
       rw [e2]
       simp [encs]
      have HRR := am hRR
      have HK4 := am k4
      have HKept : Aside0 (Kept w ((w.drew.setCells g i news).setCells g n' (List.replicate (j - i) (Value.int .i64 0))) (fun k_ => P0_ k_)) := by
       obtain ⟨_, _, _, t4⟩ := setCells_same g (List.replicate (j - i) (Value.int .i64 0)) n' (w.drew.setCells g i news)
       obtain ⟨_, _, _, s4⟩ := setCells_same g news i w.drew
       exact ⟨⟨by rw [t4, s4]; exact Nat.le_refl _, fun k hk hP => k5 k (fun e => hP (by subst e; exact ho0.1 k (by simp [Value.ownBlock])))⟩⟩
      obtain ⟨W1, hW1⟩ : ∃ W1, W1 = w.drew.setCells g (0 + i * 1) news := ⟨_, rfl⟩
      have hW1' : W1 = w.drew.setCells g i news := by rw [hW1, Nat.mul_one, Nat.zero_add]
      obtain ⟨cur1, q1, q2, _⟩ := setCells_row news i w.drew cur hh zq32
      have hcl : ∀ ty, (Builtin.clear_ #[24] ty #[.slice (some ⟨g, n', none⟩) (l0.length - n') (cap - n')]).run Tryz.prog W1 = .ok (.tuple #[]) (W1.setCells g n' (List.replicate (l0.length - n') (Value.int .i64 0))) :=
       fun ty => Lib.run_clear_slice W1 24 3 ty (.int .i64 0) Tryz.underlying24 (fun w => by kernel_rfl) rfl rfl g n' _ _ zq32 (fun t ht' => by rw [hW1', cell_of_row _ g _ cur1 3 (0, 0) q1, Array.getElem?_eq_getElem zq32]; rfl) (fun t ht' => by rw [hW1']; exact blk_frozen q1 _)
      have HW1' := am hW1'
      have HW1 := am hW1
      have HN' := am hn'
      have hic : i ≤ cap := zq32
      have hjc : j ≤ cap := zq32
      obtain ⟨i0, hi0, hz0, hz1, hz2⟩ := info_parts info3
      have E1 := am (show l0.length - n' = j - i by omega)
      have E2 := am (show i + (l0.length - j) = n' by omega)
      have B1 : n' ≤ cap := zq32
      have B2 : n' ≤ l0.length := zq32
      have B3 : n' < cap := zq32
      clear hW1 hW1' hh hcur hcell hnews hlen ht hRR k4 k5 k3 k2 k1 hown ho0 hB hel q1 q2 hn' hcs
      go_enter Tryz.func76, Tryz.ntmps76
      go_wp2_with fail
      go_region_law (refine step_append_room rfl (.tmp 22) (.tmp 25) 24 rfl 3 i0 1 Tryz.underlying24 hi0 hz1 g 0 i cap (by simp [Act.eval, Act.put]) AA (l0.length - j) (cap - j) news (by simp [Act.eval, Act.put]) s1.out hsrc.out s2.out zq32 s3.out ?_; rw [← HW1.out, E2.out])
      go_wp2
      go_ret
      refine ⟨_, rfl, ?_, ?_, ?_⟩
      ·rw [HW1'.out, E1.out]; exact HRR.out
      ·rw [HW1'.out, E1.out]; exact HK4.out
      ·rw [HW1'.out, E1.out]; exact HKept.out
   ·rw [if_neg h3] at h; cases h
  ·rw [if_neg h2] at h; cases h
 ·rw [if_neg h1] at h; cases h
/-! ### impl_TakeRung: function 24 -/
def impl_TakeRung.j0 : Nat → Int → Bool → Int → List Int → Option (Int × List Int × Bool)
 | 0, _, _, _, _ => none
 | k + 1, x1, x17, x454000, x454001 => if x17 = true then (some (0, ([] : List Int), false)) else ((slices_Clone_int_int.f x454001).bind fun t457 => ((slices_Delete_int_int.f t457 x1 (wrap64 (x1 + 1))).bind fun t460 => (some (x454000, t460, true))))
def impl_TakeRung.f (k : Nat) (a0_0 : Int) (l0_1 : List Int) (a1 : Int) : Option (Int × List Int × Bool) := (impl_isLadder.f a0_0 l0_1).bind fun t455 => (if t455 = true then ((impl_between.f a1 0 (wrap64 ((l0_1.length : Int) - 1))).bind fun t456 => (impl_TakeRung.j0 k a1 (!t456) a0_0 l0_1)) else (impl_TakeRung.j0 k a1 true a0_0 l0_1))
theorem impl_TakeRung.mono_l : ∀ k, (∀ y0 y1 y2 y3, LeO (impl_TakeRung.j0 k y0 y1 y2 y3) (impl_TakeRung.j0 (k + 1) y0 y1 y2 y3))
 | 0 => fun _ _ _ _ r h => by simp [impl_TakeRung.j0] at h
 | k + 1 => by
  have ih0 := impl_TakeRung.mono_l k
  ·intro y0 y1 y2 y3
   unfold impl_TakeRung.j0
   repeat' first | (with_reducible first | exact ih0 _ _ _ _ | exact LeO.refl _ | exact LeO.none _ | refine LeO.ite ?_ ?_ | refine LeO.bind ?_ (fun _ => ?_))
theorem impl_TakeRung.mono : ∀ a0 a1 a2 k, LeO (impl_TakeRung.f k a0 a1 a2) (impl_TakeRung.f (k + 1) a0 a1 a2) := by
 intro a0 a1 a2 k
 have ih0 := impl_TakeRung.mono_l k
 unfold impl_TakeRung.f
 repeat' first | (with_reducible first | exact ih0 _ _ _ _ | exact LeO.refl _ | exact LeO.none _ | refine LeO.ite ?_ ?_ | refine LeO.bind ?_ (fun _ => ?_))
def impl_TakeRung.T3 : Bool × List (List Nat × List Nat) := (true, [([], []), ([0], [0]), ([], []), ([2], [2]), ([3], [3]), ([], []), ([], []), ([6], [6]), ([4, 5, 7, 4], [4, 5, 7]), ([1, 8], [1, 8]), ([9, 8, 0, 1, 2, 3, 4, 5, 6, 7, 8, 9], [9]), ([10, 0, 1, 2, 3, 4, 5, 6, 7, 8, 9, 10], [])])
def impl_TakeRung.B3 : List Nat := [0, 1, 0, 4, 12, 0, 0, 64, 252, 511, 1023, 2047]
theorem impl_TakeRung.tab3 : rtab .any (opsOf Tryz.f24 3) = impl_TakeRung.T3 := by kernel_rfl
theorem impl_TakeRung.bits3 : waitsOk impl_TakeRung.T3.2 impl_TakeRung.B3 = true := by kernel_rfl
theorem impl_TakeRung.calls (k : Nat) (a0_0 : Int) (A0_1 : Option Addr) (c0_1 : Nat) (l0_1 : List Int) (a1 : Int) (r1 : Int) (r2 : List Int) (r3 : Bool) (w : World) (hr0_1 : Kd.C (Kd.int .i64) w A0_1 l0_1.length l0_1) (hc0_1 : l0_1.length ≤ c0_1) (h : impl_TakeRung.f k a0_0 l0_1 a1 = some (r1, r2, r3)) :
  Calls Tryz.prog 24 #[.agg #[.int .i64 a0_0, .slice A0_1 l0_1.length c0_1], .int .i64 a1] w fun e w' => ∃ v1_ : Value, e = .returned (.tuple #[.agg #[.int .i64 r1, v1_], .bool r3]) ∧ Kd.R (Kd.int .i64) 3 w' w.heap.size (fun _ => True) v1_ r2 ∧ Below w.heap.size w w' := by
 have hu26 := Tryz.underlying26
 have HR0_1 := am hr0_1
 have HC0_1 := am hc0_1
 clear hr0_1 hc0_1
 have HB := am (Below.refl w.heap.size w)
 unfold impl_TakeRung.f at h
 have H := h
 clear h
 have HC3 := am H
 clear H
 go_enter Tryz.func24, Tryz.ntmps24
 go_upto_region 1 with (first | ((with_reducible refine gate_dst (N := 2) rfl ?_); (try (refine gate_guard (by rfl) ?_; dsimp only)); refine zE 2 (cs := #[.int .i64 a0_0, .slice A0_1 l0_1.length c0_1]) 26 ?_; intro gb453 hg w4 hbox hb; have BK453 := am (hbox); have GW453 := am ((zq35 : w.heap.size ≤ gb453)); replace HB := sB HB hb; clear hb hbox hg) | ((with_reducible refine gate_dst (N := 4) rfl ?_); (try (refine gate_guard (by rfl) ?_; dsimp only)); refine zE 4 (cs := #[.int .i64 0, .slice none 0 0]) 26 ?_; intro gb454 hg w5 hbox hb; have BK454 := am (hbox); have GW454 := am ((zq35 : w.heap.size ≤ gb454)); have NB453_454 := am ((by rw [hg]; exact Nat.ne_of_lt (blk_lt (pKq BK453)) : gb453 ≠ gb454)); have NB454_453 := am ((by rw [hg]; exact Nat.ne_of_gt (blk_lt (pKq BK453)) : gb454 ≠ gb453)); replace BK453 := sK BK453 hb; replace HB := sB HB hb; clear hb hbox hg))
 (try simp only [Act.put, setIfInBounds_toArray, set_cons_zero, set_cons_succ])
 go_cut [17] (fun v17 wc => ∃ (kq : Nat) (x17_2 : Bool), v17 = .bool x17_2 ∧ Aside0 (impl_TakeRung.j0 kq a1 x17_2 a0_0 l0_1 = some (r1, r2, r3)) ∧ Aside0 (kq ≤ k) ∧ Aside0 (wc.heap[gb453]? = some (.cells #[.int .i64 a0_0, (.slice A0_1 l0_1.length c0_1)] 26 (0, 0))) ∧ Aside0 (wc.heap[gb454]? = some (.cells #[.int .i64 0, (.slice none 0 0)] 26 (0, 0))) ∧ Aside0 (Below w.heap.size w wc))
 case first =>
  have H := HC3.out
  clear HC3
  obtain ⟨t455, A6, H⟩ := zS H
  (try dsimp only at H)
  by_cases c7 : t455 = true
  ·subst c7
   rw [if_pos rfl] at H
   obtain ⟨t456, A8, H⟩ := zS H
   (try dsimp only at H)
   have H' := am H
   clear H
   have hnb9 := NB453_454.out
   have hnc9 := NB454_453.out
   obtain ⟨hcz10_0, hcz10_1, hfz10_0, hfz10_1⟩ := sC BK453
   go_wp2_with (first | ((with_reducible refine gate_callee (f := 56) rfl ?_); refine goesL_ (some 7) rfl rfl Tryz.func56 zq15 rfl #[.agg #[.int .i64 a0_0, .slice A0_1 l0_1.length c0_1]] rfl zq0 ?_; (with_reducible refine (impl_isLadder.calls a0_0 _ _ l0_1 true _ ?side1 ?side2 A6.out).mono ?_); (case side1 => exact zq7); (case side2 => exact zq97); rintro e w11 ⟨rfl, hb⟩; refine ⟨_, rfl, ?_⟩; replace BK453 := sK BK453 hb; replace BK454 := sK BK454 hb; replace HB := sB HB hb; (try clear hb); obtain ⟨hcz12_0, hcz12_1, hfz12_0, hfz12_1⟩ := sC BK453) | (go_at_call 71; (with_reducible refine (impl_between.calls a1 0 (wrap64 ((l0_1.length : Int) - 1)) t456 _ A8.out).mono ?_); rintro e w' ⟨rfl, ⟨nd, rfl⟩⟩))
   go_meet
   case rel => exact ⟨_, (!t456), zq10, H', ⟨zq41⟩, ⟨by (with_reducible repeat (first | refine blk_drewN ?_ _ | refine blk_drew ?_ | refine blk_alloc ?_ _)); exact BK453.out⟩, ⟨by (with_reducible repeat (first | refine blk_drewN ?_ _ | refine blk_drew ?_ | refine blk_alloc ?_ _)); exact BK454.out⟩, ⟨zq1⟩⟩
  ·replace c7 := Bool.eq_false_iff.mpr c7
   subst c7
   rw [if_neg (show ¬ (false = true) by decide)] at H
   have H' := am H
   clear H
   have hnb13 := NB453_454.out
   have hnc13 := NB454_453.out
   obtain ⟨hcz14_0, hcz14_1, hfz14_0, hfz14_1⟩ := sC BK453
   go_wp2_with (first | ((with_reducible refine gate_callee (f := 56) rfl ?_); refine goesL_ (some 7) rfl rfl Tryz.func56 zq15 rfl #[.agg #[.int .i64 a0_0, .slice A0_1 l0_1.length c0_1]] rfl zq0 ?_; (with_reducible refine (impl_isLadder.calls a0_0 _ _ l0_1 false _ ?side1 ?side2 A6.out).mono ?_); (case side1 => exact zq7); (case side2 => exact zq97); rintro e w15 ⟨rfl, hb⟩; refine ⟨_, rfl, ?_⟩; replace BK453 := sK BK453 hb; replace BK454 := sK BK454 hb; replace HB := sB HB hb; (try clear hb)))
   go_meet
   case rel => exact ⟨_, (true), zq10, H', ⟨zq41⟩, ⟨by (with_reducible repeat (first | refine blk_drewN ?_ _ | refine blk_drew ?_ | refine blk_alloc ?_ _)); exact BK453.out⟩, ⟨by (with_reducible repeat (first | refine blk_drewN ?_ _ | refine blk_drew ?_ | refine blk_alloc ?_ _)); exact BK454.out⟩, ⟨zq1⟩⟩
 case rest =>
  clear HC3
  obtain ⟨kq, x17_2, rfl, HA, HJ2, BK453, BK454, HB⟩ := hcut
  cases kq with
  | zero => exact absurd HA.out (by simp [impl_TakeRung.j0])
  | succ kj2 =>
   have H := HA.out
   clear HA
   simp only [impl_TakeRung.j0] at H
   by_cases c16 : x17_2 = true
   ·subst c16
    rw [if_pos rfl] at H
    simp only [Option.some.injEq, Prod.mk.injEq] at H
    obtain ⟨rfl, rfl, rfl⟩ := H
    have hnb17 := NB454_453.out
    have hnc17 := NB453_454.out
    obtain ⟨hcz18_0, hcz18_1, hfz18_0, hfz18_1⟩ := sC BK454
    go_wp2
    refine bodyPost_ret (results_ct rfl _ _ gb454 26 #[.int .i64 0, .slice none 0 0] (0, 0) _ rfl (by (with_reducible repeat (first | refine blk_drewN ?_ _ | refine blk_drew ?_ | refine blk_alloc ?_ _)); refine blk_put (cs := #[.int .i64 0, .slice none 0 0]) ?_ 1 _ rfl; (with_reducible repeat (first | refine blk_drewN ?_ _ | refine blk_drew ?_ | refine blk_alloc ?_ _)); refine blk_put (cs := #[.int .i64 0, .slice none 0 0]) ?_ 0 _ rfl; (with_reducible repeat (first | refine blk_drewN ?_ _ | refine blk_drew ?_ | refine blk_alloc ?_ _)); exact BK454.out) Tryz.underlying26 rfl zq15) rfl ?_
    exact ⟨_, zq6, zq11, zq1⟩
   ·replace c16 := Bool.eq_false_iff.mpr c16
    subst c16
    rw [if_neg (show ¬ (false = true) by decide)] at H
    obtain ⟨t457, A19, H⟩ := zS H
    (try dsimp only at H)
    obtain ⟨t460, A20, H⟩ := zS H
    (try dsimp only at H)
    simp only [Option.some.injEq, Prod.mk.injEq] at H
    obtain ⟨rfl, rfl, rfl⟩ := H
    try go_wp2
    replace BK453 := am (blk_drew BK453.out)
    replace BK454 := am (blk_drew BK454.out)
    replace HB := am (below_drew1 HB.out)
    refine start_ (n := 12) (S := fun w' => w'.cell? ⟨gb453, 0, none⟩ = some (.int .i64 a0_0) ∧ w'.cell? ⟨gb453, 1, none⟩ = some (.slice A0_1 l0_1.length c0_1)) (ds := []) #[false, false, false, false, false, false, false, false, false, false, false, false] zq15 rfl rfl ⟨(blk_cell BK453.out 0).trans rfl, (blk_cell BK453.out 1).trans rfl⟩ (fun hHeld => ?_); refine with_tabW impl_TakeRung.tab3 impl_TakeRung.bits3 (fun HT_ HW_ => ?_)
    generalize wc.drew = w21 at BK453 BK454 HB hHeld ⊢
    refine zU 0 19 HT_ ?_
    refine zU 2 21 HT_ ?_
    refine zU 5 24 HT_ ?_
    refine zU 6 25 HT_ ?_
    refine zU 7 26 HT_ ?_
    refine zT 1 20 HT_ HW_ hHeld ?_
    refine zT 3 22 HT_ HW_ hHeld ?_
    refine zO 4 23 HT_ fun K hK => ?_
    refine goes_ Tryz.func57 zq15 rfl #[.slice A0_1 l0_1.length c0_1] (by rfl) rfl rfl zq0 ?_
    with_reducible refine (slices_Clone_int_int.calls _ _ l0_1 t457 _ ?side1 ?side2 A19.out).mono ?_
    (case side1 => exact zq7)
    (case side2 => exact zq97)
    rintro e w22 ⟨v458, rfl, ho0, hb⟩
    refine ⟨_, rfl, ?_⟩
    have HO459 := am (Kd.R_lower ho0 (below_size (pBq HB)))
    replace BK453 := sK BK453 hb
    replace BK454 := sK BK454 hb
    replace HB := sB HB hb
    (try clear hb)
    (try clear hb2)
    (try clear hk)
    (try clear hi)
    (try clear ho0)
    obtain ⟨Ao23, co23, eo23⟩ := Kd.R_slice HO459.out
    (first | subst eo23 | (injection eo23 with f1_ f2_ f3_; have f4_ := f1_.symm; have f5_ := f3_.symm; clear f1_ f2_ f3_; subst f4_; subst f5_))
    refine hK.out _ _ ⟨(blk_cell BK453.out 0).trans rfl, (blk_cell BK453.out 1).trans rfl⟩ (fun hHeld => ?_)
    clear hK K
    refine zN 23 ?_
    refine zO 8 27 HT_ fun K hK => ?_
    refine goes_ Tryz.func76 zq15 rfl #[.slice Ao23 t457.length co23, .int .i64 a1, .int .i64 (wrap64 (a1 + 1))] (by rfl) rfl rfl zq0 ?_
    with_reducible refine (slices_Delete_int_int.calls (fun k_ => some k_ = (.slice Ao23 t457.length co23 : Value).ownBlock) (.slice Ao23 t457.length co23) t457 a1 (wrap64 (a1 + 1)) t460 w _ ?side1 ?side2 A20.out).mono ?_
    (case side1 => exact zq1)
    (case side2 => exact Kd.R_tight rfl HO459.out)
    rintro e w24 ⟨v461, rfl, ho0, hb, hkp⟩
    refine ⟨_, rfl, ?_⟩
    have HO462 := am (Kd.R_mono (ok' := fun k_ => True) ho0 (fun k_ hk_ => trivial))
    replace BK453 := am (blk_kept (pKq BK453) hkp (fun hs_ => (fun e_ => (Kd.R_ne HO459.out BK453.out zq27) e_) hs_))
    replace BK454 := am (blk_kept (pKq BK454) hkp (fun hs_ => (fun e_ => (Kd.R_ne HO459.out BK454.out zq27) e_) hs_))
    replace HB := am (hb)
    clear HO459
    (try clear hb)
    (try clear hkp)
    (try clear ho0)
    obtain ⟨Ao25, co25, eo25⟩ := Kd.R_slice HO462.out
    (first | subst eo25 | (injection eo25 with f1_ f2_ f3_; have f4_ := f1_.symm; have f5_ := f3_.symm; clear f1_ f2_ f3_; subst f4_; subst f5_))
    refine hK.out _ _ ⟨(blk_cell BK453.out 0).trans rfl, (blk_cell BK453.out 1).trans rfl⟩ (fun hHeld => ?_)
    clear hK K
    refine zN 27 ?_
    refine zU 9 28 HT_ ?_
    refine one_ (i := 10) (N := none) #[true, true, true, true, true, true, true, true, true, true, true, false] rfl rfl (one_of HT_.out zq15) zq27 (fun K hK => ?_)
    have hs26 : w24.cell? ⟨gb454, 0, none⟩ = some (.int .i64 0) := (blk_cell BK454.out 0).trans rfl
    have hfs26 := blk_frozen BK454.out 0
    have hns26_0 := NB453_454.out
    have hms26_0 := NB454_453.out
    have hs27 : w24.cell? ⟨gb454, 1, none⟩ = some (.slice none 0 0) := (blk_cell BK454.out 1).trans rfl
    have hfs27 := blk_frozen BK454.out 1
    have hns27_0 := NB453_454.out
    have hms27_0 := NB454_453.out
    refine skip_ (w1 := ?_) (by rfl) rfl ?_ ?_
    rotate_left
    ·go_simp
     rfl
    refine hK.out _ _ ⟨((cell_far (p := ⟨gb454, _, none⟩) NB453_454.out _).trans (((cell_far (p := ⟨gb454, _, none⟩) NB453_454.out _).trans (hHeld.1)))), ((cell_far (p := ⟨gb454, _, none⟩) NB453_454.out _).trans (((cell_far (p := ⟨gb454, _, none⟩) NB453_454.out _).trans (hHeld.2))))⟩ (fun hHeld => ?_)
    clear hK K
    refine zU 11 5 HT_ ?_
    refine done_ (done_of HT_.out zq15) ?_
    try go_wp2
    refine bodyPost_ret (results_ct rfl _ _ gb454 26 #[.int .i64 a0_0, .slice Ao25 t460.length co25] (0, 0) _ rfl (by (with_reducible repeat (first | refine blk_drewN ?_ _ | refine blk_drew ?_ | refine blk_alloc ?_ _)); refine blk_put (cs := #[.int .i64 a0_0, .slice none 0 0]) ?_ 1 _ rfl; (with_reducible repeat (first | refine blk_drewN ?_ _ | refine blk_drew ?_ | refine blk_alloc ?_ _)); refine blk_put (cs := #[.int .i64 0, .slice none 0 0]) ?_ 0 _ rfl; (with_reducible repeat (first | refine blk_drewN ?_ _ | refine blk_drew ?_ | refine blk_alloc ?_ _)); exact BK454.out) Tryz.underlying26 rfl zq15) rfl ?_
    exact ⟨_, zq6, by (with_reducible repeat (first | apply Kd.R_alloc | apply Kd.R_drewN | apply Kd.R_drew)); exact Kd.R_mono (Kd.R_far (p := ⟨gb454, 1, none⟩) (Kd.R_far (p := ⟨gb454, 0, none⟩) (Kd.R_types HO462.out BK454.out zq27) (fun _ hk => hk.2) (.int .i64 a0_0)) (fun _ hk => hk.2) (.slice Ao25 t460.length co25)) (fun _ hk => trivial), zq1⟩
/-! ### spec_TakeRung: function 25 -/
def spec_TakeRung.f (k : Nat) (a0_0 : Int) (l0_1 : List Int) (a1 : Int) : Option (Int × List Int × Bool) := (spec_laGood.f k a0_0 l0_1).bind fun t465 => (if t465 = true then ((spec_l1In.f a1 0 (wrap64 ((l0_1.length : Int) - 1))).bind fun t466 => (if t466 = true then (if 0 ≤ a1 then (if a1 ≤ (l0_1.length : Int) then ((spec_l1Own.f (l0_1.take (a1 : Int).toNat)).bind fun t471 => (if 0 ≤ (wrap64 (a1 + 1)) then (if (wrap64 (a1 + 1)) ≤ (l0_1.length : Int) then ((some (l0_1.drop ((wrap64 (a1 + 1)) : Int).toNat : List Int)).bind fun y474 => (if t471.length + y474.length < 17592186044416 then (some (a0_0, (t471 ++ y474), true)) else (none))) else (none)) else (none))) else (none)) else (none)) else (some (0, ([] : List Int), false)))) else (some (0, ([] : List Int), false)))
theorem spec_TakeRung.mono : ∀ a0 a1 a2 k, LeO (spec_TakeRung.f k a0 a1 a2) (spec_TakeRung.f (k + 1) a0 a1 a2) := by
 intro a0 a1 a2 k
 unfold spec_TakeRung.f
 repeat' first | (with_reducible first | exact spec_laGood.mono _ _ _ | exact LeO.refl _ | exact LeO.none _ | refine LeO.ite ?_ ?_ | refine LeO.bind ?_ (fun _ => ?_))
def spec_TakeRung.T3 : Bool × List (List Nat × List Nat) := (true, [([], []), ([0], [0]), ([], []), ([2], [2]), ([], []), ([3, 4], [3, 4]), ([5], [5]), ([], []), ([7], [7]), ([], []), ([9], [9]), ([8, 10], [8, 10]), ([6, 11, 6], [6, 11]), ([1, 12], [1, 12]), ([13, 12, 0, 1, 2, 3, 4, 5, 6, 7, 8, 9, 10, 11, 12, 13], [13]), ([14, 0, 1, 2, 3, 4, 5, 6, 7, 8, 9, 10, 11, 12, 13, 14], [])])
def spec_TakeRung.B3 : List Nat := [0, 1, 0, 4, 0, 28, 60, 0, 128, 0, 512, 1920, 4092, 8191, 16383, 32767]
theorem spec_TakeRung.tab3 : rtab .any (opsOf Tryz.f25 3) = spec_TakeRung.T3 := by kernel_rfl
theorem spec_TakeRung.bits3 : waitsOk spec_TakeRung.T3.2 spec_TakeRung.B3 = true := by kernel_rfl
theorem spec_TakeRung.calls (k : Nat) (a0_0 : Int) (A0_1 : Option Addr) (c0_1 : Nat) (l0_1 : List Int) (a1 : Int) (r1 : Int) (r2 : List Int) (r3 : Bool) (w : World) (hr0_1 : Kd.C (Kd.int .i64) w A0_1 l0_1.length l0_1) (hc0_1 : l0_1.length ≤ c0_1) (h : spec_TakeRung.f k a0_0 l0_1 a1 = some (r1, r2, r3)) :
  Calls Tryz.prog 25 #[.agg #[.int .i64 a0_0, .slice A0_1 l0_1.length c0_1], .int .i64 a1] w fun e w' => ∃ v1_ : Value, e = .returned (.tuple #[.agg #[.int .i64 r1, v1_], .bool r3]) ∧ Kd.R (Kd.int .i64) 3 w' w.heap.size (fun _ => True) v1_ r2 ∧ Below w.heap.size w w' := by
 have hu26 := Tryz.underlying26
 have HR0_1 := am hr0_1
 have HC0_1 := am hc0_1
 clear hr0_1 hc0_1
 have HB := am (Below.refl w.heap.size w)
 unfold spec_TakeRung.f at h
 have H := h
 clear h
 obtain ⟨t465, A3, H⟩ := zS H
 (try dsimp only at H)
 by_cases c4 : t465 = true
 ·subst c4
  rw [if_pos rfl] at H
  obtain ⟨t466, A5, H⟩ := zS H
  (try dsimp only at H)
  by_cases c6 : t466 = true
  ·subst c6
   rw [if_pos rfl] at H
   obtain ⟨c7, H⟩ := zI H
   have c7b0 := eq_true c7
   have c7b1 := decide_eq_true c7
   clear c7
   obtain ⟨c8, H⟩ := zI H
   have c8b0 := eq_true c8
   have c8b1 := decide_eq_true c8
   clear c8
   obtain ⟨y467, Ny467⟩ : ∃ y_ : List Int, Aside0 (y_ = (l0_1.take (a1 : Int).toNat)) := ⟨_, ⟨rfl⟩⟩
   rw [← Ny467.out] at H
   obtain ⟨t471, A9, H⟩ := zS H
   (try dsimp only at H)
   obtain ⟨ji10, hji10⟩ : ∃ j_ : Int, (wrap64 (a1 + 1)) = j_ := ⟨_, rfl⟩
   replace H : (if 0 ≤ (ji10) then (if (ji10) ≤ (l0_1.length : Int) then ((some (l0_1.drop ((ji10) : Int).toNat : List Int)).bind fun y474 => (if t471.length + y474.length < 17592186044416 then (some (a0_0, (t471 ++ y474), true)) else (none))) else (none)) else (none)) = some (r1, r2, r3) := by first | (rw [hji10] at H; exact H) | (simp only [hji10] at H ⊢; exact H)
   (try rw [hji10] at A3)
   (try rw [hji10] at A5)
   (try rw [hji10] at A9)
   have hji10w : (IntKind.i64.wrap (a1 + 1)) = ji10 := (i64_w _).trans hji10
   obtain ⟨c11, H⟩ := zI H
   have c11b0 := eq_true c11
   have c11b1 := decide_eq_true c11
   clear c11
   obtain ⟨c12, H⟩ := zI H
   have c12b0 := eq_true c12
   have c12b1 := decide_eq_true c12
   clear c12
   obtain ⟨y474, Ny474, H⟩ := zY H
   obtain ⟨c13, H⟩ := zI H
   have LMc13 := am c13
   clear c13
   obtain ⟨y478, Ny478⟩ : ∃ y_ : List Int, Aside0 (y_ = (t471 ++ y474)) := ⟨_, ⟨rfl⟩⟩
   rw [← Ny478.out] at H
   simp only [Option.some.injEq, Prod.mk.injEq] at H
   obtain ⟨rfl, rfl, rfl⟩ := H
   go_enter Tryz.func25, Tryz.ntmps25
   try go_wp2_with (first | ((with_reducible refine gate_dst (N := 2) rfl ?_); (try (refine gate_guard (by rfl) ?_; dsimp only)); refine zE 2 (cs := #[.int .i64 a0_0, .slice A0_1 l0_1.length c0_1]) 26 ?_; intro gb463 hg w14 hbox hb; have BK463 := am (hbox); have GW463 := am ((zq35 : w.heap.size ≤ gb463)); have GE463 := am ((zq35 : w.heap.size ≤ gb463)); replace HB := sB HB hb; clear hb hbox hg) | ((with_reducible refine gate_dst (N := 4) rfl ?_); (try (refine gate_guard (by rfl) ?_; dsimp only)); refine zE 4 (cs := #[.int .i64 0, .slice none 0 0]) 26 ?_; intro gb464 hg w15 hbox hb; have BK464 := am (hbox); have GW464 := am ((zq35 : w.heap.size ≤ gb464)); have GE464 := am ((zq35 : w.heap.size ≤ gb464)); have NB463_464 := am ((by rw [hg]; exact Nat.ne_of_lt (blk_lt (pKq BK463)) : gb463 ≠ gb464)); have NB464_463 := am ((by rw [hg]; exact Nat.ne_of_gt (blk_lt (pKq BK463)) : gb464 ≠ gb463)); replace BK463 := sK BK463 hb; replace HB := sB HB hb; clear hb hbox hg; have hnb16 := NB463_464.out; have hnc16 := NB464_463.out; obtain ⟨hcz17_0, hcz17_1, hfz17_0, hfz17_1⟩ := sC BK463) | ((with_reducible refine gate_callee (f := 59) rfl ?_); refine goesL_ (some 7) rfl rfl Tryz.func59 zq15 rfl #[.agg #[.int .i64 a0_0, .slice A0_1 l0_1.length c0_1]] rfl zq0 ?_; (with_reducible refine (spec_laGood.calls k a0_0 _ _ l0_1 true _ ?side1 ?side2 A3.out).mono ?_); (case side1 => exact zq7); (case side2 => exact zq97); rintro e w18 ⟨rfl, hb⟩; refine ⟨_, rfl, ?_⟩; replace BK463 := sK BK463 hb; replace BK464 := sK BK464 hb; replace HB := sB HB hb; (try clear hb); obtain ⟨hcz19_0, hcz19_1, hfz19_0, hfz19_1⟩ := sC BK463) | (go_at_call 73; (with_reducible refine (spec_l1In.calls a1 0 (wrap64 ((l0_1.length : Int) - 1)) true _ A5.out).mono ?_); rintro e w' ⟨rfl, ⟨nd, rfl⟩⟩; (try (rw [drewN_self w18]; generalize hq_ : World.drewN w18 _ = w18; have n0_ : Aside0 (w18.heap[gb463]? = some (.cells #[.int .i64 a0_0, .slice A0_1 l0_1.length c0_1] 26 (0, 0))) := ⟨by rw [← hq_]; exact (pKq BK463)⟩; have n1_ : Aside0 (w18.heap[gb464]? = some (.cells #[.int .i64 0, .slice none 0 0] 26 (0, 0))) := ⟨by rw [← hq_]; exact (pKq BK464)⟩; have n2_ : Aside0 (Below w.heap.size w w18) := ⟨by rw [← hq_]; exact (pBq HB)⟩; clear BK463 BK464 HB hq_; have BK463 := n0_; have BK464 := n1_; have HB := n2_; clear n0_ n1_ n2_))))
   replace BK463 := am (blk_drew BK463.out)
   replace BK464 := am (blk_drew BK464.out)
   replace HB := am (below_drew1 HB.out)
   have q21 : (a1 : Int) ≤ ((l0_1.length : Int) : Int) := of_decide_eq_true zq9
   obtain ⟨i021, hi021, _, hsz21, _⟩ := info_parts info3
   have hroom21 : l0_1.length ≤ c0_1 := HC0_1.out
   have hC21 : Kd.C (Kd.int .i64) _ A0_1 l0_1.length l0_1 := HR0_1.out
   have hcut21 := cut_to (P := Tryz.prog) 24 3 .i64 Tryz.underlying24 hi021 A0_1 l0_1.length c0_1 a1 (of_decide_eq_true zq9) q21 hroom21
   have hr21 := Kd.C_take (m := (a1 : Int).toNat) hC21 zq32
   have hy21 : y467.length = (a1 : Int).toNat := (by rw [Ny467.out, List.length_take]; omega)
   rw [← Ny467.out] at hr21
   rw [← hy21] at hcut21
   have HR470 := am hr21
   have HC470 := am (show y467.length ≤ c0_1 from zq32)
   clear hr21 hC21 hroom21 hi021 hsz21
   have KY21 := am hy21
   clear hy21
   replace q21 := eq_true q21
   have q22 : ((ji10) : Int) ≤ ((l0_1.length : Int) : Int) := of_decide_eq_true zq9
   obtain ⟨i022, hi022, _, hsz22, _⟩ := info_parts info3
   have hroom22 : l0_1.length ≤ c0_1 := HC0_1.out
   have hC22 : Kd.C (Kd.int .i64) _ A0_1 l0_1.length l0_1 := HR0_1.out
   have q022 : (0 : Int) ≤ ((ji10) : Int) := of_decide_eq_true zq9
   have hcut22 := cut_from (P := Tryz.prog) 24 3 .i64 Tryz.underlying24 hi022 1 hsz22 A0_1 l0_1.length c0_1 (ji10) q022 q22
   have hr22 := Kd.C_drop (m := ((ji10) : Int).toNat) (c := c0_1) hC22 zq32 hroom22
   obtain ⟨A22, hA22⟩ : ∃ A1, A1 = (if c0_1 = ((ji10) : Int).toNat then A0_1 else (A0_1 : Option Addr).map (·.add (((ji10) : Int).toNat * 1))) := ⟨_, rfl⟩
   obtain ⟨c22, hc22⟩ : ∃ c1, c1 = c0_1 - ((ji10) : Int).toNat := ⟨_, rfl⟩
   have hy22 : y474.length = l0_1.length - ((ji10) : Int).toNat := (by rw [Ny474.out, List.length_drop] <;> omega)
   rw [show (l0_1).drop ((ji10) : Int).toNat = y474 from Ny474.out.symm] at hr22
   replace hr22 : Kd.C (Kd.int .i64) _ A22 y474.length y474 := (by rw [hA22]; exact hr22)
   rw [← hy22, ← hA22, ← hc22] at hcut22
   have HR477 := am hr22
   have HC477 := am (show y474.length ≤ c22 from by rw [hy22, hc22]; exact Nat.sub_le_sub_right hroom22 _)
   clear hr22 hC22 hroom22 hi022 hsz22 hc22
   have KY22 := am hy22
   have KA22 := am hA22
   clear hy22 hA22
   replace q22 := eq_true q22
   refine start_ (n := 16) (S := fun w' => w'.cell? ⟨gb463, 0, none⟩ = some (.int .i64 a0_0) ∧ w'.cell? ⟨gb463, 1, none⟩ = some (.slice A0_1 l0_1.length c0_1)) (ds := []) #[false, false, false, false, false, false, false, false, false, false, false, false, false, false, false, false] zq15 rfl rfl ⟨(blk_cell BK463.out 0).trans rfl, (blk_cell BK463.out 1).trans rfl⟩ (fun hHeld => ?_); refine with_tabW spec_TakeRung.tab3 spec_TakeRung.bits3 (fun HT_ HW_ => ?_)
   generalize w18.drew = w20 at BK463 BK464 HB HR470 HR477 hHeld ⊢
   refine zU 0 19 HT_ ?_
   refine zU 2 21 HT_ ?_
   refine zU 4 23 HT_ ?_
   refine zU 7 26 HT_ ?_
   refine zU 9 28 HT_ ?_
   refine zU 10 29 HT_ ?_
   refine zT 1 20 HT_ HW_ hHeld ?_
   refine zT 3 22 HT_ HW_ hHeld ?_
   refine zU 5 24 HT_ ?_
   refine zT 8 27 HT_ HW_ hHeld ?_
   refine zU 11 30 HT_ ?_
   refine zO 6 25 HT_ fun K hK => ?_
   refine goes_ Tryz.func74 zq15 rfl #[.slice A0_1 y467.length c0_1] (by rfl) rfl rfl zq0 ?_
   with_reducible refine (spec_l1Own.calls _ _ y467 t471 _ ?side1 ?side2 A9.out).mono ?_
   (case side1 => repeat (first | exact (Kd.C_below HR470.out HB.out) | (with_reducible refine Kd.C_alloc ?_ _) | (with_reducible refine Kd.C_drewN ?_ _) | (with_reducible refine Kd.C_drew ?_)))
   (case side2 => exact HC470.out)
   rintro e w23 ⟨v472, rfl, ho0, hb⟩
   refine ⟨_, rfl, ?_⟩
   have HO473 := am (Kd.R_lower ho0 (below_size (pBq HB)))
   replace BK463 := sK BK463 hb
   replace BK464 := sK BK464 hb
   replace HB := sB HB hb
   (try clear hb)
   (try clear hb2)
   (try clear hk)
   (try clear hi)
   (try clear ho0)
   refine hK.out _ _ ⟨(blk_cell BK463.out 0).trans rfl, (blk_cell BK463.out 1).trans rfl⟩ (fun hHeld => ?_)
   clear hK K
   refine zN 25 ?_
   refine zO 12 31 HT_ fun K hK => ?_
   refine Kd.R_append_rows_step (Kd.int .i64) (w0 := w) w.heap.size (by rfl) (.tmp 25) (.tmp 30) 24 3 (.int .i64 0) 8 rfl Tryz.underlying24 info3 rfl zq27 zq32 v472 t471 y474 _ _ _ (fun _ => True) (fun _ => False) rfl rfl ?aO ?aR (fun _ _ h => h) (fun _ h => h.elim) ?aF ?aB ?aS ?aL ?_
   (case aR => repeat (first | exact (Kd.C_below HR477.out HB.out) | (with_reducible refine Kd.C_alloc ?_ _) | (with_reducible refine Kd.C_drewN ?_ _) | (with_reducible refine Kd.C_drew ?_)))
   (case aB => exact (pBq HB))
   (case aF => exact zq99)
   (case aO => exact (pRq HO473))
   (case aS => exact (below_size (pBq HB)))
   (case aL => have := LMc13.out; omega)
   intro v479 w24 ho hb hg hat
   rw [← Ny478.out] at ho
   have HO480 := am (ho)
   replace BK463 := am (blk_grown (g := gb463) (o := .cells #[.int .i64 a0_0, .slice A0_1 l0_1.length c0_1] 26 (0, 0)) (pKq BK463) hg (Kd.R_ne HO473.out BK463.out zq27))
   replace BK464 := am (blk_grown (g := gb464) (o := .cells #[.int .i64 0, .slice none 0 0] 26 (0, 0)) (pKq BK464) hg (Kd.R_ne HO473.out BK464.out zq27))
   replace HB := am (hb)
   clear HO473
   clear ho hb hg hat
   obtain ⟨Ao25, co25, eo25⟩ := Kd.R_slice HO480.out
   (first | subst eo25 | (injection eo25 with f1_ f2_ f3_; have f4_ := f1_.symm; have f5_ := f3_.symm; clear f1_ f2_ f3_; subst f4_; subst f5_))
   refine hK.out _ _ ⟨(blk_cell BK463.out 0).trans rfl, (blk_cell BK463.out 1).trans rfl⟩ (fun hHeld => ?_)
   clear hK K
   refine zN 31 ?_
   refine zU 13 32 HT_ ?_
   refine one_ (i := 14) (N := none) #[true, true, true, true, true, true, true, true, true, true, true, true, true, true, true, false] rfl rfl (one_of HT_.out zq15) zq27 (fun K hK => ?_)
   have hs26 : w24.cell? ⟨gb464, 0, none⟩ = some (.int .i64 0) := (blk_cell BK464.out 0).trans rfl
   have hfs26 := blk_frozen BK464.out 0
   have hns26_0 := NB463_464.out
   have hms26_0 := NB464_463.out
   have hs27 : w24.cell? ⟨gb464, 1, none⟩ = some (.slice none 0 0) := (blk_cell BK464.out 1).trans rfl
   have hfs27 := blk_frozen BK464.out 1
   have hns27_0 := NB463_464.out
   have hms27_0 := NB464_463.out
   refine skip_ (w1 := ?_) (by rfl) rfl ?_ ?_
   rotate_left
   ·go_simp
    rfl
   refine hK.out _ _ ⟨((cell_far (p := ⟨gb464, _, none⟩) NB463_464.out _).trans (((cell_far (p := ⟨gb464, _, none⟩) NB463_464.out _).trans (hHeld.1)))), ((cell_far (p := ⟨gb464, _, none⟩) NB463_464.out _).trans (((cell_far (p := ⟨gb464, _, none⟩) NB463_464.out _).trans (hHeld.2))))⟩ (fun hHeld => ?_)
   clear hK K
   refine zU 15 5 HT_ ?_
   refine done_ (done_of HT_.out zq15) ?_
   try go_wp2
   refine bodyPost_ret (results_ct rfl _ _ gb464 26 #[.int .i64 a0_0, .slice Ao25 y478.length co25] (0, 0) _ rfl (by (with_reducible repeat (first | refine blk_drewN ?_ _ | refine blk_drew ?_ | refine blk_alloc ?_ _)); refine blk_put (cs := #[.int .i64 a0_0, .slice none 0 0]) ?_ 1 _ rfl; (with_reducible repeat (first | refine blk_drewN ?_ _ | refine blk_drew ?_ | refine blk_alloc ?_ _)); refine blk_put (cs := #[.int .i64 0, .slice none 0 0]) ?_ 0 _ rfl; (with_reducible repeat (first | refine blk_drewN ?_ _ | refine blk_drew ?_ | refine blk_alloc ?_ _)); exact BK464.out) Tryz.underlying26 rfl zq15) rfl ?_
   exact ⟨_, by first | rfl | (simp [errW_none, errW_some] <;> rfl) | (simp only [← hji10]; first | rfl | (simp [errW_none, errW_some] <;> rfl)) | (simp [*, errW_none, errW_some] <;> rfl), by (with_reducible repeat (first | apply Kd.R_alloc | apply Kd.R_drewN | apply Kd.R_drew)); exact Kd.R_mono (Kd.R_far (p := ⟨gb464, 1, none⟩) (Kd.R_far (p := ⟨gb464, 0, none⟩) (Kd.R_types HO480.out BK464.out zq27) (fun _ hk => hk.2) (.int .i64 a0_0)) (fun _ hk => hk.2) (.slice Ao25 y478.length co25)) (fun _ hk => trivial), zq1⟩
  ·replace c6 := Bool.eq_false_iff.mpr c6
   subst c6
   rw [if_neg (show ¬ (false = true) by decide)] at H
   simp only [Option.some.injEq, Prod.mk.injEq] at H
   obtain ⟨rfl, rfl, rfl⟩ := H
   go_enter Tryz.func25, Tryz.ntmps25
   go_wp2_with (first | ((with_reducible refine gate_dst (N := 2) rfl ?_); (try (refine gate_guard (by rfl) ?_; dsimp only)); refine zE 2 (cs := #[.int .i64 a0_0, .slice A0_1 l0_1.length c0_1]) 26 ?_; intro gb463 hg w28 hbox hb; have BK463 := am (hbox); have GW463 := am ((zq35 : w.heap.size ≤ gb463)); have GE463 := am ((zq35 : w.heap.size ≤ gb463)); replace HB := sB HB hb; clear hb hbox hg) | ((with_reducible refine gate_dst (N := 4) rfl ?_); (try (refine gate_guard (by rfl) ?_; dsimp only)); refine zE 4 (cs := #[.int .i64 0, .slice none 0 0]) 26 ?_; intro gb464 hg w29 hbox hb; have BK464 := am (hbox); have GW464 := am ((zq35 : w.heap.size ≤ gb464)); have GE464 := am ((zq35 : w.heap.size ≤ gb464)); have NB463_464 := am ((by rw [hg]; exact Nat.ne_of_lt (blk_lt (pKq BK463)) : gb463 ≠ gb464)); have NB464_463 := am ((by rw [hg]; exact Nat.ne_of_gt (blk_lt (pKq BK463)) : gb464 ≠ gb463)); replace BK463 := sK BK463 hb; replace HB := sB HB hb; clear hb hbox hg; have hnb30 := NB463_464.out; have hnc30 := NB464_463.out; obtain ⟨hcz31_0, hcz31_1, hfz31_0, hfz31_1⟩ := sC BK463) | ((with_reducible refine gate_callee (f := 59) rfl ?_); refine goesL_ (some 7) rfl rfl Tryz.func59 zq15 rfl #[.agg #[.int .i64 a0_0, .slice A0_1 l0_1.length c0_1]] rfl zq0 ?_; (with_reducible refine (spec_laGood.calls k a0_0 _ _ l0_1 true _ ?side1 ?side2 A3.out).mono ?_); (case side1 => exact zq7); (case side2 => exact zq97); rintro e w32 ⟨rfl, hb⟩; refine ⟨_, rfl, ?_⟩; replace BK463 := sK BK463 hb; replace BK464 := sK BK464 hb; replace HB := sB HB hb; (try clear hb); obtain ⟨hcz33_0, hcz33_1, hfz33_0, hfz33_1⟩ := sC BK463) | (go_at_call 73; (with_reducible refine (spec_l1In.calls a1 0 (wrap64 ((l0_1.length : Int) - 1)) false _ A5.out).mono ?_); rintro e w' ⟨rfl, ⟨nd, rfl⟩⟩; (try (rw [drewN_self w32]; generalize hq_ : World.drewN w32 _ = w32; have n0_ : Aside0 (w32.heap[gb463]? = some (.cells #[.int .i64 a0_0, .slice A0_1 l0_1.length c0_1] 26 (0, 0))) := ⟨by rw [← hq_]; exact (pKq BK463)⟩; have n1_ : Aside0 (w32.heap[gb464]? = some (.cells #[.int .i64 0, .slice none 0 0] 26 (0, 0))) := ⟨by rw [← hq_]; exact (pKq BK464)⟩; have n2_ : Aside0 (Below w.heap.size w w32) := ⟨by rw [← hq_]; exact (pBq HB)⟩; clear BK463 BK464 HB hq_; have BK463 := n0_; have BK464 := n1_; have HB := n2_; clear n0_ n1_ n2_)); obtain ⟨hcz34_0, hcz34_1, hfz34_0, hfz34_1⟩ := sC BK464))
   refine bodyPost_ret (results_ct rfl _ _ gb464 26 #[.int .i64 0, .slice none 0 0] (0, 0) _ rfl zq64 Tryz.underlying26 rfl zq15) rfl ?_
   exact ⟨_, zq6, zq11, zq1⟩
 ·replace c4 := Bool.eq_false_iff.mpr c4
  subst c4
  rw [if_neg (show ¬ (false = true) by decide)] at H
  simp only [Option.some.injEq, Prod.mk.injEq] at H
  obtain ⟨rfl, rfl, rfl⟩ := H
  go_enter Tryz.func25, Tryz.ntmps25
  go_wp2_with (first | ((with_reducible refine gate_dst (N := 2) rfl ?_); (try (refine gate_guard (by rfl) ?_; dsimp only)); refine zE 2 (cs := #[.int .i64 a0_0, .slice A0_1 l0_1.length c0_1]) 26 ?_; intro gb463 hg w35 hbox hb; have BK463 := am (hbox); have GW463 := am ((zq35 : w.heap.size ≤ gb463)); have GE463 := am ((zq35 : w.heap.size ≤ gb463)); replace HB := sB HB hb; clear hb hbox hg) | ((with_reducible refine gate_dst (N := 4) rfl ?_); (try (refine gate_guard (by rfl) ?_; dsimp only)); refine zE 4 (cs := #[.int .i64 0, .slice none 0 0]) 26 ?_; intro gb464 hg w36 hbox hb; have BK464 := am (hbox); have GW464 := am ((zq35 : w.heap.size ≤ gb464)); have GE464 := am ((zq35 : w.heap.size ≤ gb464)); have NB463_464 := am ((by rw [hg]; exact Nat.ne_of_lt (blk_lt (pKq BK463)) : gb463 ≠ gb464)); have NB464_463 := am ((by rw [hg]; exact Nat.ne_of_gt (blk_lt (pKq BK463)) : gb464 ≠ gb463)); replace BK463 := sK BK463 hb; replace HB := sB HB hb; clear hb hbox hg; have hnb37 := NB463_464.out; have hnc37 := NB464_463.out; obtain ⟨hcz38_0, hcz38_1, hfz38_0, hfz38_1⟩ := sC BK463) | ((with_reducible refine gate_callee (f := 59) rfl ?_); refine goesL_ (some 7) rfl rfl Tryz.func59 zq15 rfl #[.agg #[.int .i64 a0_0, .slice A0_1 l0_1.length c0_1]] rfl zq0 ?_; (with_reducible refine (spec_laGood.calls k a0_0 _ _ l0_1 false _ ?side1 ?side2 A3.out).mono ?_); (case side1 => exact zq7); (case side2 => exact zq97); rintro e w39 ⟨rfl, hb⟩; refine ⟨_, rfl, ?_⟩; replace BK463 := sK BK463 hb; replace BK464 := sK BK464 hb; replace HB := sB HB hb; (try clear hb); obtain ⟨hcz40_0, hcz40_1, hfz40_0, hfz40_1⟩ := sC BK464))
  refine bodyPost_ret (results_ct rfl _ _ gb464 26 #[.int .i64 0, .slice none 0 0] (0, 0) _ rfl zq64 Tryz.underlying26 rfl zq15) rfl ?_
  exact ⟨_, zq6, zq11, zq1⟩
/-! ### spec_l1Cur_one: function 77 -/
def spec_l1Cur_one.f (s0_0 : List Int) (s0_1 : Int) (s0_2 : Int) (a1 : Int) : Option (Bool × Int × Int) := (spec_l1Cur_pick.f s0_0 s0_1 s0_2 a1).bind fun bt481 => (some ((bt481.1 == 0), bt481.2.1, bt481.2.2))
theorem spec_l1Cur_one.calls (g : Nat) (s0_0 : List Int) (s0_1 : Int) (s0_2 : Int) (a1 : Int) (r1 : Bool) (r2 : Int) (r3 : Int) (w0 w : World) (hI : IsS76 w0 w g s0_0 s0_1 s0_2) (hB : Below w0.heap.size w0 w) (h : spec_l1Cur_one.f s0_0 s0_1 s0_2 a1 = some (r1, r2, r3)) :
  Calls Tryz.prog 77 #[.pointer (some ⟨g, 0, none⟩), .int .i64 a1] w fun e w' => e = .returned (.bool r1) ∧ IsS76 w0 w' g s0_0 r2 r3 ∧ Below w0.heap.size w0 w' ∧ KeepBut w w' g none := by
 have HI0 := am hI
 have HK := am (KeepBut.refl w g none)
 have HL := am hB.size
 clear hI
 have HW0 := am hB.size
 have HB := am hB
 clear hB
 unfold spec_l1Cur_one.f at h
 have H := h
 clear h
 replace H := Option.bind_eq_some_iff.mp H
 obtain ⟨⟨t481, t482, t483⟩, A30, H⟩ := H
 (try dsimp only at H)
 have A3 := am A30
 clear A30
 simp only [Option.some.injEq, Prod.mk.injEq] at H
 obtain ⟨rfl, rfl, rfl⟩ := H
 go_enter Tryz.func77, Tryz.ntmps77
 go_wp2_with (first | ((with_reducible refine gate_callee (f := 70) rfl ?_); refine goesL_ (some 7) rfl rfl Tryz.func70 zq15 rfl #[.pointer (some ⟨g, 0, none⟩), .int .i64 a1] rfl zq0 ?_; (with_reducible refine (spec_l1Cur_pick.calls g s0_0 s0_1 s0_2 a1 t481 t482 t483 w0 _ ?side1 ?side2 A3.out).mono ?_); (case side1 => exact zq2); (case side2 => exact zq5); rintro e w4 ⟨rfl, hi, hb, hk⟩; refine ⟨_, rfl, ?_⟩; replace HK := am (KeepBut.trans zq3 hk (.inl rfl)); replace HB := am (hb); replace HI0 := am (hi); (try clear hb hk hi)))
 go_ret
 exact ⟨zq6, zq2, zq5, zq3⟩
/-! ### spec_DrawRepeatLadder: function 26 -/
def spec_DrawRepeatLadder.f (k : Nat) (l0 : List Int) : Option (Int × List Int × Int) := (spec_l1Cur_one.f l0 0 0 10).bind fun bt486 => (if bt486.1 = true then ((spec_l1Cur_ladder.f k l0 bt486.2.1 bt486.2.2).bind fun bt489 => ((spec_l1Cur_among.f l0 bt489.2.2.1 bt489.2.2.2 (([(-1), 0, 60, 61, 4611686018427387904] : List Int))).bind fun bt498 => (some (bt489.1, bt489.2.1, bt498.1)))) else ((spec_l1Cur_sureLadder.f k l0 bt486.2.1 bt486.2.2 6 7).bind fun bt501 => ((spec_l1Cur_pick.f l0 bt501.2.2.1 bt501.2.2.2 9).bind fun bt507 => (some (bt501.1, bt501.2.1, bt507.1)))))
theorem spec_DrawRepeatLadder.mono : ∀ a0 k, LeO (spec_DrawRepeatLadder.f k a0) (spec_DrawRepeatLadder.f (k + 1) a0) := by
 intro a0 k
 unfold spec_DrawRepeatLadder.f
 repeat' first | (with_reducible first | exact spec_l1Cur_ladder.mono _ _ _ _ | exact spec_l1Cur_sureLadder.mono _ _ _ _ _ _ | exact LeO.refl _ | exact LeO.none _ | refine LeO.ite ?_ ?_ | refine LeO.bind ?_ (fun _ => ?_))
theorem spec_DrawRepeatLadder.calls (k : Nat) (A0 : Option Addr) (c0 : Nat) (l0 : List Int) (r1 : Int) (r2 : List Int) (r3 : Int) (w : World) (hr0 : Kd.C (Kd.int .u8) w A0 l0.length l0) (hc0 : l0.length ≤ c0) (h : spec_DrawRepeatLadder.f k l0 = some (r1, r2, r3)) :
  Calls Tryz.prog 26 #[.slice A0 l0.length c0] w fun e w' => ∃ v1_ : Value, e = .returned (.tuple #[.agg #[.int .i64 r1, v1_], .int .i64 r3]) ∧ Kd.R (Kd.int .i64) 3 w' w.heap.size (fun _ => True) v1_ r2 ∧ Below w.heap.size w w' := by
 have hu26 := Tryz.underlying26
 have hu76 := Tryz.underlying76
 have HR0 := am hr0
 have HC0 := am hc0
 clear hr0 hc0
 have HB := am (Below.refl w.heap.size w)
 unfold spec_DrawRepeatLadder.f at h
 have H := h
 clear h
 replace H := Option.bind_eq_some_iff.mp H
 obtain ⟨⟨t486, t487, t488⟩, A20, H⟩ := H
 (try dsimp only at H)
 have A2 := am A20
 clear A20
 by_cases c3 : t486 = true
 ·subst c3
  rw [if_pos rfl] at H
  replace H := Option.bind_eq_some_iff.mp H
  obtain ⟨⟨t489, t490, t493, t494⟩, A40, H⟩ := H
  (try dsimp only at H)
  have A4 := am A40
  clear A40
  obtain ⟨y495, Ny495⟩ : ∃ y_ : List Int, Aside0 (y_ = (([(-1), 0, 60, 61, 4611686018427387904] : List Int))) := ⟨_, ⟨rfl⟩⟩
  rw [← Ny495.out] at H
  replace H := Option.bind_eq_some_iff.mp H
  obtain ⟨⟨t498, t499, t500⟩, A50, H⟩ := H
  (try dsimp only at H)
  have A5 := am A50
  clear A50
  simp only [Option.some.injEq, Prod.mk.injEq] at H
  obtain ⟨rfl, rfl, rfl⟩ := H
  go_enter Tryz.func26, Tryz.ntmps26
  go_wp2_with (first | ((with_reducible refine gate_dst (N := 2) rfl ?_); refine zE 2 (cs := #[.int .i64 0, .slice none 0 0]) 26 ?_; intro gb484 hg w6 hbox hb; have BK484 := am (hbox); have GW484 := am ((zq35 : w.heap.size ≤ gb484)); have GE484 := am ((zq35 : w.heap.size ≤ gb484)); replace HB := sB HB hb; clear hb hbox hg) | ((with_reducible refine gate_dst (N := 7) rfl ?_); refine zE 7 (cs := #[.slice A0 l0.length c0, .int .i64 0, .int .u64 0]) 76 ?_; intro gb485 hg w7 hbox hb; have BK485 := am (hbox); have GW485 := am ((zq35 : w.heap.size ≤ gb485)); have GE485 := am ((zq35 : w.heap.size ≤ gb485)); have NB484_485 := am ((by rw [hg]; exact Nat.ne_of_lt (blk_lt (pKq BK484)) : gb484 ≠ gb485)); have NB485_484 := am ((by rw [hg]; exact Nat.ne_of_gt (blk_lt (pKq BK484)) : gb485 ≠ gb484)); replace BK484 := sK BK484 hb; replace HB := sB HB hb; clear hb hbox hg) | ((with_reducible refine gate_callee (f := 77) rfl ?_); refine goesL_ (some 9) rfl rfl Tryz.func77 zq15 rfl #[.pointer (some ⟨gb485, 0, none⟩), .int .i64 10] rfl zq0 ?_; (with_reducible refine (spec_l1Cur_one.calls gb485 l0 0 0 10 true t487 t488 w _ ?side1 ?side2 A2.out).mono ?_); (case side1 => unfold IsS76; exact ⟨_, _, (pKq BK485), GW485.out, HR0.out⟩); (case side2 => exact zq1); rintro e w8 ⟨rfl, hi, hb, hk⟩; refine ⟨_, rfl, ?_⟩; replace BK484 := am (KeepBut.blk hk (g' := gb484) (o := .cells #[.int .i64 0, .slice none 0 0] 26 (0, 0)) (pKq BK484) NB484_485.out zq42); replace HB := am (hb); replace BK485 := am (hi); (try clear hb hk hi)) | ((with_reducible refine gate_callee (f := 69) rfl ?_); refine goesL_ (some 11) rfl rfl Tryz.func69 zq15 rfl #[.pointer (some ⟨gb485, 0, none⟩)] rfl zq0 ?_; (with_reducible refine (spec_l1Cur_ladder.calls k gb485 l0 t487 t488 t489 t490 t493 t494 w _ ?side1 ?side2 A4.out).mono ?_); (case side1 => exact zq20); (case side2 => exact zq18); rintro e w9 ⟨v491, rfl, ho0, hi, hb, hk⟩; refine ⟨_, rfl, ?_⟩; have HO492 := am (Kd.R_lower ho0 (below_size zq18)); replace BK484 := am (KeepBut.blk hk (g' := gb484) (o := .cells #[.int .i64 0, .slice none 0 0] 26 (0, 0)) (pKq BK484) NB484_485.out zq42); replace HB := am (hb); replace BK485 := am (hi); (try clear hb hk hi ho0)) | ((with_reducible refine gate_dst (N := 13) rfl ?_); refine Kd.R_lit (Kd.int .i64) _ 3 ?hg (N := 13) ?hd (xs := ([(-1), 0, 60, 61, 4611686018427387904] : List Int)) (inner := [.int .i64 (-1), .int .i64 0, .int .i64 60, .int .i64 61, .int .i64 4611686018427387904]) (ok := fun _ => True) (okp := fun _ => True) ?hr ?hp (fun _ hk => hk) trivial (Below.refl _ _) (Nat.le_refl _) zq42 ?_; (case hd => rfl); (case hg => rfl); (case hr => exact zq30); (case hp => exact (Reps.one (show Kd.M (Kd.int .i64) _ _ _ (-1) [.int .i64 (-1)] from rfl) (Reps.one (show Kd.M (Kd.int .i64) _ _ _ 0 [.int .i64 0] from rfl) (Reps.one (show Kd.M (Kd.int .i64) _ _ _ 60 [.int .i64 60] from rfl) (Reps.one (show Kd.M (Kd.int .i64) _ _ _ 61 [.int .i64 61] from rfl) (Reps.one (show Kd.M (Kd.int .i64) _ _ _ 4611686018427387904 [.int .i64 4611686018427387904] from rfl) (Reps.none _ _))))))); intro v496 w10 ho11 hb hg_ hnew_; clear hg_ hnew_; (first | rw [← Ny495.out] at ho11 | (simp only [Int.reduceToNat] at ho11; rw [← Ny495.out] at ho11)); have HO497 := am (Kd.R_lower (Kd.R_new' ho11 (Kd.R_lt (pRq HO492))) (below_size zq18)); replace HO492 := am (Kd.R_elder' (pRq HO492) (Kd.R_base ho11) hb); replace BK484 := sK BK484 hb; replace HB := am (below_step zq18 hb); replace BK485 := am (IsS76.below zq20 hb); clear hb ho11; obtain ⟨Ao12, co12, eo12⟩ := Kd.R_slice HO497.out; subst eo12) | ((with_reducible refine gate_callee (f := 78) rfl ?_); refine goesL_ (some 14) rfl rfl Tryz.func78 zq15 rfl #[.pointer (some ⟨gb485, 0, none⟩), .slice Ao12 y495.length co12] rfl zq0 ?_; (with_reducible refine (spec_l1Cur_among.calls gb485 l0 t493 t494 _ _ y495 t498 t499 t500 w _ ?side1 ?side2 ?side3 ?side4 ?side5 A5.out).mono ?_); (case side1 => exact zq20); (case side2 => exact zq18); (case side3 => repeat (first | exact (Kd.R_reads' HO497.out).2.2 | (with_reducible refine Kd.C_alloc ?_ _) | (with_reducible refine Kd.C_drewN ?_ _) | (with_reducible refine Kd.C_drew ?_))); (case side4 => exact (Kd.R_reads' HO497.out).2.1); (case side5 => exact far_slice (IsS76.own_ne BK485.out HO497.out zq27)); rintro e w13 ⟨rfl, hi, hb, hk⟩; refine ⟨_, rfl, ?_⟩; replace BK484 := am (KeepBut.blk hk (g' := gb484) (o := .cells #[.int .i64 0, .slice none 0 0] 26 (0, 0)) (pKq BK484) NB484_485.out zq42); replace HO492 := am (Kd.R_mono (Kd.R_keep (IsS76.apart (show IsS76 w _ gb485 l0 t493 t494 from zq20) (pRq HO492) zq27) hk (fun _ h => h.2)) (fun _ h => h.1)); replace HO497 := am (Kd.R_mono (Kd.R_keep (IsS76.apart (show IsS76 w _ gb485 l0 t493 t494 from zq20) (pRq HO497) zq27) hk (fun _ h => h.2)) (fun _ h => h.1)); replace HB := am (hb); replace BK485 := am (hi); (try clear hb hk hi); have hnb14 := NB484_485.out; have hnc14 := NB485_484.out; obtain ⟨hcz15_0, hcz15_1, hfz15_0, hfz15_1⟩ := sC BK484; obtain ⟨Ao16, co16, eo16⟩ := Kd.R_slice HO492.out; subst eo16))
  refine bodyPost_ret (results_ct rfl _ _ gb484 26 #[.int .i64 t489, .slice Ao16 t490.length co16] (0, 0) _ rfl (by (with_reducible repeat (first | refine blk_drewN ?_ _ | refine blk_drew ?_ | refine blk_alloc ?_ _)); refine blk_put (cs := #[.int .i64 t489, .slice none 0 0]) ?_ 1 _ rfl; (with_reducible repeat (first | refine blk_drewN ?_ _ | refine blk_drew ?_ | refine blk_alloc ?_ _)); refine blk_put (cs := #[.int .i64 0, .slice none 0 0]) ?_ 0 _ rfl; (with_reducible repeat (first | refine blk_drewN ?_ _ | refine blk_drew ?_ | refine blk_alloc ?_ _)); exact BK484.out) Tryz.underlying26 rfl zq15) rfl ?_
  exact ⟨_, zq6, by (with_reducible repeat (first | apply Kd.R_alloc | apply Kd.R_drewN | apply Kd.R_drew)); exact Kd.R_mono (Kd.R_far (p := ⟨gb484, 1, none⟩) (Kd.R_far (p := ⟨gb484, 0, none⟩) (Kd.R_types HO492.out BK484.out zq27) (fun _ hk => hk.2) (.int .i64 t489)) (fun _ hk => hk.2) (.slice Ao16 t490.length co16)) (fun _ hk => trivial), zq18⟩
 ·replace c3 := Bool.eq_false_iff.mpr c3
  subst c3
  rw [if_neg (show ¬ (false = true) by decide)] at H
  replace H := Option.bind_eq_some_iff.mp H
  obtain ⟨⟨t501, t502, t505, t506⟩, A170, H⟩ := H
  (try dsimp only at H)
  have A17 := am A170
  clear A170
  replace H := Option.bind_eq_some_iff.mp H
  obtain ⟨⟨t507, t508, t509⟩, A180, H⟩ := H
  (try dsimp only at H)
  have A18 := am A180
  clear A180
  simp only [Option.some.injEq, Prod.mk.injEq] at H
  obtain ⟨rfl, rfl, rfl⟩ := H
  go_enter Tryz.func26, Tryz.ntmps26
  go_wp2_with (first | ((with_reducible refine gate_dst (N := 2) rfl ?_); refine zE 2 (cs := #[.int .i64 0, .slice none 0 0]) 26 ?_; intro gb484 hg w19 hbox hb; have BK484 := am (hbox); have GW484 := am ((zq35 : w.heap.size ≤ gb484)); have GE484 := am ((zq35 : w.heap.size ≤ gb484)); replace HB := sB HB hb; clear hb hbox hg) | ((with_reducible refine gate_dst (N := 7) rfl ?_); refine zE 7 (cs := #[.slice A0 l0.length c0, .int .i64 0, .int .u64 0]) 76 ?_; intro gb485 hg w20 hbox hb; have BK485 := am (hbox); have GW485 := am ((zq35 : w.heap.size ≤ gb485)); have GE485 := am ((zq35 : w.heap.size ≤ gb485)); have NB484_485 := am ((by rw [hg]; exact Nat.ne_of_lt (blk_lt (pKq BK484)) : gb484 ≠ gb485)); have NB485_484 := am ((by rw [hg]; exact Nat.ne_of_gt (blk_lt (pKq BK484)) : gb485 ≠ gb484)); replace BK484 := sK BK484 hb; replace HB := sB HB hb; clear hb hbox hg) | ((with_reducible refine gate_callee (f := 77) rfl ?_); refine goesL_ (some 9) rfl rfl Tryz.func77 zq15 rfl #[.pointer (some ⟨gb485, 0, none⟩), .int .i64 10] rfl zq0 ?_; (with_reducible refine (spec_l1Cur_one.calls gb485 l0 0 0 10 false t487 t488 w _ ?side1 ?side2 A2.out).mono ?_); (case side1 => unfold IsS76; exact ⟨_, _, (pKq BK485), GW485.out, HR0.out⟩); (case side2 => exact zq1); rintro e w21 ⟨rfl, hi, hb, hk⟩; refine ⟨_, rfl, ?_⟩; replace BK484 := am (KeepBut.blk hk (g' := gb484) (o := .cells #[.int .i64 0, .slice none 0 0] 26 (0, 0)) (pKq BK484) NB484_485.out zq42); replace HB := am (hb); replace BK485 := am (hi); (try clear hb hk hi)) | ((with_reducible refine gate_callee (f := 79) rfl ?_); refine goesL_ (some 16) rfl rfl Tryz.func79 zq15 rfl #[.pointer (some ⟨gb485, 0, none⟩), .int .i64 6, .int .i64 7] rfl zq0 ?_; (with_reducible refine (spec_l1Cur_sureLadder.calls k gb485 l0 t487 t488 6 7 t501 t502 t505 t506 w _ ?side1 ?side2 A17.out).mono ?_); (case side1 => exact zq20); (case side2 => exact zq18); rintro e w22 ⟨v503, rfl, ho0, hi, hb, hk⟩; refine ⟨_, rfl, ?_⟩; have HO504 := am (Kd.R_lower ho0 (below_size zq18)); replace BK484 := am (KeepBut.blk hk (g' := gb484) (o := .cells #[.int .i64 0, .slice none 0 0] 26 (0, 0)) (pKq BK484) NB484_485.out zq42); replace HB := am (hb); replace BK485 := am (hi); (try clear hb hk hi ho0)) | ((with_reducible refine gate_callee (f := 70) rfl ?_); refine goesL_ (some 18) rfl rfl Tryz.func70 zq15 rfl #[.pointer (some ⟨gb485, 0, none⟩), .int .i64 9] rfl zq0 ?_; (with_reducible refine (spec_l1Cur_pick.calls gb485 l0 t505 t506 9 t507 t508 t509 w _ ?side1 ?side2 A18.out).mono ?_); (case side1 => exact zq20); (case side2 => exact zq18); rintro e w23 ⟨rfl, hi, hb, hk⟩; refine ⟨_, rfl, ?_⟩; replace BK484 := am (KeepBut.blk hk (g' := gb484) (o := .cells #[.int .i64 0, .slice none 0 0] 26 (0, 0)) (pKq BK484) NB484_485.out zq42); replace HO504 := am (Kd.R_mono (Kd.R_keep (IsS76.apart (show IsS76 w _ gb485 l0 t505 t506 from zq20) (pRq HO504) zq27) hk (fun _ h => h.2)) (fun _ h => h.1)); replace HB := am (hb); replace BK485 := am (hi); (try clear hb hk hi); have hnb24 := NB484_485.out; have hnc24 := NB485_484.out; obtain ⟨hcz25_0, hcz25_1, hfz25_0, hfz25_1⟩ := sC BK484; obtain ⟨Ao26, co26, eo26⟩ := Kd.R_slice HO504.out; subst eo26))
  refine bodyPost_ret (results_ct rfl _ _ gb484 26 #[.int .i64 t501, .slice Ao26 t502.length co26] (0, 0) _ rfl (by (with_reducible repeat (first | refine blk_drewN ?_ _ | refine blk_drew ?_ | refine blk_alloc ?_ _)); refine blk_put (cs := #[.int .i64 t501, .slice none 0 0]) ?_ 1 _ rfl; (with_reducible repeat (first | refine blk_drewN ?_ _ | refine blk_drew ?_ | refine blk_alloc ?_ _)); refine blk_put (cs := #[.int .i64 0, .slice none 0 0]) ?_ 0 _ rfl; (with_reducible repeat (first | refine blk_drewN ?_ _ | refine blk_drew ?_ | refine blk_alloc ?_ _)); exact BK484.out) Tryz.underlying26 rfl zq15) rfl ?_
  exact ⟨_, zq6, by (with_reducible repeat (first | apply Kd.R_alloc | apply Kd.R_drewN | apply Kd.R_drew)); exact Kd.R_mono (Kd.R_far (p := ⟨gb484, 1, none⟩) (Kd.R_far (p := ⟨gb484, 0, none⟩) (Kd.R_types HO504.out BK484.out zq27) (fun _ hk => hk.2) (.int .i64 t501)) (fun _ hk => hk.2) (.slice Ao26 t502.length co26)) (fun _ hk => trivial), zq18⟩
/-! ### bits_Mul32: function 139 -/
def bits_Mul32.f (a0 : Int) (a1 : Int) : Option (Int × Int) := some (((IntKind.u64.wrap ((IntKind.u64.wrap (a0)) * (IntKind.u64.wrap (a1)))) / 4294967296) % 4294967296, (IntKind.u64.wrap ((IntKind.u64.wrap (a0)) * (IntKind.u64.wrap (a1)))) % 4294967296)
theorem bits_Mul32.calls (a0 : Int) (a1 : Int) (r1 : Int) (r2 : Int) (w : World) (h : bits_Mul32.f a0 a1 = some (r1, r2)) :
  Calls Tryz.prog 139 #[.int .u32 a0, .int .u32 a1] w fun e w' => e = .returned (.tuple #[.int .u32 r1, .int .u32 r2]) ∧ Drawn0 w w' := by
 unfold bits_Mul32.f at h
 have H := h
 clear h
 simp only [Option.some.injEq, Prod.mk.injEq] at H
 obtain ⟨rfl, rfl⟩ := H
 go_enter Tryz.func139, Tryz.ntmps139
 go_wp2
 go_ret2
 exact ⟨zq10, zq17⟩
/-! ### bits_Mul64: function 140 -/
def bits_Mul64.f (a0 : Int) (a1 : Int) : Option (Int × Int) := some (IntKind.u64.wrap ((IntKind.u64.wrap ((IntKind.u64.wrap ((a0 / 4294967296) * (a1 / 4294967296))) + ((IntKind.u64.wrap ((IntKind.u64.wrap ((a0 / 4294967296) * (Go.bits .and .u64 a1 4294967295))) + ((IntKind.u64.wrap ((Go.bits .and .u64 a0 4294967295) * (Go.bits .and .u64 a1 4294967295))) / 4294967296))) / 4294967296))) + ((IntKind.u64.wrap ((Go.bits .and .u64 (IntKind.u64.wrap ((IntKind.u64.wrap ((a0 / 4294967296) * (Go.bits .and .u64 a1 4294967295))) + ((IntKind.u64.wrap ((Go.bits .and .u64 a0 4294967295) * (Go.bits .and .u64 a1 4294967295))) / 4294967296))) 4294967295) + (IntKind.u64.wrap ((Go.bits .and .u64 a0 4294967295) * (a1 / 4294967296))))) / 4294967296)), IntKind.u64.wrap (a0 * a1))
theorem bits_Mul64.calls (a0 : Int) (a1 : Int) (r1 : Int) (r2 : Int) (w : World) (h : bits_Mul64.f a0 a1 = some (r1, r2)) :
  Calls Tryz.prog 140 #[.int .u64 a0, .int .u64 a1] w fun e w' => e = .returned (.tuple #[.int .u64 r1, .int .u64 r2]) ∧ Drawn0 w w' := by
 unfold bits_Mul64.f at h
 have H := h
 clear h
 simp only [Option.some.injEq, Prod.mk.injEq] at H
 obtain ⟨rfl, rfl⟩ := H
 go_enter Tryz.func140, Tryz.ntmps140
 go_wp2
 go_ret2
 exact ⟨zq10, zq17⟩
/-! ### bits_Mul: function 118 -/
def bits_Mul.f (a0 : Int) (a1 : Int) : Option (Int × Int) := (bits_Mul64.f a0 a1).bind fun bt510 => (some (bt510.1, bt510.2))
theorem bits_Mul.calls (a0 : Int) (a1 : Int) (r1 : Int) (r2 : Int) (w : World) (h : bits_Mul.f a0 a1 = some (r1, r2)) :
  Calls Tryz.prog 118 #[.int .u64 a0, .int .u64 a1] w fun e w' => e = .returned (.tuple #[.int .u64 r1, .int .u64 r2]) ∧ Drawn0 w w' := by
 unfold bits_Mul.f at h
 have H := h
 clear h
 replace H := Option.bind_eq_some_iff.mp H
 obtain ⟨⟨t510, t511⟩, A30, H⟩ := H
 (try dsimp only at H)
 have A3 := am A30
 clear A30
 simp only [Option.some.injEq, Prod.mk.injEq] at H
 obtain ⟨rfl, rfl⟩ := H
 go_enter Tryz.func118, Tryz.ntmps118
 go_wp2_with (first | ((with_reducible refine gate_callee (f := 140) rfl ?_); refine goesL_ (some 25) rfl rfl Tryz.func140 zq15 rfl #[.int .u64 a0, .int .u64 a1] rfl zq0 ?_; (with_reducible refine (bits_Mul64.calls a0 a1 t510 t511 _ A3.out).mono ?_); rintro e w' ⟨rfl, ⟨nd, rfl⟩⟩; refine ⟨_, rfl, ?_⟩))
 go_ret2
 exact ⟨zq10, zq17⟩
/-! ### slices_Repeat_int_int: function 80 -/
def slices_Repeat_int_int.flat (l : List Int) (c : Nat) : List Int := (List.replicate c l).flatten
theorem slices_Repeat_int_int.flat_length (l : List Int) (c : Nat) : (slices_Repeat_int_int.flat l c).length = c * l.length := by
 unfold slices_Repeat_int_int.flat
 induction c with
 | zero => simp
 | succ c ih => rw [List.replicate_succ, List.flatten_cons, List.length_append, ih, Nat.succ_mul]; omega
theorem slices_Repeat_int_int.flat_add (l : List Int) (c d : Nat) : slices_Repeat_int_int.flat l (c + d) = slices_Repeat_int_int.flat l c ++ slices_Repeat_int_int.flat l d := by
 unfold slices_Repeat_int_int.flat
 rw [← List.replicate_append_replicate, List.flatten_append]
theorem slices_Repeat_int_int.flat_take (l : List Int) (c d : Nat) (h : d ≤ c) : (slices_Repeat_int_int.flat l c).take (d * l.length) = slices_Repeat_int_int.flat l d := by
 obtain ⟨e, rfl⟩ : ∃ e, c = d + e := ⟨c - d, zq32⟩
 rw [slices_Repeat_int_int.flat_add, List.take_append_of_le_length (by rw [slices_Repeat_int_int.flat_length]; exact Nat.le_refl _), List.take_of_length_le (by rw [slices_Repeat_int_int.flat_length]; exact Nat.le_refl _)]
def slices_Repeat_int_int.f (l0 : List Int) (x1 : Int) : Option (List Int) := if 0 ≤ x1 ∧ x1 ≤ 1000 ∧ l0.length ≤ 1000 ∧ (x1 = 0 ∨ 0 < l0.length) then some (slices_Repeat_int_int.flat l0 x1.toNat) else none
/-- A copy whose run is known, as a step of a region that draws its order. -/
theorem slices_Repeat_int_int.step {P : Program} {ops : Array Oper} {o : Oper} {a : Act} {W : World} {K : Act → World → Prop} {Q : Exit → Act → World → Prop} {E : Prop} (hg : o.guard = none) (d x : Operand) (t t' : TypeId)
  (hop : o.op = Op.call { callee := Callee.builtin Builtin.copy, args := #[d, x], argTypes := #[t, t'] }) (v u : Value) (hd : a.eval d = v) (hx : a.eval x = u) {z : Value} {W' : World} (hr : (Builtin.copy_ #[t, t'] o.type #[v, u]).run P W = .ok z W') (hK : K (a.put o.dst z) W') :
  if Region.wanted o (yielded ops a.tmps) = true then Oper.wp P o a W K Q else E := by
 rw [if_pos (show Region.wanted o (yielded ops a.tmps) = true by simp [Region.wanted, hg])]
 unfold Oper.wp
 simp [execOp, hop, resolve, invoke, builtin, hd, hx, hr, Result.andThen]
 exact hK
theorem slices_Repeat_int_int.copy_run {P : Program} {w0 W : World} (base : Nat) (t t' e : TypeId) (ht : P.underlying t = some (.slice e)) (hinfo : (P.info? e).map (·.size) = some 1)
  (g cap n N : Nat) (xs : List Int) (ok : Nat → Prop) (hN : N = xs.length) (hn0 : 0 < n) (hn : n < N)
  (HO : Kd.R (Kd.int .i64) e W base ok (.slice (some ⟨g, 0, none⟩) N cap) xs) (HB : Below base w0 W) (hbase : base ≤ W.heap.size) :
  ∃ w1, (∀ ty, (Builtin.copy_ #[t, t'] ty #[.slice (some ⟨g, n, none⟩) (N - n) (cap - n), .slice (some ⟨g, 0, none⟩) n cap]).run P W = .ok (goInt ((min n (N - n) : Nat) : Int)) w1) ∧ Kd.R (Kd.int .i64) e w1 base ok (.slice (some ⟨g, 0, none⟩) N cap) (xs.take n ++ xs.take (min n (N - n)) ++ xs.drop (n + min n (N - n))) ∧ Below base w0 w1 := by
 have hown := Kd.own_of_R (enc := Value.int .i64) (h1 := fun _ => rfl) HO
 have hok := HO.1
 rcases hown.2 with ⟨hv, _⟩ | ⟨g', cap', cur, hv, hb, hh, hnc, hcm, hcs, htake⟩
 ·cases hv
 ·injection hv with h1 h2 h3
  injection h1 with h1
  injection h1 with h1 _ _
  subst h1; subst h3
  rw [Nat.mul_one] at hcs htake
  have henc : ∀ ys : List Int, encs (Value.int .i64) ys = ys.map (Value.int .i64) := fun ys => by simp [encs]
  rw [henc] at htake
  have hkl : (encs (Value.int .i64) (xs.take (min n (N - n)))).length = min n (N - n) := by rw [encs_length, List.length_take]; omega
  have hsrc : ∀ j u, (encs (Value.int .i64) (xs.take (min n (N - n))))[j]? = some u → W.cell? ((⟨g, 0, none⟩ : Addr).add j) = some u := by
   intro j u hu
   have ea : (⟨g, 0, none⟩ : Addr).add j = ⟨g, j, none⟩ := by simp [Addr.add]; omega
   rw [ea, cell_of_row W g _ cur e (0, 0) hh, ← Array.getElem?_toList]
   rw [henc, List.getElem?_map, List.getElem?_take] at hu
   split at hu
   ·rename_i hj
    have h4 : (cur.toList.take xs.length)[j]? = (xs.map (Value.int .i64))[j]? := by rw [htake]
    rw [List.getElem?_take, if_pos zq32, List.getElem?_map] at h4
    rw [h4, hu]
   ·cases hu
  have hr := fun ty => run_copy_cells (P := P) W t t' ty e g n (N - n) (cap - n) ⟨g, 0, none⟩ n cap (encs (Value.int .i64) (xs.take (min n (N - n)))) ht hinfo (by rw [hkl]) hsrc
   (fun j hj => by rw [cell_of_row W g _ cur e (0, 0) hh]; simp; omega) (fun j _ => blk_frozen hh _) (by intro u hu; simp only [encs, List.mem_map] at hu; obtain ⟨q, _, rfl⟩ := hu; rfl)
  obtain ⟨cur', h3, h4, h5⟩ := setCells_row (encs (Value.int .i64) (xs.take (min n (N - n)))) n W cur hh (by rw [hkl]; omega)
  obtain ⟨s1, s2, s3, s4⟩ := setCells_same g (encs (Value.int .i64) (xs.take (min n (N - n)))) n W
  rw [hkl] at hr
  have hln : (xs.take n ++ xs.take (min n (N - n)) ++ xs.drop (n + min n (N - n))).length = xs.length := by
   rw [List.length_append, List.length_append, List.length_take, List.length_take, List.length_drop]
   omega
  refine ⟨_, hr, Kd.R_of_own (enc := Value.int .i64) (h1 := fun _ => rfl) ?_ hok, HB.grown ⟨s1, s2, s3, by rw [s4]; exact Nat.le_refl _, fun k _ hk => setCells_far _ _ k (fun he => hk (by rw [he]; simp [Value.ownBlock]))⟩ hbase (own_base hown)⟩
  rw [hln]
  refine ⟨by rw [encs_length, hln, Nat.mul_one], .inr ⟨g, cap, cur', by rw [hN], hb, h3, hnc, hcm, by rw [h4]; omega, ?_⟩⟩
  rw [h5, Nat.mul_one, hkl, henc, henc]
  have e1 : cur.toList.take n = (xs.take n).map (Value.int .i64) := by rw [List.map_take, ← htake, List.take_take, Nat.min_eq_left zq32]
  have e2 : (cur.toList.drop (n + min n (N - n))).take (xs.length - (n + min n (N - n))) = (xs.drop (n + min n (N - n))).map (Value.int .i64) := by rw [List.map_drop, ← htake, List.drop_take]
  have e3 : (cur.toList.take n ++ (xs.take (min n (N - n))).map (Value.int .i64)).length = n + min n (N - n) := by
   rw [List.length_append, List.length_map, List.length_take, List.length_take, Array.length_toList]
   omega
  rw [List.take_append, List.take_of_length_le (by rw [e3]; omega), e3, e2, e1, List.map_append, List.map_append]
theorem slices_Repeat_int_int.wu (n : Int) (h₀ : 0 ≤ n) (h₁ : n < 2 ^ 63) : IntKind.u64.wrap n = n := by rw [IntKind.wrap_u64]; omega
theorem slices_Repeat_int_int.mul (a b : Nat) (ha : a ≤ 1000) (hb : b ≤ 1000) : bits_Mul.f (a : Int) (b : Int) = some (0, ((b * a : Nat) : Int)) := by
 have hab : b * a ≤ 1000 * 1000 := Nat.mul_le_mul hb ha
 obtain ⟨n, hn⟩ : ∃ n, n = b * a := ⟨_, rfl⟩
 have hm : ∀ x : Nat, x ≤ 1000 → bits .and .u64 (x : Int) 4294967295 = (x : Int) := fun x hx => by
  have h := bits_mask .u64 63 zq27 slices_Repeat_int_int.wu 32 zq27 (x : Int) zq32 zq32
  have e : ((2 : Int) ^ 32 - 1) = 4294967295 := zq27
  have e2 : ((2 : Int) ^ 32) = 4294967296 := zq27
  rw [e, e2] at h
  rw [h]
  omega
 have hw : ∀ x : Int, 0 ≤ x → x ≤ 1000000 → IntKind.u64.wrap x = x := fun x h0 h1 => slices_Repeat_int_int.wu x zq32 zq32
 unfold bits_Mul.f bits_Mul64.f
 have q1 : (a : Int) / 4294967296 = 0 := zq32
 have q2 : (b : Int) / 4294967296 = 0 := zq32
 have q3 : (a : Int) * (b : Int) = (n : Int) := by rw [hn, Int.natCast_mul, Int.mul_comm]
 have q4 : (n : Int) / 4294967296 = 0 := zq32
 rw [← hn]
 have hm0 : bits .and .u64 (0 : Int) 4294967295 = 0 := hm 0 zq32
 have hw0 : IntKind.u64.wrap 0 = 0 := hw 0 zq32 zq32
 have hwn : IntKind.u64.wrap (n : Int) = (n : Int) := hw _ zq32 zq32
 simp only [hm a ha, hm b hb, q1, q2, q3, q4, Int.zero_mul, Int.mul_zero, Int.add_zero, hw0, hm0, hwn, Option.bind_some, Int.zero_ediv]
theorem slices_Repeat_int_int.shape {w : World} {base x : Nat} {ok : Nat → Prop} {v : Value} {xs : List Int} (h : Kd.R (Kd.int .i64) 3 w base ok v xs) (hn : ∃ b, v.ownBlock = some b ∧ x ≤ b) : ∃ g cap, v = .slice (some ⟨g, 0, none⟩) xs.length cap ∧ xs.length ≤ cap := by
 rcases (Kd.own_of_R (enc := Value.int .i64) (h1 := fun _ => rfl) h).2 with ⟨hv, _⟩ | ⟨g, cap, cur, hv, _, _, hnc, _⟩
 ·obtain ⟨b, hb, _⟩ := hn
  rw [hv] at hb
  cases hb
 ·exact ⟨g, cap, hv, hnc⟩
theorem slices_Repeat_int_int.size1 {P : Program} {e : TypeId} {z : Value} {b : Nat} (h : (P.info? e).map (fun i => (i.zero, i.size, i.bytes)) = some (some z, 1, b)) : (P.info? e).map (·.size) = some 1 := by
 obtain ⟨i0, hi, hz⟩ := Option.map_eq_some_iff.1 h
 simp only [Prod.mk.injEq] at hz
 rw [hi, Option.map_some, hz.2.1]
/-- What the first copy leaves. -/
theorem slices_Repeat_int_int.first (l : List Int) (k n : Nat) (hn : n = k * l.length) (hz : k = 0 ∨ 0 < l.length) : ∃ c, c ≤ k ∧ min l.length n = c * l.length ∧ (c = 0 → n = 0) ∧ l.take (min l.length n) ++ (List.replicate n (0 : Int)).drop (min l.length n) = slices_Repeat_int_int.flat l c ++ List.replicate (n - c * l.length) 0 := by
 by_cases h : k = 0
 ·subst h
  rw [Nat.zero_mul] at hn
  subst hn
  exact ⟨0, Nat.le_refl _, zq42, fun _ => rfl, by simp [slices_Repeat_int_int.flat]⟩
 ·have h1 : l.length ≤ n := by rw [hn]; exact Nat.le_mul_of_pos_left _ zq32
  refine ⟨1, zq32, zq32, zq32, ?_⟩
  rw [Nat.min_eq_left h1, List.take_of_length_le (Nat.le_refl _), List.drop_replicate, Nat.one_mul]
  congr 1
  simp [slices_Repeat_int_int.flat]
/-- What each further one leaves. -/
theorem slices_Repeat_int_int.next (l : List Int) (k n c : Nat) (hn : n = k * l.length) (hc : c < k) (hl : 0 < c * l.length) : ∃ d, c < d ∧ d ≤ k ∧ c * l.length + min (c * l.length) (n - c * l.length) = d * l.length ∧
  (slices_Repeat_int_int.flat l c ++ List.replicate (n - c * l.length) (0 : Int)).take (c * l.length) ++ (slices_Repeat_int_int.flat l c ++ List.replicate (n - c * l.length) (0 : Int)).take (min (c * l.length) (n - c * l.length)) ++ (slices_Repeat_int_int.flat l c ++ List.replicate (n - c * l.length) (0 : Int)).drop (c * l.length + min (c * l.length) (n - c * l.length)) = slices_Repeat_int_int.flat l d ++ List.replicate (n - d * l.length) 0 := by
 have hfl := slices_Repeat_int_int.flat_length l c
 have hkc : n - c * l.length = (k - c) * l.length := by rw [hn, Nat.sub_mul]
 have hmin : min (c * l.length) (n - c * l.length) = (min c (k - c)) * l.length := by
  rw [hkc]
  rcases Nat.le_total c (k - c) with h | h
  ·rw [Nat.min_eq_left h, Nat.min_eq_left (Nat.mul_le_mul_right _ h)]
  ·rw [Nat.min_eq_right h, Nat.min_eq_right (Nat.mul_le_mul_right _ h)]
 have hcl : 0 < l.length := by
  rcases Nat.eq_zero_or_pos l.length with h | h
  ·rw [h, Nat.mul_zero] at hl; omega
  ·exact h
 have hc0 : 0 < c := by
  rcases Nat.eq_zero_or_pos c with h | h
  ·rw [h, Nat.zero_mul] at hl; omega
  ·exact h
 refine ⟨c + min c (k - c), zq32, zq32, by rw [hmin, Nat.add_mul], ?_⟩
 rw [hmin, List.take_append_of_le_length (by rw [hfl]; exact Nat.le_refl _), List.take_of_length_le (by rw [hfl]; exact Nat.le_refl _), List.take_append_of_le_length (by rw [hfl]; exact Nat.mul_le_mul_right _ (Nat.min_le_left _ _)), slices_Repeat_int_int.flat_take l c _ (Nat.min_le_left _ _), slices_Repeat_int_int.flat_add]
 congr 1
 rw [List.drop_append, List.drop_eq_nil_of_le (by rw [hfl]; omega), List.nil_append, hfl, List.drop_replicate, Nat.add_mul]
 congr 1
 omega
theorem slices_Repeat_int_int.calls (A0 : Option Addr) (c0 : Nat) (l0 : List Int) (x1 : Int) (r : List Int) (w : World) (hr0 : Kd.C (Kd.int .i64) w A0 l0.length l0) (hc0 : l0.length ≤ c0) (h : slices_Repeat_int_int.f l0 x1 = some r) :
  Calls Tryz.prog 80 #[.slice A0 l0.length c0, .int .i64 x1] w fun e w' => ∃ v0_ : Value, e = .returned (v0_) ∧ Kd.R (Kd.int .i64) 3 w' w.heap.size (fun _ => True) v0_ r ∧ Below w.heap.size w w' := by
 unfold slices_Repeat_int_int.f at h
 split at h
 ·rename_i hcond
  obtain ⟨hx0, hx1, hl, hz⟩ := hcond
  obtain rfl := Option.some.inj h
  obtain ⟨k, rfl⟩ := Int.eq_ofNat_of_zero_le hx0
  have hmul := slices_Repeat_int_int.mul l0.length k hl zq32
  have hkl : k * l0.length ≤ 1000 * 1000 := Nat.mul_le_mul zq32 hl
  obtain ⟨n, hn⟩ : ∃ n, n = k * l0.length := ⟨_, rfl⟩
  rw [← hn] at hmul hkl
  obtain ⟨xk, hxk⟩ : ∃ xk : Int, xk = (k : Int) := ⟨_, rfl⟩
  rw [← hxk] at hmul hx0 hx1 ⊢
  have hwl : IntKind.u64.wrap (l0.length : Int) = (l0.length : Int) := slices_Repeat_int_int.wu _ zq32 zq32
  have hwk : IntKind.u64.wrap xk = xk := slices_Repeat_int_int.wu _ zq32 zq32
  obtain ⟨xn, hxn⟩ : ∃ xn : Int, xn = (n : Int) := ⟨_, rfl⟩
  rw [← hxn] at hmul
  have hwn : IntKind.i64.wrap xn = xn := (i64_w _).trans (by unfold wrap64; omega)
  have d1 : decide (xk < 0) = false := decide_eq_false zq32
  have d2 : decide (xn > 9223372036854775807) = false := decide_eq_false zq32
  have HR := am hr0
  have HC := am hc0
  have HMUL := am hmul
  have HXN := am hxn
  have HN := am hn
  have HXK := am hxk
  have HK := am hx1
  have HZ := am hz
  have HL := am hl
  have HKL := am hkl
  have HB0 := am (Below.refl w.heap.size w)
  clear hr0 hc0 hmul hxn hn hxk hx0 hx1 hz hl hkl h
  go_enter Tryz.func80, Tryz.ntmps80
  go_wp2_with (first | ((with_reducible refine gate_callee (f := 118) rfl ?_); refine goesL_ (some 18) rfl rfl Tryz.func118 zq15 rfl #[.int .u64 (l0.length : Int), .int .u64 xk] rfl zq0 ?_; (with_reducible refine (bits_Mul.calls _ _ 0 xn _ HMUL.out).mono ?_); rintro e w' ⟨rfl, ⟨nd, rfl⟩⟩; refine ⟨_, rfl, ?_⟩) | ((with_reducible refine gate_dst (N := 30) rfl ?_); refine Kd.R_make (Kd.int .i64) w.heap.size 3 rfl (N := 30) rfl 24 _ _ rfl xn ?hx ?hy Tryz.underlying24 (.int .i64 0) 8 info3 rfl zq27 zq32 0 (ok := fun _ => True) (okp := fun _ => True) rfl (fun _ hk => hk) trivial (by have := HXN.out; omega) (by have := HXN.out; have := HKL.out; omega) (w0 := w) (by repeat (first | exact HB0.out | apply below_alloc | apply pw_below_drewN | apply below_drew1)) (Nat.le_refl _) ?_; (case hx => first | rfl | (go_simp; done) | (go_simp; rfl)); (case hy => first | rfl | (go_simp; done) | (go_simp; rfl)); intro v w4 ho hb hg_ hnew_; clear hg_; have hlen_ : (List.replicate xn.toNat (0 : Int)).length = n := (by rw [List.length_replicate]; have := HXN.out; omega); obtain ⟨g, cap, ev, hcap⟩ := slices_Repeat_int_int.shape ho hnew_; rw [hlen_] at ev hcap; subst ev; have ho_ : Kd.R (Kd.int .i64) 3 w4 w.heap.size (fun _ => True) (.slice (some ⟨g, 0, none⟩) n cap) (List.replicate n 0) := (by rw [show n = xn.toNat by have := HXN.out; omega] at ho ⊢; exact ho); have HO := am ho_; have HB4 := am hb; have HCAP := am hcap; clear ho ho_ hb hnew_ hlen_ hcap) | ((with_reducible refine gate_builtin (b := .copy) (xs := #[.tmp 31, .tmp 32]) rfl ?_); refine Kd.R_copy (enc := Value.int .i64) (h1 := fun _ => rfl) 0 (w0 := w) w.heap.size rfl (.tmp 31) (.tmp 32) 24 24 3 rfl Tryz.underlying24 (slices_Repeat_int_int.size1 info3) (.slice (some ⟨g, 0, none⟩) n cap) (List.replicate n 0) l0 A0 l0.length c0 (fun _ => True) rfl rfl ?hO ?hR ?hB ?hS ?_; (case hO => (with_reducible repeat (first | apply Kd.R_alloc | apply Kd.R_drewN | apply Kd.R_drew)); exact HO.out); (case hR => repeat (first | exact (Kd.C_below HR.out HB4.out) | apply Kd.C_drewN | apply Kd.C_drew)); (case hB => repeat (first | exact HB4.out | apply below_alloc | apply pw_below_drewN | apply below_drew1)); (case hS => exact HB4.out.size); intro w5 ho hb hg; clear hg; rw [List.length_replicate] at *; obtain ⟨c, hc, hm, hc0, he⟩ := slices_Repeat_int_int.first l0 k n HN.out (by have := HZ.out; omega); rw [he] at ho; rw [hm]; have HO5 := am ho; have HB5 := am hb; have HCC := am (And.intro hc hc0); clear ho hb hc hc0 hm he))
  go_loopg [8] k (fun gg v8 w' => ∃ (c : Nat) (x8 : Int), v8 = .int .i64 x8 ∧ Aside0 (x8 = ((c * l0.length : Nat) : Int)) ∧ c ≤ k ∧ k - c ≤ gg ∧ Aside0 (c = 0 → n = 0) ∧ Aside0 (Kd.R (Kd.int .i64) 3 w' w.heap.size (fun _ => True) (.slice (some ⟨g, 0, none⟩) n cap) (slices_Repeat_int_int.flat l0 c ++ List.replicate (n - c * l0.length) 0)) ∧ Aside0 (Below w.heap.size w w'))
  case atStart => exact ⟨c, _, rfl, ⟨rfl⟩, HCC.out.1, Nat.sub_le _ _, ⟨HCC.out.2⟩, HO5, HB5⟩
  case round =>
   clear HO HB4 HO5 HB5 HCC
   obtain ⟨c, x8, rfl, HX8, hck, hgk, HC0, HO, HB⟩ := hrel
   by_cases hlt : x8 < (n : Int)
   ·have d8 : decide (x8 < (n : Int)) = true := decide_eq_true hlt
    have hcl : 0 < c * l0.length := by
     rcases Nat.eq_zero_or_pos (c * l0.length) with h0 | h0
     ·have h1 := HC0.out
      have h2 := HZ.out
      have h3 := HN.out
      have h4 := HX8.out
      rcases Nat.mul_eq_zero.1 h0 with h5 | h5
      ·have := h1 h5; omega
      ·rw [h5, Nat.mul_zero] at h3; omega
     ·exact h0
    have hck2 : c < k := by
     rcases Nat.lt_or_ge c k with h0 | h0
     ·exact h0
     ·have h1 : k * l0.length ≤ c * l0.length := Nat.mul_le_mul_right _ h0
      have h3 := HN.out
      have h4 := HX8.out
      omega
    obtain ⟨d, hcd, hdk, hsum, hrow⟩ := slices_Repeat_int_int.next l0 k n c HN.out hck2 hcl
    have hX8 := HX8.out
    obtain ⟨m, hm⟩ : ∃ m, m = c * l0.length := ⟨_, rfl⟩
    rw [← hm] at hX8 hcl hsum hrow HO
    have hmn : m < n := zq32
    obtain ⟨xd, hxd⟩ : ∃ xd : Int, xd = ((d * l0.length : Nat) : Int) := ⟨_, rfl⟩
    have hdn : d * l0.length ≤ n := by rw [HN.out]; exact Nat.mul_le_mul_right _ hdk
    have hkl := HKL.out
    have hwd : IntKind.i64.wrap (x8 + ((min m (n - m) : Nat) : Int)) = xd := (i64_w _).trans (by unfold wrap64; omega)
    obtain ⟨i0, hi0, _, hsz0, _⟩ := info_parts info3
    have hcutt := cut_to (P := Tryz.prog) 24 3 .i64 Tryz.underlying24 hi0 (some ⟨g, 0, none⟩) n cap x8 zq32 zq32 HCAP.out
    have hcutf := cut_from (P := Tryz.prog) 24 3 .i64 Tryz.underlying24 hi0 1 hsz0 (some ⟨g, 0, none⟩) n cap x8 zq32 zq32
    have hcap := HCAP.out
    have ex8 : x8.toNat = m := zq32
    rw [ex8] at hcutt hcutf
    rw [if_neg (show ¬ cap = m by omega), Nat.mul_one, show (some (⟨g, 0, none⟩ : Addr)).map (fun a_ => a_.add m) = some ⟨g, m, none⟩ by simp [Addr.add]; omega] at hcutf
    have hfn : n = (slices_Repeat_int_int.flat l0 c ++ List.replicate (n - m) (0 : Int)).length := by rw [List.length_append, slices_Repeat_int_int.flat_length, List.length_replicate]; omega
    obtain ⟨w5, hrun, hO5, hB5⟩ := slices_Repeat_int_int.copy_run (P := Tryz.prog) (w0 := w) (W := wr.drew) w.heap.size 24 24 3 Tryz.underlying24 (slices_Repeat_int_int.size1 info3) g cap m n _ (fun _ => True) hfn hcl hmn (pRq HO) (below_drew1 HB.out) HB.out.size
    rw [hrow] at hO5
    have HO5 := am hO5
    have HB5 := am hB5
    have HXD := am hxd
    have HDK := am (And.intro hcd hdk)
    have HD := am hdn
    have HHN := am (show d = 0 → n = 0 from fun h0 => by omega)
    have hgd := hgk
    clear hrow hO5 hB5 hxd hcd hdk hcl hmn hdn hck hkl hcap ex8 hlt hsum hm hck2 hX8 hi0 hsz0 hfn
    go_wp2
    go_region_law (refine slices_Repeat_int_int.step rfl _ _ 24 24 rfl _ _ (by simp [Act.eval, Act.put]) (by simp [Act.eval, Act.put]) (hrun _) ?_)
    all_goals
     go_wp2
     go_roundg (k - d)
     case measure => have := HDK.out; omega
     case rel => exact ⟨d, xd, zq10, HXD, HDK.out.2, Nat.le_refl _, HHN, HO5, HB5⟩
   ·have d8 : decide (x8 < (n : Int)) = false := decide_eq_false hlt
    have HNL := am hlt
    clear hlt
    go_wp2
    go_ret
    have ek : c = k := by
     rcases Nat.lt_or_ge c k with h0 | h0
     ·have h1 := HNL.out
      have h2 := HX8.out
      have h3 := HN.out
      have h4 := HZ.out
      have h5 : c * l0.length < k * l0.length := Nat.mul_lt_mul_of_pos_right h0 zq32
      omega
     ·omega
    have hO := HO.out
    rw [ek, show n - k * l0.length = 0 by have := HN.out; omega, List.replicate_zero, List.append_nil] at hO
    have exk : xk.toNat = k := by have := HXK.out; omega
    rw [exk]
    exact ⟨_, rfl, by (with_reducible repeat (first | apply Kd.R_alloc | apply Kd.R_drewN | apply Kd.R_drew)); exact hO, by repeat (first | exact HB.out | apply below_alloc | apply pw_below_drewN | apply below_drew1)⟩
 ·cases h
end
end Go.Proofs.YtlmiiijjjcddkaaGreatDoor.PLg
