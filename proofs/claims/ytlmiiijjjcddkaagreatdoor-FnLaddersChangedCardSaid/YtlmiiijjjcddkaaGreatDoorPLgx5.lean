-- Written for this claim by a program of this session (myprint.py) over the kit's printer.
import Derived.Test.YtlmiiijjjcddkaaGreatDoorPLgx0
import Derived.Test.YtlmiiijjjcddkaaGreatDoorPLgx1
import Derived.Test.YtlmiiijjjcddkaaGreatDoorPLgx2
import Derived.Test.YtlmiiijjjcddkaaGreatDoorPLgx4
namespace Go.Proofs.YtlmiiijjjcddkaaGreatDoor.PLg
noncomputable section
open Go.RowKit Go.Proofs.YtlmiiijjjcddkaaGreatDoorW.PrintWords Go.Proofs.YtlmiiijjjcddkaaGreatDoorW.PrintLast Go.Proofs.YtlmiiijjjcddkaaGreatDoorW.PrintMore
attribute [local go_sem] max2_int min2_int max_two min_two max_three min_three max_four min_four   -- for this text's walks alone
open List (setIfInBounds_toArray set_cons_zero set_cons_succ)
set_option maxHeartbeats 8000000
set_option maxRecDepth 100000
set_option linter.unusedVariables false
set_option linter.unusedSimpArgs false
/-! ### slices_Insert_int_int: function 72 -/
def slices_Insert_int_int.f (l0 : List Int) (a1 : Int) (l2 : List Int) : Option (List Int) := if 0 ≤ a1 then (if a1 ≤ (l0.length : Int) then (if 0 < l2.length then (if l0.length + l2.length ≤ 1048576 then (some (l0.take a1.toNat ++ l2 ++ l0.drop a1.toNat)) else (none)) else (none)) else (none)) else (none)
theorem slices_Insert_int_int.encs_map (l : List Int) : encs (Value.int .i64) l = l.map (Value.int .i64) := by simp [encs]
theorem slices_Insert_int_int.put (g : Nat) (cur : Array Value) (e : TypeId) (W : World) (i m k : Nat) (vs zs : List Value) (hvs : vs.length = m) (hzs : zs.length = k) (hh : W.heap[g]? = some (.cells cur e (0, 0))) (hsz : i + m + k ≤ cur.size) :
  (∃ c, ((W.setCells g i vs).setCells g (i + m) zs).heap[g]? = some (.cells c e (0, 0)) ∧ c.size = cur.size ∧ c.toList.take (i + m + k) = cur.toList.take i ++ vs ++ zs) ∧ (∃ c, ((W.setCells g (i + m) zs).setCells g i vs).heap[g]? = some (.cells c e (0, 0)) ∧ c.size = cur.size ∧ c.toList.take (i + m + k) = cur.toList.take i ++ vs ++ zs) := by
 have hl : cur.toList.length = cur.size := Array.length_toList
 constructor
 ·obtain ⟨c1, h1, h2, h3⟩ := setCells_row vs i W cur hh zq32
  obtain ⟨c2, h4, h5, h6⟩ := setCells_row zs (i + m) _ c1 h1 zq32
  refine ⟨c2, h4, zq32, ?_⟩
  have e1 : c1.toList.take (i + m) = cur.toList.take i ++ vs := by
   rw [h3]; exact List.take_left' (by rw [List.length_append, List.length_take]; omega)
  rw [h6, e1]
  exact List.take_left' (by rw [List.length_append, List.length_append, List.length_take]; omega)
 ·obtain ⟨c1, h1, h2, h3⟩ := setCells_row zs (i + m) W cur hh zq32
  obtain ⟨c2, h4, h5, h6⟩ := setCells_row vs i _ c1 h1 zq32
  refine ⟨c2, h4, zq32, ?_⟩
  have e1 : c1.toList.take i = cur.toList.take i := by
   rw [h3, List.append_assoc, List.take_append_of_le_length (by rw [List.length_take]; omega), List.take_take, Nat.min_eq_left zq32]
  have e2 : c1.toList.drop (i + vs.length) = zs ++ cur.toList.drop (i + m + zs.length) := by
   rw [h3, List.append_assoc]
   exact List.drop_left' (by rw [List.length_take]; omega)
  rw [h6, e1, e2, ← List.append_assoc]
  exact List.take_left' (by rw [List.length_append, List.length_append, List.length_take]; omega)
theorem slices_Insert_int_int.fin (g : Nat) (c : Array Value) (W : World) (base n' cap : Nat) (P' : Nat → Prop) (r : List Int) (hh : W.heap[g]? = some (.cells c 3 (0, 0))) (hc : c.size = cap) (hr : r.length = n') (hn : n' ≤ cap) (hcm : cap ≤ maxLen) (hb : base ≤ g) (hP : P' g) (ht : c.toList.take n' = r.map (Value.int .i64)) : Kd.R (Kd.int .i64) 3 W base P' (.slice (some ⟨g, 0, none⟩) n' cap) r := by
 subst hr
 refine Kd.R_of_own (enc := Value.int .i64) (h1 := fun _ => rfl) ?_ (fun k hk => ?_)
 ·refine ⟨by rw [encs_length, Nat.mul_one], .inr ⟨g, cap, c, rfl, hb, hh, hn, hcm, zq32, ?_⟩⟩
  rw [Nat.mul_one, ht, slices_Insert_int_int.encs_map]
 ·simp only [Value.ownBlock] at hk
  obtain rfl : g = k := by simpa using hk
  exact hP
theorem slices_Insert_int_int.world (g : Nat) (w0 w W : World) (base o1 o2 : Nat) (vs zs : List Value) (S : Nat → Prop) (hS : S g ∨ w.heap.size ≤ g) (hb : base ≤ g) (hB : Below base w0 W) (hK : Kept w W S) :
  Below base w0 ((W.setCells g o1 vs).setCells g o2 zs) ∧ Kept w ((W.setCells g o1 vs).setCells g o2 zs) S := by
 obtain ⟨s1, s2, s3, s4⟩ := setCells_same g vs o1 W
 obtain ⟨t1, t2, t3, t4⟩ := setCells_same g zs o2 (W.setCells g o1 vs)
 have hfar : ∀ k, k ≠ g → ((W.setCells g o1 vs).setCells g o2 zs).heap[k]? = W.heap[k]? := fun k hk => (setCells_far zs _ k hk).trans (setCells_far vs _ k hk)
 refine ⟨⟨by rw [t1, s1]; exact hB.os, by rw [t2, s2]; exact hB.tape, by rw [t3, s3]; exact hB.output, by rw [t4, s4]; exact hB.size, fun k hk => (hfar k zq32).trans (hB.block k hk)⟩, ⟨by rw [t4, s4]; exact hK.1, fun k hk hn => (hfar k (fun e => ?_)).trans (hK.2 k hk hn)⟩⟩
 subst e
 rcases hS with h | h
 ·exact hn h
 ·omega
theorem slices_Insert_int_int.cells {g n : Nat} {cur : Array Value} {W : World} {l : List Int} (hh : W.heap[g]? = some (.cells cur 3 (0, 0))) (hl : l.length = n) (ht : cur.toList.take n = l.map (Value.int .i64)) : ∀ j v, (l.map (Value.int .i64))[j]? = some v → W.cell? ⟨g, 0 + j, none⟩ = some v := by
 intro j v hv
 have hj : j < n := by
  have := (List.getElem?_eq_some_iff.1 hv).1
  rwa [List.length_map, hl] at this
 rw [Nat.zero_add, cell_of_row W g j cur 3 (0, 0) hh, ← hv, ← ht, List.getElem?_take, if_pos hj, Array.getElem?_toList]
theorem slices_Insert_int_int.some_cell {g j : Nat} {cur : Array Value} {W : World} (hh : W.heap[g]? = some (.cells cur 3 (0, 0))) (hj : j < cur.size) : (W.cell? ⟨g, j, none⟩).isSome = true := by
 rw [cell_of_row W g j cur 3 (0, 0) hh, Array.getElem?_eq_getElem hj]; rfl
theorem slices_Insert_int_int.one (l : List Int) : ∀ v ∈ l.map (Value.int .i64), v.oneCell' = true := by
 intro v hv
 obtain ⟨x, _, rfl⟩ := List.mem_map.1 hv
 rfl
theorem slices_Insert_int_int.own {w : World} {base : Nat} {P' : Nat → Prop} {v : Value} {l : List Int} (h : Kd.R (Kd.int .i64) 3 w base P' v l) : (v = .slice none 0 0 ∧ l = []) ∨ ∃ g cap cur, v = .slice (some ⟨g, 0, none⟩) l.length cap ∧ base ≤ g ∧ P' g ∧ w.heap[g]? = some (.cells cur 3 (0, 0)) ∧ l.length ≤ cap ∧ cap ≤ maxLen ∧ cur.size = cap ∧ cur.toList.take l.length = l.map (Value.int .i64) := by
 rcases (Kd.own_of_R (enc := Value.int .i64) (h1 := fun _ => rfl) h).2 with ⟨hv, hn⟩ | ⟨g, cap, cur, hv, hb, hh, hnc, hcm, hcs, ht⟩
 ·exact .inl ⟨by rw [hv], List.eq_nil_of_length_eq_zero hn⟩
 ·refine .inr ⟨g, cap, cur, hv, hb, h.1 g (by rw [hv]; simp [Value.ownBlock]), hh, hnc, hcm, zq32, ?_⟩
  rw [Nat.mul_one, slices_Insert_int_int.encs_map] at ht
  exact ht
set_option maxHeartbeats 4000000 in
set_option maxRecDepth 100000 in
theorem slices_Insert_int_int.calls (P0_ : Nat → Prop) (u9000_ : Value) (l0 : List Int) (a1 : Int) (P2_ : Nat → Prop) (u9001_ : Value) (l2 : List Int) (r : List Int) (w0 w : World) (hB : Below w0.heap.size w0 w) (ho0 : Kd.R (Kd.int .i64) 3 w w0.heap.size P0_ u9000_ l0) (hp0_2 : ∀ k_, P0_ k_ → ¬ P2_ k_) (ho2 : Kd.R (Kd.int .i64) 3 w w0.heap.size P2_ u9001_ l2) (hp2_0 : ∀ k_, P2_ k_ → ¬ P0_ k_) (h : slices_Insert_int_int.f l0 a1 l2 = some r) :
  Calls Tryz.prog 72 #[u9000_, .int .i64 a1, u9001_] w fun e w' => ∃ v0_ : Value, e = .returned (v0_) ∧ Kd.R (Kd.int .i64) 3 w' w0.heap.size (fun k_ => ((P0_ k_ ∨ P2_ k_) ∨ w.heap.size ≤ k_)) v0_ r ∧ Below w0.heap.size w0 w' ∧ Kept w w' (fun k_ => P0_ k_ ∨ P2_ k_) := by
 unfold slices_Insert_int_int.f at h
 by_cases h1 : 0 ≤ a1
 ·rw [if_pos h1] at h
  by_cases h2 : a1 ≤ (l0.length : Int)
  ·rw [if_pos h2] at h
   by_cases h3 : 0 < l2.length
   ·rw [if_pos h3] at h
    by_cases h4 : l0.length + l2.length ≤ 1048576
    ·rw [if_pos h4] at h
     obtain rfl := Option.some.inj h
     clear h
     obtain ⟨i, rfl⟩ := Int.eq_ofNat_of_zero_le h1
     simp only [Int.toNat_natCast]
     have hi : i ≤ l0.length := zq32
     rcases slices_Insert_int_int.own ho2 with ⟨_, e⟩ | ⟨vb, vc, vcur, rfl, hvb, hvP, hvh, hvn, hvm, hvs, hvt⟩
     ·subst e; simp at h3
     have hvcell := slices_Insert_int_int.cells hvh rfl hvt
     have hone := slices_Insert_int_int.one l2
     have hvl : (l2.map (Value.int .i64)).length = l2.length := List.length_map _
     have hml : maxLen = 9223372036854775807 := rfl
     have hrl : (l0.take i ++ l2 ++ l0.drop i).length = l0.length + l2.length := by simp; omega
     have hws := hB.size
     rcases slices_Insert_int_int.own ho0 with ⟨rfl, e⟩ | ⟨g, cap, cur, rfl, hb, hP, hh, hnc, hcm, hcs, ht⟩
     ·subst e
      obtain rfl : i = 0 := by simpa using hi
      refine (Any2.slices_Insert_int_end_grow Tryz.lays21 none 0 0 vb 0 l2.length vc [] (l2.map (Value.int .i64)) w h3 (Nat.le_refl _) zq32 (by simp at h4; omega) rfl hvl (fun _ => rfl) (fun a h => by cases h) hvcell hone).mono ?_
      rintro e w' ⟨rfl, rfl⟩
      have g1 := grownCap_ge w (0 + l2.length) 0 3
      have g2 := grownCap_le_maxLen w (0 + l2.length) 0 3 (by simp at h4; omega)
      refine ⟨_, rfl, slices_Insert_int_int.fin w.heap.size _ _ _ _ _ _ _ (by show (Array.push w.heap _)[w.heap.size]? = _; exact Array.getElem?_push_size) ?_ zq42 g1 g2 hws (.inr (Nat.le_refl _)) ?_, below_alloc (below_drew1 hB) _, Kept.alloc (Kept.drew (Kept.refl _ _)) _⟩
      ·rw [show Tryz.lays21_ren.t 3 = 3 from rfl]
       have e : grownCap w l2.length 0 3 = grownCap w (0 + l2.length) 0 3 := by rw [Nat.zero_add]
       simp only [Array.size_append, size_zeroCells, List.size_toArray, List.length_append, List.length_map, List.length_nil, Value.cells]
       simp
       simp at g1
       omega
      ·rw [Array.toList_append, List.nil_append]
       simp [List.take_append_of_le_length]
     ·have hcell := slices_Insert_int_int.cells hh rfl ht
      have hcl : (l0.map (Value.int .i64)).length = l0.length := List.length_map _
      have honec := slices_Insert_int_int.one l0
      have hvg : vb ≠ g := fun e => hp0_2 g hP (e ▸ hvP)
      have hdl : ((l0.map (Value.int .i64)).drop i).length = l0.length - i := zq42
      have hfin : (cur.toList.take i ++ l2.map (Value.int .i64) ++ (l0.map (Value.int .i64)).drop i) = (l0.take i ++ l2 ++ l0.drop i).map (Value.int .i64) := by
       have e1 : cur.toList.take i = (l0.map (Value.int .i64)).take i := by rw [← ht, List.take_take, Nat.min_eq_left hi]
       rw [e1, List.map_append, List.map_append, List.map_take, List.map_drop]
      by_cases hroom : l0.length + l2.length ≤ cap
      ·obtain ⟨⟨c1, p1, p2, p3⟩, ⟨c2, q1, q2, q3⟩⟩ := slices_Insert_int_int.put g cur 3 w i l2.length (l0.length - i) (l2.map (Value.int .i64)) ((l0.map (Value.int .i64)).drop i) hvl hdl hh zq32
       by_cases hin : i = l0.length
       ·subst hin
        refine (Any2.slices_Insert_int_end_room Tryz.lays21 g 0 l0.length cap vb 0 l2.length vc (l2.map (Value.int .i64)) w h3 hroom zq32 hvl (fun j hj => slices_Insert_int_int.some_cell hh zq32) (fun j hj => blk_frozen hh _) hvcell hone).mono ?_
        rintro e w' ⟨rfl, rfl⟩
        have hd : (l0.map (Value.int .i64)).drop l0.length = [] := List.drop_eq_nil_of_le zq42
        rw [hd] at p1 p3 hfin
        have hW := slices_Insert_int_int.world g w0 w w w0.heap.size l0.length (l0.length + l2.length) (l2.map (Value.int .i64)) [] (fun k_ => P0_ k_ ∨ P2_ k_) (.inl (.inl hP)) hb hB (Kept.refl _ _)
        rw [Nat.zero_add]
        exact ⟨_, rfl, slices_Insert_int_int.fin g c1 _ _ _ _ _ _ p1 zq32 hrl hroom hcm hb (.inl (.inl hP)) (by rw [← hfin, ← p3]; congr 1; omega), hW.1, hW.2⟩
       ·refine (Any2.slices_Insert_int_shift Tryz.lays21 g 0 l0.length cap i vb 0 l2.length vc (l0.map (Value.int .i64)) (l2.map (Value.int .i64)) w zq32 h3 hroom zq32 hvg hcl hvl hcell (fun j hj => slices_Insert_int_int.some_cell hh zq32) (fun j hj => blk_frozen hh _) hvcell honec hone 3 3 vcur.size cur.size (by simp [World.shape?, hvh]) (by simp [World.shape?, hh]) zq32 (blk_frozen hvh _) (blk_frozen hvh _)).mono ?_
        rintro e w' ⟨rfl, rfl⟩
        have hW := slices_Insert_int_int.world g w0 w w.drew w0.heap.size (i + l2.length) i ((l0.map (Value.int .i64)).drop i) (l2.map (Value.int .i64)) (fun k_ => P0_ k_ ∨ P2_ k_) (.inl (.inl hP)) hb (below_drew1 hB) (Kept.drew (Kept.refl _ _))
        obtain ⟨_, ⟨c3, r1, r2, r3⟩⟩ := slices_Insert_int_int.put g cur 3 w.drew i l2.length (l0.length - i) (l2.map (Value.int .i64)) ((l0.map (Value.int .i64)).drop i) hvl hdl hh zq32
        rw [Nat.zero_add, Nat.zero_add]
        exact ⟨_, rfl, slices_Insert_int_int.fin g c3 _ _ _ _ _ _ r1 zq32 hrl hroom hcm hb (.inl (.inl hP)) (by rw [← hfin, ← r3]; congr 1; omega), hW.1, hW.2⟩
      ·have g1 := grownCap_ge w (l0.length + l2.length) cap 3
       have g2 := grownCap_le_maxLen w (l0.length + l2.length) cap 3 zq32
       by_cases hin : i = l0.length
       ·subst hin
        refine (Any2.slices_Insert_int_end_grow Tryz.lays21 (some ⟨g, 0, none⟩) l0.length cap vb 0 l2.length vc (l0.map (Value.int .i64)) (l2.map (Value.int .i64)) w h3 hnc zq32 zq32 hcl hvl (fun h => by cases h) (fun a ha j v hv => by cases ha; rw [add_at]; exact hcell j v hv) hvcell hone).mono ?_
        rintro e w' ⟨rfl, rfl⟩
        refine ⟨_, rfl, slices_Insert_int_int.fin w.heap.size _ _ _ _ _ _ _ (by show (Array.push w.heap _)[w.heap.size]? = _; exact Array.getElem?_push_size) ?_ hrl g1 g2 hws (.inr (Nat.le_refl _)) ?_, below_alloc (below_drew1 hB) _, Kept.alloc (Kept.drew (Kept.refl _ _)) _⟩
        ·rw [show Tryz.lays21_ren.t 3 = 3 from rfl]
         simp only [Array.size_append, size_zeroCells, List.size_toArray, List.length_append, List.length_map, Value.cells]
         simp
         omega
        ·rw [Array.toList_append, List.take_left' zq42]
         simp
       ·refine (Any2.slices_Insert_int_grow Tryz.lays21 g 0 l0.length cap i vb 0 l2.length vc (l0.map (Value.int .i64)) (l2.map (Value.int .i64)) w zq32 h3 hnc zq32 zq32 hcl hvl hcell hvcell honec hone).mono ?_
        rintro e w' ⟨rfl, rfl⟩
        obtain ⟨arr, harr⟩ : ∃ arr : Array Value, arr = ((l0.map (Value.int .i64)).take i).toArray ++ Builtin.zeroCells (Value.int .i64 0).cells (l0.length + l2.length - i) ++ Builtin.zeroCells (Value.int .i64 0).cells (grownCap w (l0.length + l2.length) cap 3 - (l0.length + l2.length)) := ⟨_, rfl⟩
        have hasz : arr.size = grownCap w (l0.length + l2.length) cap 3 := by
         rw [harr]
         simp only [Array.size_append, size_zeroCells, List.size_toArray, List.length_take, List.length_map, Value.cells]
         simp
         omega
        have hat : arr.toList.take i = cur.toList.take i := by
         have e1 : cur.toList.take i = (l0.map (Value.int .i64)).take i := by rw [← ht, List.take_take, Nat.min_eq_left hi]
         rw [e1, harr, Array.toList_append, Array.toList_append, List.append_assoc]
         exact List.take_left' (by simp; omega)
        have hnew : (w.alloc (.cells arr 3)).drew.drew.heap[w.heap.size]? = some (.cells arr 3 (0, 0)) := by
         show (Array.push w.heap _)[w.heap.size]? = _
         exact Array.getElem?_push_size
        have hW := slices_Insert_int_int.world w.heap.size w0 w (w.alloc (.cells arr 3)).drew.drew w0.heap.size i (i + l2.length) (l2.map (Value.int .i64)) ((l0.map (Value.int .i64)).drop i) (fun k_ => P0_ k_ ∨ P2_ k_) (.inr (Nat.le_refl _)) hws (below_drew1 (below_drew1 (below_alloc hB _))) (Kept.drew (Kept.drew (Kept.alloc (Kept.refl _ _) _)))
        obtain ⟨⟨c3, r1, r2, r3⟩, _⟩ := slices_Insert_int_int.put w.heap.size arr 3 _ i l2.length (l0.length - i) (l2.map (Value.int .i64)) ((l0.map (Value.int .i64)).drop i) hvl hdl hnew zq32
        rw [show Tryz.lays21_ren.t 3 = 3 from rfl, ← harr, drew_setCells]
        exact ⟨_, rfl, slices_Insert_int_int.fin w.heap.size c3 _ _ _ _ _ _ r1 zq32 hrl g1 g2 hws (.inr (Nat.le_refl _)) (by rw [← hfin, ← hat, ← r3]; congr 1; omega), hW.1, hW.2⟩
    ·rw [if_neg h4] at h; cases h
   ·rw [if_neg h3] at h; cases h
  ·rw [if_neg h2] at h; cases h
 ·rw [if_neg h1] at h; cases h
/-! ### impl_AddRung: function 21 -/
def impl_AddRung.j0 : Nat → Int → Int → Bool → Int → List Int → Option (Int × List Int × Bool)
 | 0, _, _, _, _, _ => none
 | k + 1, x1, x2, x18, x382000, x382001 => if x18 = true then (some (0, ([] : List Int), false)) else ((slices_Clone_int_int.f x382001).bind fun t385 => ((slices_Insert_int_int.f t385 x1 (([x2] : List Int))).bind fun t391 => ((impl_checked.f x382000 t391).bind fun bt394 => (some (bt394.1, bt394.2.1, bt394.2.2)))))
def impl_AddRung.f (k : Nat) (a0_0 : Int) (l0_1 : List Int) (a1 : Int) (a2 : Int) : Option (Int × List Int × Bool) := (impl_isLadder.f a0_0 l0_1).bind fun t383 => (if t383 = true then ((impl_between.f a1 0 (l0_1.length : Int)).bind fun t384 => (impl_AddRung.j0 k a1 a2 (!t384) a0_0 l0_1)) else (impl_AddRung.j0 k a1 a2 true a0_0 l0_1))
theorem impl_AddRung.mono_l : ∀ k, (∀ y0 y1 y2 y3 y4, LeO (impl_AddRung.j0 k y0 y1 y2 y3 y4) (impl_AddRung.j0 (k + 1) y0 y1 y2 y3 y4))
 | 0 => fun _ _ _ _ _ r h => by simp [impl_AddRung.j0] at h
 | k + 1 => by
  have ih0 := impl_AddRung.mono_l k
  ·intro y0 y1 y2 y3 y4
   unfold impl_AddRung.j0
   repeat' first | (with_reducible first | exact ih0 _ _ _ _ _ | exact LeO.refl _ | exact LeO.none _ | refine LeO.ite ?_ ?_ | refine LeO.bind ?_ (fun _ => ?_))
theorem impl_AddRung.mono : ∀ a0 a1 a2 a3 k, LeO (impl_AddRung.f k a0 a1 a2 a3) (impl_AddRung.f (k + 1) a0 a1 a2 a3) := by
 intro a0 a1 a2 a3 k
 have ih0 := impl_AddRung.mono_l k
 unfold impl_AddRung.f
 repeat' first | (with_reducible first | exact ih0 _ _ _ _ _ | exact LeO.refl _ | exact LeO.none _ | refine LeO.ite ?_ ?_ | refine LeO.bind ?_ (fun _ => ?_))
def impl_AddRung.T3 : Bool × List (List Nat × List Nat) := (true, [([], []), ([0], [0]), ([], []), ([2], [2]), ([3], [3]), ([], []), ([], []), ([6], [6]), ([4, 5, 7, 4], [4, 5, 7]), ([1, 8], [1, 8]), ([9, 8], [9]), ([10], [10]), ([10], [10]), ([11, 10, 0, 1, 2, 3, 4, 5, 6, 7, 8, 9, 10, 11, 12], [11]), ([12, 13, 0, 1, 2, 3, 4, 5, 6, 7, 8, 9, 10, 11, 12, 13], [12])])
def impl_AddRung.B3 : List Nat := [0, 1, 0, 4, 12, 0, 0, 64, 252, 511, 1023, 2047, 2047, 8191, 16383]
theorem impl_AddRung.tab3 : rtab .any (opsOf Tryz.f21 3) = impl_AddRung.T3 := by kernel_rfl
theorem impl_AddRung.bits3 : waitsOk impl_AddRung.T3.2 impl_AddRung.B3 = true := by kernel_rfl
theorem impl_AddRung.calls (k : Nat) (a0_0 : Int) (A0_1 : Option Addr) (c0_1 : Nat) (l0_1 : List Int) (a1 : Int) (a2 : Int) (r1 : Int) (r2 : List Int) (r3 : Bool) (w : World) (hr0_1 : Kd.C (Kd.int .i64) w A0_1 l0_1.length l0_1) (hc0_1 : l0_1.length ≤ c0_1) (h : impl_AddRung.f k a0_0 l0_1 a1 a2 = some (r1, r2, r3)) :
  Calls Tryz.prog 21 #[.agg #[.int .i64 a0_0, .slice A0_1 l0_1.length c0_1], .int .i64 a1, .int .i64 a2] w fun e w' => ∃ v1_ : Value, e = .returned (.tuple #[.agg #[.int .i64 r1, v1_], .bool r3]) ∧ Kd.R (Kd.int .i64) 3 w' w.heap.size (fun _ => True) v1_ r2 ∧ Below w.heap.size w w' := by
 have hu26 := Tryz.underlying26
 have HR0_1 := am hr0_1
 have HC0_1 := am hc0_1
 clear hr0_1 hc0_1
 have HB := am (Below.refl w.heap.size w)
 unfold impl_AddRung.f at h
 have H := h
 clear h
 have HC4 := am H
 clear H
 go_enter Tryz.func21, Tryz.ntmps21
 go_upto_region 1 with (first | ((with_reducible refine gate_dst (N := 3) rfl ?_); (try (refine gate_guard (by rfl) ?_; dsimp only)); refine zE 3 (cs := #[.int .i64 a0_0, .slice A0_1 l0_1.length c0_1]) 26 ?_; intro gb381 hg w5 hbox hb; have BK381 := am (hbox); have GW381 := am ((zq85 : w.heap.size ≤ gb381)); replace HB := sB HB hb; clear hb hbox hg) | ((with_reducible refine gate_dst (N := 6) rfl ?_); (try (refine gate_guard (by rfl) ?_; dsimp only)); refine zE 6 (cs := #[.int .i64 0, .slice none 0 0]) 26 ?_; intro gb382 hg w6 hbox hb; have BK382 := am (hbox); have GW382 := am ((zq85 : w.heap.size ≤ gb382)); have NB381_382 := am ((by rw [hg]; exact Nat.ne_of_lt (blk_lt (pKq BK381)) : gb381 ≠ gb382)); have NB382_381 := am ((by rw [hg]; exact Nat.ne_of_gt (blk_lt (pKq BK381)) : gb382 ≠ gb381)); replace BK381 := sK BK381 hb; replace HB := sB HB hb; clear hb hbox hg))
 (try simp only [Act.put, setIfInBounds_toArray, set_cons_zero, set_cons_succ])
 go_cut [18] (fun v18 wc => ∃ (kq : Nat) (x18_3 : Bool), v18 = .bool x18_3 ∧ Aside0 (impl_AddRung.j0 kq a1 a2 x18_3 a0_0 l0_1 = some (r1, r2, r3)) ∧ Aside0 (kq ≤ k) ∧ Aside0 (wc.heap[gb381]? = some (.cells #[.int .i64 a0_0, (.slice A0_1 l0_1.length c0_1)] 26 (0, 0))) ∧ Aside0 (wc.heap[gb382]? = some (.cells #[.int .i64 0, (.slice none 0 0)] 26 (0, 0))) ∧ Aside0 (Below w.heap.size w wc))
 case first =>
  have H := HC4.out
  clear HC4
  obtain ⟨t383, A7, H⟩ := zS H
  (try dsimp only at H)
  by_cases c8 : t383 = true
  ·subst c8
   rw [if_pos rfl] at H
   obtain ⟨t384, A9, H⟩ := zS H
   (try dsimp only at H)
   have H' := am H
   clear H
   have hnb10 := NB381_382.out
   have hnc10 := NB382_381.out
   obtain ⟨hcz11_0, hcz11_1, hfz11_0, hfz11_1⟩ := sC BK381
   go_wp2_with (first | ((with_reducible refine gate_callee (f := 56) rfl ?_); refine goesL_ (some 9) rfl rfl Tryz.func56 zq15 rfl #[.agg #[.int .i64 a0_0, .slice A0_1 l0_1.length c0_1]] rfl zq0 ?_; (with_reducible refine (impl_isLadder.calls a0_0 _ _ l0_1 true _ ?side1 ?side2 A7.out).mono ?_); (case side1 => exact zq7); (case side2 => exact zq97); rintro e w12 ⟨rfl, hb⟩; refine ⟨_, rfl, ?_⟩; replace BK381 := sK BK381 hb; replace BK382 := sK BK382 hb; replace HB := sB HB hb; (try clear hb); obtain ⟨hcz13_0, hcz13_1, hfz13_0, hfz13_1⟩ := sC BK381) | (go_at_call 71; (with_reducible refine (impl_between.calls a1 0 (l0_1.length : Int) t384 _ A9.out).mono ?_); rintro e w' ⟨rfl, ⟨nd, rfl⟩⟩))
   go_meet
   case rel => exact ⟨_, (!t384), zq10, H', ⟨zq41⟩, ⟨by (with_reducible repeat (first | refine blk_drewN ?_ _ | refine blk_drew ?_ | refine blk_alloc ?_ _)); exact BK381.out⟩, ⟨by (with_reducible repeat (first | refine blk_drewN ?_ _ | refine blk_drew ?_ | refine blk_alloc ?_ _)); exact BK382.out⟩, ⟨zq1⟩⟩
  ·replace c8 := Bool.eq_false_iff.mpr c8
   subst c8
   rw [if_neg (show ¬ (false = true) by decide)] at H
   have H' := am H
   clear H
   have hnb14 := NB381_382.out
   have hnc14 := NB382_381.out
   obtain ⟨hcz15_0, hcz15_1, hfz15_0, hfz15_1⟩ := sC BK381
   go_wp2_with (first | ((with_reducible refine gate_callee (f := 56) rfl ?_); refine goesL_ (some 9) rfl rfl Tryz.func56 zq15 rfl #[.agg #[.int .i64 a0_0, .slice A0_1 l0_1.length c0_1]] rfl zq0 ?_; (with_reducible refine (impl_isLadder.calls a0_0 _ _ l0_1 false _ ?side1 ?side2 A7.out).mono ?_); (case side1 => exact zq7); (case side2 => exact zq97); rintro e w16 ⟨rfl, hb⟩; refine ⟨_, rfl, ?_⟩; replace BK381 := sK BK381 hb; replace BK382 := sK BK382 hb; replace HB := sB HB hb; (try clear hb)))
   go_meet
   case rel => exact ⟨_, (true), zq10, H', ⟨zq41⟩, ⟨by (with_reducible repeat (first | refine blk_drewN ?_ _ | refine blk_drew ?_ | refine blk_alloc ?_ _)); exact BK381.out⟩, ⟨by (with_reducible repeat (first | refine blk_drewN ?_ _ | refine blk_drew ?_ | refine blk_alloc ?_ _)); exact BK382.out⟩, ⟨zq1⟩⟩
 case rest =>
  clear HC4
  obtain ⟨kq, x18_3, rfl, HA, HJ3, BK381, BK382, HB⟩ := hcut
  cases kq with
  | zero => exact absurd HA.out (by simp [impl_AddRung.j0])
  | succ kj3 =>
   have H := HA.out
   clear HA
   simp only [impl_AddRung.j0] at H
   by_cases c17 : x18_3 = true
   ·subst c17
    rw [if_pos rfl] at H
    simp only [Option.some.injEq, Prod.mk.injEq] at H
    obtain ⟨rfl, rfl, rfl⟩ := H
    have hnb18 := NB382_381.out
    have hnc18 := NB381_382.out
    obtain ⟨hcz19_0, hcz19_1, hfz19_0, hfz19_1⟩ := sC BK382
    go_wp2
    refine bodyPost_ret (results_ct rfl _ _ gb382 26 #[.int .i64 0, .slice none 0 0] (0, 0) _ rfl (by (with_reducible repeat (first | refine blk_drewN ?_ _ | refine blk_drew ?_ | refine blk_alloc ?_ _)); refine blk_put (cs := #[.int .i64 0, .slice none 0 0]) ?_ 1 _ rfl; (with_reducible repeat (first | refine blk_drewN ?_ _ | refine blk_drew ?_ | refine blk_alloc ?_ _)); refine blk_put (cs := #[.int .i64 0, .slice none 0 0]) ?_ 0 _ rfl; (with_reducible repeat (first | refine blk_drewN ?_ _ | refine blk_drew ?_ | refine blk_alloc ?_ _)); exact BK382.out) Tryz.underlying26 rfl zq15) rfl ?_
    exact ⟨_, zq6, zq11, zq1⟩
   ·replace c17 := Bool.eq_false_iff.mpr c17
    subst c17
    rw [if_neg (show ¬ (false = true) by decide)] at H
    obtain ⟨t385, A20, H⟩ := zS H
    (try dsimp only at H)
    obtain ⟨y388, Ny388⟩ : ∃ y_ : List Int, Aside0 (y_ = (([a2] : List Int))) := ⟨_, ⟨rfl⟩⟩
    rw [← Ny388.out] at H
    obtain ⟨t391, A21, H⟩ := zS H
    (try dsimp only at H)
    replace H := Option.bind_eq_some_iff.mp H
    obtain ⟨⟨t394, t395, t398⟩, A220, H⟩ := H
    (try dsimp only at H)
    have A22 := am A220
    clear A220
    simp only [Option.some.injEq, Prod.mk.injEq] at H
    obtain ⟨rfl, rfl, rfl⟩ := H
    try go_wp2
    replace BK381 := am (blk_drew BK381.out)
    replace BK382 := am (blk_drew BK382.out)
    replace HB := am (below_drew1 HB.out)
    refine start_ (n := 15) (S := fun w' => w'.cell? ⟨gb381, 0, none⟩ = some (.int .i64 a0_0) ∧ w'.cell? ⟨gb381, 1, none⟩ = some (.slice A0_1 l0_1.length c0_1)) (ds := []) #[false, false, false, false, false, false, false, false, false, false, false, false, false, false, false] zq15 rfl rfl ⟨(blk_cell BK381.out 0).trans rfl, (blk_cell BK381.out 1).trans rfl⟩ (fun hHeld => ?_); refine with_tabW impl_AddRung.tab3 impl_AddRung.bits3 (fun HT_ HW_ => ?_)
    generalize wc.drew = w23 at BK381 BK382 HB hHeld ⊢
    refine zU 0 20 HT_ ?_
    refine zU 2 22 HT_ ?_
    refine zU 5 25 HT_ ?_
    refine zU 6 26 HT_ ?_
    refine zT 1 21 HT_ HW_ hHeld ?_
    refine zT 3 23 HT_ HW_ hHeld ?_
    refine join_ (σ := Value × Value) 7 #[true, true, true, true, true, true, true, true, false, false, false, false, false, false, false] (fun s_ => [(24, s_.1), (27, s_.2)]) (fun s_ w' => (w'.cell? ⟨gb381, 0, none⟩ = some (.int .i64 a0_0) ∧ w'.cell? ⟨gb381, 1, none⟩ = some (.slice A0_1 l0_1.length c0_1)) ∧ (Kd.R (Kd.int .i64) 3 w' w.heap.size (fun k_ => some k_ ≠ (s_.2 : Value).ownBlock) s_.1 t385) ∧ (Kd.R (Kd.int .i64) 3 w' w.heap.size (fun k_ => some k_ ≠ (s_.1 : Value).ownBlock) s_.2 y388) ∧ (w'.heap[gb381]? = some (.cells #[.int .i64 a0_0, .slice A0_1 l0_1.length c0_1] 26 (0, 0))) ∧ (w'.heap[gb382]? = some (.cells #[.int .i64 0, .slice none 0 0] 26 (0, 0))) ∧ (Below w.heap.size w w')) ?_ ?_
    rotate_left
    ·intro hCont
     refine two_ (i := 4) (j := 7) (Ni := some 24) (Nj := some 27) #[true, true, true, true, true, true, true, false, false, false, false, false, false, false, false] #[true, true, true, true, false, true, true, true, false, false, false, false, false, false, false] rfl rfl rfl rfl (two_of HT_.out zq15) zq27 zq27 (fun K hK => ?_) (fun K hK => ?_)
     ·skip
      refine goes_ Tryz.func57 zq15 rfl #[.slice A0_1 l0_1.length c0_1] (by rfl) rfl rfl zq0 ?_
      with_reducible refine (slices_Clone_int_int.calls _ _ l0_1 t385 _ ?side1 ?side2 A20.out).mono ?_
      (case side1 => exact zq7)
      (case side2 => exact zq97)
      rintro e w24 ⟨v386, rfl, ho0, hb⟩
      refine ⟨_, rfl, ?_⟩
      have HO387 := am (Kd.R_lower ho0 (below_size (pBq HB)))
      replace BK381 := sK BK381 hb
      replace BK382 := sK BK382 hb
      replace HB := sB HB hb
      (try clear hb)
      (try clear hb2)
      (try clear hk)
      (try clear hi)
      (try clear ho0)
      refine hK.out _ _ ⟨(blk_cell BK381.out 0).trans rfl, (blk_cell BK381.out 1).trans rfl⟩ (fun hHeld => ?_)
      clear hK K
      refine zN 24 ?_
      refine zO 7 27 HT_ fun K hK => ?_
      refine Kd.R_lit_step (Kd.int .i64) _ 3 ?hg (N := 27) ?hd (xs := ([a2] : List Int)) (inner := [.int .i64 a2]) (ok := fun _ => True) (okp := fun _ => True) ?hr ?hp (fun _ hk => hk) trivial (Below.refl _ _) (Nat.le_refl _) zq42 ?_; (case hd => rfl); (case hg => rfl); (case hr => exact zq30); (case hp => exact zq68)
      intro v389 w25 ho26 hb hg_ hnew_
      clear hg_ hnew_
      (first | rw [← Ny388.out] at ho26 | (simp only [Int.reduceToNat] at ho26; rw [← Ny388.out] at ho26))
      have HO390 := am (Kd.R_lower (Kd.R_new' ho26 (Kd.R_lt (pRq HO387))) (below_size (pBq HB)))
      replace HO387 := am (Kd.R_elder' (pRq HO387) (Kd.R_base ho26) hb)
      replace BK381 := sK BK381 hb
      replace BK382 := sK BK382 hb
      replace HB := sB HB hb
      clear hb ho26
      refine hK.out _ _ ⟨(blk_cell BK381.out 0).trans rfl, (blk_cell BK381.out 1).trans rfl⟩ (fun hHeld => ?_)
      clear hK K
      refine zN 27 ?_
      exact norm_ zq60 (hCont (v386, v389) _ ⟨hHeld, zq113, zq112, (pKq BK381), (pKq BK382), (pBq HB)⟩)
     ·skip
      refine Kd.R_lit_step (Kd.int .i64) _ 3 ?hg (N := 27) ?hd (xs := ([a2] : List Int)) (inner := [.int .i64 a2]) (ok := fun _ => True) (okp := fun _ => True) ?hr ?hp (fun _ hk => hk) trivial (Below.refl _ _) (Nat.le_refl _) zq42 ?_; (case hd => rfl); (case hg => rfl); (case hr => exact zq30); (case hp => exact zq68)
      intro v389 w24 ho25 hb hg_ hnew_
      clear hg_ hnew_
      (first | rw [← Ny388.out] at ho25 | (simp only [Int.reduceToNat] at ho25; rw [← Ny388.out] at ho25))
      have HO390 := am (Kd.R_lower ho25 (below_size (pBq HB)))
      replace BK381 := sK BK381 hb
      replace BK382 := sK BK382 hb
      replace HB := sB HB hb
      clear hb ho25
      refine hK.out _ _ ⟨(blk_cell BK381.out 0).trans rfl, (blk_cell BK381.out 1).trans rfl⟩ (fun hHeld => ?_)
      clear hK K
      refine zN 27 ?_
      refine zO 4 24 HT_ fun K hK => ?_
      refine goes_ Tryz.func57 zq15 rfl #[.slice A0_1 l0_1.length c0_1] (by rfl) rfl rfl zq0 ?_
      with_reducible refine (slices_Clone_int_int.calls _ _ l0_1 t385 _ ?side1 ?side2 A20.out).mono ?_
      (case side1 => exact zq7)
      (case side2 => exact zq97)
      rintro e w26 ⟨v386, rfl, ho0, hb⟩
      refine ⟨_, rfl, ?_⟩
      have HO387 := am (Kd.R_lower (Kd.R_new' ho0 (Kd.R_lt (pRq HO390))) (below_size (pBq HB)))
      replace HO390 := am (Kd.R_elder' (pRq HO390) (Kd.R_base ho0) hb)
      replace BK381 := sK BK381 hb
      replace BK382 := sK BK382 hb
      replace HB := sB HB hb
      (try clear hb)
      (try clear hb2)
      (try clear hk)
      (try clear hi)
      (try clear ho0)
      refine hK.out _ _ ⟨(blk_cell BK381.out 0).trans rfl, (blk_cell BK381.out 1).trans rfl⟩ (fun hHeld => ?_)
      clear hK K
      refine zN 24 ?_
      exact norm_ zq60 (hCont (v386, v389) _ ⟨hHeld, zq113, zq112, (pKq BK381), (pKq BK382), (pBq HB)⟩)
    rintro ⟨v386, v389⟩ w27 ⟨hS_, h0_, h1_, h2_, h3_, h4_⟩
    (try dsimp only at hS_ h0_ h1_ h2_ h3_ h4_)
    have HO387 := am h0_
    have HO390 := am h1_
    replace BK381 := am h2_
    replace BK382 := am h3_
    replace HB := am h4_
    clear h0_ h1_ h2_ h3_ h4_
    have hHeld := hS_
    obtain ⟨Ao28, co28, eo28⟩ := Kd.R_slice HO387.out
    (first | subst eo28 | (injection eo28 with f1_ f2_ f3_; have f4_ := f1_.symm; have f5_ := f3_.symm; clear f1_ f2_ f3_; subst f4_; subst f5_))
    obtain ⟨Ao29, co29, eo29⟩ := Kd.R_slice HO390.out
    (first | subst eo29 | (injection eo29 with f1_ f2_ f3_; have f4_ := f1_.symm; have f5_ := f3_.symm; clear f1_ f2_ f3_; subst f4_; subst f5_))
    refine norm_ (a' := ?_) ?_ ?_
    rotate_left
    ·simp only [putAll, Act.put, setIfInBounds_toArray, set_cons_zero, set_cons_succ]
     rfl
    refine zO 8 28 HT_ fun K hK => ?_
    refine goes_ Tryz.func72 zq15 rfl #[.slice Ao28 t385.length co28, .int .i64 a1, .slice Ao29 y388.length co29] (by rfl) rfl rfl zq0 ?_
    with_reducible refine (slices_Insert_int_int.calls (fun k_ => some k_ = (.slice Ao28 t385.length co28 : Value).ownBlock) (.slice Ao28 t385.length co28) t385 a1 (fun k_ => some k_ = (.slice Ao29 y388.length co29 : Value).ownBlock) (.slice Ao29 y388.length co29) y388 t391 w _ ?side1 ?side2 ?side3 ?side4 ?side5 A21.out).mono ?_
    (case side1 => exact zq1)
    (case side2 => exact Kd.R_tight rfl HO387.out)
    (case side3 => exact fun k_ e_ => (HO387.out.1 k_ e_.symm))
    (case side4 => exact Kd.R_tight rfl HO390.out)
    (case side5 => exact fun k_ e_ => (HO390.out.1 k_ e_.symm))
    rintro e w30 ⟨v392, rfl, ho0, hb, hkp⟩
    refine ⟨_, rfl, ?_⟩
    have HO393 := am (Kd.R_mono (ok' := fun k_ => True) ho0 (fun k_ hk_ => trivial))
    replace BK381 := am (blk_kept (pKq BK381) hkp (fun hs_ => Or.elim hs_ (fun e_ => (fun e_ => (Kd.R_ne HO387.out BK381.out zq27) e_) e_) (fun e_ => (fun e_ => (Kd.R_ne HO390.out BK381.out zq27) e_) e_)))
    replace BK382 := am (blk_kept (pKq BK382) hkp (fun hs_ => Or.elim hs_ (fun e_ => (fun e_ => (Kd.R_ne HO387.out BK382.out zq27) e_) e_) (fun e_ => (fun e_ => (Kd.R_ne HO390.out BK382.out zq27) e_) e_)))
    replace HB := am (hb)
    clear HO387 HO390
    (try clear hb)
    (try clear hkp)
    (try clear ho0)
    obtain ⟨Ao31, co31, eo31⟩ := Kd.R_slice HO393.out
    (first | subst eo31 | (injection eo31 with f1_ f2_ f3_; have f4_ := f1_.symm; have f5_ := f3_.symm; clear f1_ f2_ f3_; subst f4_; subst f5_))
    refine hK.out _ _ ⟨(blk_cell BK381.out 0).trans rfl, (blk_cell BK381.out 1).trans rfl⟩ (fun hHeld => ?_)
    clear hK K
    refine zN 28 ?_
    refine zU 9 29 HT_ ?_
    refine zO 10 30 HT_ fun K hK => ?_
    refine goes_ Tryz.func68 zq15 rfl #[.agg #[.int .i64 a0_0, .slice Ao31 t391.length co31]] (by rfl) rfl rfl zq0 ?_
    with_reducible refine (impl_checked.calls a0_0 (fun k_ => some k_ = (.slice Ao31 t391.length co31 : Value).ownBlock) (.slice Ao31 t391.length co31) t391 t394 t395 t398 w _ ?side1 ?side2 A22.out).mono ?_
    (case side1 => exact zq1)
    (case side2 => exact Kd.R_tight rfl HO393.out)
    rintro e w32 ⟨v396, rfl, ho0, hb, hkp⟩
    refine ⟨_, rfl, ?_⟩
    have HO397 := am (Kd.R_mono (ok' := fun k_ => True) ho0 (fun k_ hk_ => trivial))
    replace BK381 := am (blk_kept (pKq BK381) hkp (fun hs_ => (fun e_ => (Kd.R_ne HO393.out BK381.out zq27) e_) hs_))
    replace BK382 := am (blk_kept (pKq BK382) hkp (fun hs_ => (fun e_ => (Kd.R_ne HO393.out BK382.out zq27) e_) hs_))
    replace HB := am (hb)
    clear HO393
    (try clear hb)
    (try clear hkp)
    (try clear ho0)
    obtain ⟨Ao34, co34, eo34⟩ := Kd.R_slice HO397.out
    (first | subst eo34 | (injection eo34 with f1_ f2_ f3_; have f4_ := f1_.symm; have f5_ := f3_.symm; clear f1_ f2_ f3_; subst f4_; subst f5_))
    refine hK.out _ _ ⟨(blk_cell BK381.out 0).trans rfl, (blk_cell BK381.out 1).trans rfl⟩ (fun hHeld => ?_)
    clear hK K
    refine zN 30 ?_
    refine zU 11 31 HT_ ?_
    refine zU 12 32 HT_ ?_
    refine one_ (i := 13) (N := none) #[true, true, true, true, true, true, true, true, true, true, true, true, true, true, false] rfl rfl (one_of HT_.out zq15) zq27 (fun K hK => ?_)
    have hs33 : w32.cell? ⟨gb382, 0, none⟩ = some (.int .i64 0) := (blk_cell BK382.out 0).trans rfl
    have hfs33 := blk_frozen BK382.out 0
    have hns33_0 := NB381_382.out
    have hms33_0 := NB382_381.out
    have hs35 : w32.cell? ⟨gb382, 1, none⟩ = some (.slice none 0 0) := (blk_cell BK382.out 1).trans rfl
    have hfs35 := blk_frozen BK382.out 1
    have hns35_0 := NB381_382.out
    have hms35_0 := NB382_381.out
    refine skip_ (w1 := ?_) (by rfl) rfl ?_ ?_
    rotate_left
    ·go_simp
     rfl
    refine hK.out _ _ ⟨((cell_far (p := ⟨gb382, _, none⟩) NB381_382.out _).trans (((cell_far (p := ⟨gb382, _, none⟩) NB381_382.out _).trans (hHeld.1)))), ((cell_far (p := ⟨gb382, _, none⟩) NB381_382.out _).trans (((cell_far (p := ⟨gb382, _, none⟩) NB381_382.out _).trans (hHeld.2))))⟩ (fun hHeld => ?_)
    clear hK K
    refine zU 14 7 HT_ ?_
    refine done_ (done_of HT_.out zq15) ?_
    try go_wp2
    refine bodyPost_ret (results_ct rfl _ _ gb382 26 #[.int .i64 t394, .slice Ao34 t395.length co34] (0, 0) _ rfl (by (with_reducible repeat (first | refine blk_drewN ?_ _ | refine blk_drew ?_ | refine blk_alloc ?_ _)); refine blk_put (cs := #[.int .i64 t394, .slice none 0 0]) ?_ 1 _ rfl; (with_reducible repeat (first | refine blk_drewN ?_ _ | refine blk_drew ?_ | refine blk_alloc ?_ _)); refine blk_put (cs := #[.int .i64 0, .slice none 0 0]) ?_ 0 _ rfl; (with_reducible repeat (first | refine blk_drewN ?_ _ | refine blk_drew ?_ | refine blk_alloc ?_ _)); exact BK382.out) Tryz.underlying26 rfl zq15) rfl ?_
    exact ⟨_, zq6, by (with_reducible repeat (first | apply Kd.R_alloc | apply Kd.R_drewN | apply Kd.R_drew)); exact Kd.R_mono (Kd.R_far (p := ⟨gb382, 1, none⟩) (Kd.R_far (p := ⟨gb382, 0, none⟩) (Kd.R_types HO397.out BK382.out zq27) (fun _ hk => hk.2) (.int .i64 t394)) (fun _ hk => hk.2) (.slice Ao34 t395.length co34)) (fun _ hk => trivial), zq1⟩
/-! ### spec_l1Own: function 74 -/
def spec_l1Own.f (l0 : List Int) : Option (List Int) := (some (([] : List Int) : List Int)).bind fun y399 => (if y399.length + l0.length < 17592186044416 then (some (y399 ++ l0)) else (none))
theorem spec_l1Own.calls (A0 : Option Addr) (c0 : Nat) (l0 : List Int) (r : List Int) (w : World) (hr0 : Kd.C (Kd.int .i64) w A0 l0.length l0) (hc0 : l0.length ≤ c0) (h : spec_l1Own.f l0 = some r) :
  Calls Tryz.prog 74 #[.slice A0 l0.length c0] w fun e w' => ∃ v0_ : Value, e = .returned (v0_) ∧ Kd.R (Kd.int .i64) 3 w' w.heap.size (fun _ => True) v0_ r ∧ Below w.heap.size w w' := by
 have HR0 := am hr0
 have HC0 := am hc0
 clear hr0 hc0
 have HB := am (Below.refl w.heap.size w)
 unfold spec_l1Own.f at h
 have H := h
 clear h
 obtain ⟨y399, Ny399, H⟩ := zY H
 by_cases c2 : y399.length + l0.length < 17592186044416
 ·rw [if_pos c2] at H
  have LMc2 := am c2
  clear c2
  obtain ⟨y402, Ny402⟩ : ∃ y_ : List Int, Aside0 (y_ = (y399 ++ l0)) := ⟨_, ⟨rfl⟩⟩
  rw [← Ny402.out] at H
  obtain rfl := Option.some.inj H
  go_enter Tryz.func74, Tryz.ntmps74
  go_wp2_with (first | ((with_reducible refine gate_dst (N := 3) rfl ?_); refine Kd.R_lit (Kd.int .i64) _ 3 ?hg (N := 3) ?hd (xs := ([] : List Int)) (inner := []) (ok := fun _ => True) (okp := fun _ => True) ?hr ?hp (fun _ hk => hk) trivial (Below.refl _ _) (Nat.le_refl _) zq42 ?_; (case hd => rfl); (case hg => rfl); (case hr => exact zq30); (case hp => exact (Reps.none _ _)); intro v400 w3 ho4 hb hg_ hnew_; clear hg_ hnew_; (first | rw [← Ny399.out] at ho4 | (simp only [Int.reduceToNat] at ho4; rw [← Ny399.out] at ho4)); have HO401 := am (Kd.R_lower ho4 (below_size (pBq HB))); replace HB := sB HB hb; clear hb ho4) | ((with_reducible refine gate_builtin (b := .append) (xs := #[.tmp 3, .tmp 4]) rfl ?_); at_builtin; refine Kd.R_append_rows (Kd.int .i64) (w0 := w) w.heap.size rfl (.tmp 3) (.tmp 4) 24 3 (.int .i64 0) 8 rfl Tryz.underlying24 info3 rfl zq27 zq32 v400 y399 l0 _ _ _ (fun _ => True) (fun _ => False) rfl rfl ?aO ?aR (fun _ _ h => h) (fun _ h => h.elim) ?aF ?aB ?aS ?aL ?_; (case aR => exact zq80); (case aB => exact (pBq HB)); (case aF => exact zq99); (case aO => exact (pRq HO401)); (case aS => exact (below_size (pBq HB))); (case aL => have := LMc2.out; omega); intro v403 w5 ho hb hg hat; rw [← Ny402.out] at ho; have HO404 := am (ho); replace HB := am (hb); clear HO401; clear ho hb hg hat))
  go_ret
  exact ⟨_, zq6, by (with_reducible repeat (first | apply Kd.R_alloc | apply Kd.R_drewN | apply Kd.R_drew)); exact HO404.out, zq13⟩
 ·rw [if_neg c2] at H
  exact absurd H zq42
/-! ### spec_laIf: function 75 -/
def spec_laIf.f (k : Nat) (a0_0 : Int) (l0_1 : List Int) : Option (Int × List Int × Bool) := (spec_laGood.f k a0_0 l0_1).bind fun t407 => (if t407 = true then (some (a0_0, l0_1, true)) else (some (0, ([] : List Int), false)))
theorem spec_laIf.mono : ∀ a0 a1 k, LeO (spec_laIf.f k a0 a1) (spec_laIf.f (k + 1) a0 a1) := by
 intro a0 a1 k
 unfold spec_laIf.f
 repeat' first | (with_reducible first | exact spec_laGood.mono _ _ _ | exact LeO.refl _ | exact LeO.none _ | refine LeO.ite ?_ ?_ | refine LeO.bind ?_ (fun _ => ?_))
theorem spec_laIf.calls (k : Nat) (a0_0 : Int) (P0_1_ : Nat → Prop) (u9000_ : Value) (l0_1 : List Int) (r1 : Int) (r2 : List Int) (r3 : Bool) (w0 w : World) (hB : Below w0.heap.size w0 w) (ho0_1 : Kd.R (Kd.int .i64) 3 w w0.heap.size P0_1_ u9000_ l0_1) (h : spec_laIf.f k a0_0 l0_1 = some (r1, r2, r3)) :
  Calls Tryz.prog 75 #[.agg #[.int .i64 a0_0, u9000_]] w fun e w' => ∃ v1_ : Value, e = .returned (.tuple #[.agg #[.int .i64 r1, v1_], .bool r3]) ∧ Kd.R (Kd.int .i64) 3 w' w0.heap.size (fun k_ => (P0_1_ k_ ∨ w.heap.size ≤ k_)) v1_ r2 ∧ Below w0.heap.size w0 w' ∧ Kept w w' (fun k_ => P0_1_ k_) := by
 have hu26 := Tryz.underlying26
 have HO0_1 := am (show Kd.R (Kd.int .i64) 3 w w0.heap.size (fun k_ => (P0_1_ k_ ∨ w.heap.size ≤ k_)) u9000_ l0_1 from Kd.R_mono ho0_1 (fun k_ hk => (.inl hk)))
 have HK := am (Kept.refl w (fun k_ => P0_1_ k_))
 have HW0 := am hB.size
 have HB := am hB
 clear hB
 unfold spec_laIf.f at h
 have H := h
 clear h
 obtain ⟨t407, A2, H⟩ := zS H
 (try dsimp only at H)
 by_cases c3 : t407 = true
 ·subst c3
  rw [if_pos rfl] at H
  simp only [Option.some.injEq, Prod.mk.injEq] at H
  obtain ⟨rfl, rfl, rfl⟩ := H
  obtain ⟨Ao4, co4, eo4⟩ := Kd.R_slice HO0_1.out
  subst eo4
  go_enter Tryz.func75, Tryz.ntmps75
  go_wp2_with (first | ((with_reducible refine gate_dst (N := 1) rfl ?_); refine zE 1 (cs := #[.int .i64 a0_0, .slice Ao4 l0_1.length co4]) 26 ?_; intro gb405 hg w5 hbox hb; have BK405 := am (hbox); have GW405 := am ((zq83 : w.heap.size ≤ gb405)); have GE405 := am ((zq85 : w0.heap.size ≤ gb405)); replace HO0_1 := sR HO0_1 hb; replace HK := am (Kept.below (S := (fun k_ => P0_1_ k_)) zq29 hb); replace HB := sB HB hb; clear hb hbox hg) | ((with_reducible refine gate_dst (N := 2) rfl ?_); refine zE 2 (cs := #[.int .i64 0, .slice none 0 0]) 26 ?_; intro gb406 hg w6 hbox hb; have BK406 := am (hbox); have GW406 := am ((by rw [hg]; exact (by first | exact HK.out.1 | exact (show Kept w _ (fun k_ => P0_1_ k_) from zq57).1) : w.heap.size ≤ gb406)); have GE406 := am ((zq85 : w0.heap.size ≤ gb406)); have NB405_406 := am ((by rw [hg]; exact Nat.ne_of_lt (blk_lt (pKq BK405)) : gb405 ≠ gb406)); have NB406_405 := am ((by rw [hg]; exact Nat.ne_of_gt (blk_lt (pKq BK405)) : gb406 ≠ gb405)); replace HO0_1 := sR HO0_1 hb; replace BK405 := sK BK405 hb; replace HK := am (Kept.below (S := (fun k_ => P0_1_ k_)) zq57 hb); replace HB := sB HB hb; clear hb hbox hg; have hnb7 := NB405_406.out; have hnc7 := NB406_405.out; obtain ⟨hcz8_0, hcz8_1, hfz8_0, hfz8_1⟩ := sC BK405) | ((with_reducible refine gate_callee (f := 59) rfl ?_); refine goesL_ (some 5) rfl rfl Tryz.func59 zq15 rfl #[.agg #[.int .i64 a0_0, .slice Ao4 l0_1.length co4]] rfl zq0 ?_; (with_reducible refine (spec_laGood.calls k a0_0 _ _ l0_1 true _ ?side1 ?side2 A2.out).mono ?_); (case side1 => exact zq61); (case side2 => exact (Kd.R_reads' HO0_1.out).2.1); rintro e w9 ⟨rfl, hb⟩; refine ⟨_, rfl, ?_⟩; replace HO0_1 := sR HO0_1 hb; replace BK405 := sK BK405 hb; replace BK406 := sK BK406 hb; replace HK := am (Kept.below (S := (fun k_ => P0_1_ k_)) zq47 hb); replace HB := sB HB hb; (try clear hb); obtain ⟨hcz10_0, hcz10_1, hfz10_0, hfz10_1⟩ := sC BK405; obtain ⟨hcz11_0, hcz11_1, hfz11_0, hfz11_1⟩ := sC BK406))
  refine bodyPost_ret (results_ct rfl _ _ gb406 26 #[.int .i64 a0_0, .slice Ao4 l0_1.length co4] (0, 0) _ rfl (by (with_reducible repeat (first | refine blk_drewN ?_ _ | refine blk_drew ?_ | refine blk_alloc ?_ _)); refine blk_put (cs := #[.int .i64 a0_0, .slice none 0 0]) ?_ 1 _ rfl; (with_reducible repeat (first | refine blk_drewN ?_ _ | refine blk_drew ?_ | refine blk_alloc ?_ _)); refine blk_put (cs := #[.int .i64 0, .slice none 0 0]) ?_ 0 _ rfl; (with_reducible repeat (first | refine blk_drewN ?_ _ | refine blk_drew ?_ | refine blk_alloc ?_ _)); exact BK406.out) Tryz.underlying26 rfl zq15) rfl ?_
  exact ⟨_, zq6, by (with_reducible repeat (first | apply Kd.R_alloc | apply Kd.R_drewN | apply Kd.R_drew)); exact Kd.R_mono (Kd.R_far (p := ⟨gb406, 1, none⟩) (Kd.R_far (p := ⟨gb406, 0, none⟩) (Kd.R_types HO0_1.out BK406.out zq27) (fun _ hk => hk.2) (.int .i64 a0_0)) (fun _ hk => hk.2) (.slice Ao4 l0_1.length co4)) (fun _ hk => hk.1), zq1, zq47⟩
 ·replace c3 := Bool.eq_false_iff.mpr c3
  subst c3
  rw [if_neg (show ¬ (false = true) by decide)] at H
  simp only [Option.some.injEq, Prod.mk.injEq] at H
  obtain ⟨rfl, rfl, rfl⟩ := H
  obtain ⟨Ao12, co12, eo12⟩ := Kd.R_slice HO0_1.out
  subst eo12
  go_enter Tryz.func75, Tryz.ntmps75
  go_wp2_with (first | ((with_reducible refine gate_dst (N := 1) rfl ?_); refine zE 1 (cs := #[.int .i64 a0_0, .slice Ao12 l0_1.length co12]) 26 ?_; intro gb405 hg w13 hbox hb; have BK405 := am (hbox); have GW405 := am ((zq83 : w.heap.size ≤ gb405)); have GE405 := am ((zq85 : w0.heap.size ≤ gb405)); replace HO0_1 := sR HO0_1 hb; replace HK := am (Kept.below (S := (fun k_ => P0_1_ k_)) zq29 hb); replace HB := sB HB hb; clear hb hbox hg) | ((with_reducible refine gate_dst (N := 2) rfl ?_); refine zE 2 (cs := #[.int .i64 0, .slice none 0 0]) 26 ?_; intro gb406 hg w14 hbox hb; have BK406 := am (hbox); have GW406 := am ((by rw [hg]; exact (by first | exact HK.out.1 | exact (show Kept w _ (fun k_ => P0_1_ k_) from zq57).1) : w.heap.size ≤ gb406)); have GE406 := am ((zq85 : w0.heap.size ≤ gb406)); have NB405_406 := am ((by rw [hg]; exact Nat.ne_of_lt (blk_lt (pKq BK405)) : gb405 ≠ gb406)); have NB406_405 := am ((by rw [hg]; exact Nat.ne_of_gt (blk_lt (pKq BK405)) : gb406 ≠ gb405)); replace HO0_1 := sR HO0_1 hb; replace BK405 := sK BK405 hb; replace HK := am (Kept.below (S := (fun k_ => P0_1_ k_)) zq57 hb); replace HB := sB HB hb; clear hb hbox hg; have hnb15 := NB405_406.out; have hnc15 := NB406_405.out; obtain ⟨hcz16_0, hcz16_1, hfz16_0, hfz16_1⟩ := sC BK405) | ((with_reducible refine gate_callee (f := 59) rfl ?_); refine goesL_ (some 5) rfl rfl Tryz.func59 zq15 rfl #[.agg #[.int .i64 a0_0, .slice Ao12 l0_1.length co12]] rfl zq0 ?_; (with_reducible refine (spec_laGood.calls k a0_0 _ _ l0_1 false _ ?side1 ?side2 A2.out).mono ?_); (case side1 => exact zq61); (case side2 => exact (Kd.R_reads' HO0_1.out).2.1); rintro e w17 ⟨rfl, hb⟩; refine ⟨_, rfl, ?_⟩; replace HO0_1 := sR HO0_1 hb; replace BK405 := sK BK405 hb; replace BK406 := sK BK406 hb; replace HK := am (Kept.below (S := (fun k_ => P0_1_ k_)) zq47 hb); replace HB := sB HB hb; (try clear hb); obtain ⟨hcz18_0, hcz18_1, hfz18_0, hfz18_1⟩ := sC BK406))
  refine bodyPost_ret (results_ct rfl _ _ gb406 26 #[.int .i64 0, .slice none 0 0] (0, 0) _ rfl (by (with_reducible repeat (first | refine blk_drewN ?_ _ | refine blk_drew ?_ | refine blk_alloc ?_ _)); refine blk_put (cs := #[.int .i64 0, .slice none 0 0]) ?_ 1 _ rfl; (with_reducible repeat (first | refine blk_drewN ?_ _ | refine blk_drew ?_ | refine blk_alloc ?_ _)); refine blk_put (cs := #[.int .i64 0, .slice none 0 0]) ?_ 0 _ rfl; (with_reducible repeat (first | refine blk_drewN ?_ _ | refine blk_drew ?_ | refine blk_alloc ?_ _)); exact BK406.out) Tryz.underlying26 rfl zq15) rfl ?_
  exact ⟨_, zq6, zq11, zq1, zq47⟩
end
end Go.Proofs.YtlmiiijjjcddkaaGreatDoor.PLg
