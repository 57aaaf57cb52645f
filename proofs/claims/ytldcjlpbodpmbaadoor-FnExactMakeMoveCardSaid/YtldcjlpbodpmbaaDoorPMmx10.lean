-- Written for this claim by a program of this session (myprint.py) over the kit's printer.
import Derived.Test.YtldcjlpbodpmbaaDoorPMmx0
namespace Go.Proofs.YtldcjlpbodpmbaaDoor.PMm
noncomputable section
open Go.RowKit Go.Proofs.YtldcjlpbodpmbaaDoorW.PrintWords Go.Proofs.YtldcjlpbodpmbaaDoorW.PrintLast Go.Proofs.YtldcjlpbodpmbaaDoorW.PrintMore
attribute [local go_sem] max2_int min2_int max_two min_two max_three min_three max_four min_four   -- for this text's walks alone
set_option linter.unusedVariables false
set_option linter.unusedSimpArgs false
/-! ### slices_Replace_int_int: function 77 -/
def slices_Replace_int_int.f (l0 : List Int) (a1 : Int) (a2 : Int) (l3 : List Int) : Option (List Int) := if 0 ≤ a1 then (if a2 = a1 + (l3.length : Int) then (if a2 ≤ (l0.length : Int) then (if 0 < l3.length then (if l0.length ≤ 1048576 then (some (l0.take a1.toNat ++ l3 ++ l0.drop a2.toNat)) else (none)) else (none)) else (none)) else (none)) else (none)
theorem slices_Replace_int_int.encs_map (l : List Int) : encs (Value.int .i64) l = l.map (Value.int .i64) := by simp [encs]
theorem slices_Replace_int_int.put (g : Nat) (cur : Array Value) (e : TypeId) (W : World) (i m k : Nat) (vs zs : List Value) (hvs : vs.length = m) (hzs : zs.length = k) (hh : W.heap[g]? = some (.cells cur e (0, 0))) (hsz : i + m + k ≤ cur.size) :
  (∃ c, ((W.setCells g i vs).setCells g (i + m) zs).heap[g]? = some (.cells c e (0, 0)) ∧ c.size = cur.size ∧ c.toList.take (i + m + k) = cur.toList.take i ++ vs ++ zs) ∧ (∃ c, ((W.setCells g (i + m) zs).setCells g i vs).heap[g]? = some (.cells c e (0, 0)) ∧ c.size = cur.size ∧ c.toList.take (i + m + k) = cur.toList.take i ++ vs ++ zs) := by
 have hl : cur.toList.length = cur.size := Array.length_toList
 constructor
 ·obtain ⟨c1, h1, h2, h3⟩ := setCells_row vs i W cur hh (by omega)
  obtain ⟨c2, h4, h5, h6⟩ := setCells_row zs (i + m) _ c1 h1 (by omega)
  refine ⟨c2, h4, by omega, ?_⟩
  have e1 : c1.toList.take (i + m) = cur.toList.take i ++ vs := by
   rw [h3]; exact List.take_left' (by rw [List.length_append, List.length_take]; omega)
  rw [h6, e1]
  exact List.take_left' (by rw [List.length_append, List.length_append, List.length_take]; omega)
 ·obtain ⟨c1, h1, h2, h3⟩ := setCells_row zs (i + m) W cur hh (by omega)
  obtain ⟨c2, h4, h5, h6⟩ := setCells_row vs i _ c1 h1 (by omega)
  refine ⟨c2, h4, by omega, ?_⟩
  have e1 : c1.toList.take i = cur.toList.take i := by
   rw [h3, List.append_assoc, List.take_append_of_le_length (by rw [List.length_take]; omega), List.take_take, Nat.min_eq_left (by omega)]
  have e2 : c1.toList.drop (i + vs.length) = zs ++ cur.toList.drop (i + m + zs.length) := by
   rw [h3, List.append_assoc]
   exact List.drop_left' (by rw [List.length_take]; omega)
  rw [h6, e1, e2, ← List.append_assoc]
  exact List.take_left' (by rw [List.length_append, List.length_append, List.length_take]; omega)
theorem slices_Replace_int_int.fin (g : Nat) (c : Array Value) (W : World) (base n' cap : Nat) (P' : Nat → Prop) (r : List Int) (hh : W.heap[g]? = some (.cells c 3 (0, 0))) (hc : c.size = cap) (hr : r.length = n') (hn : n' ≤ cap) (hcm : cap ≤ maxLen) (hb : base ≤ g) (hP : P' g) (ht : c.toList.take n' = r.map (Value.int .i64)) : Kd.R (Kd.int .i64) 3 W base P' (.slice (some ⟨g, 0, none⟩) n' cap) r := by
 subst hr
 refine Kd.R_of_own (enc := Value.int .i64) (h1 := fun _ => rfl) ?_ (fun k hk => ?_)
 ·refine ⟨by rw [encs_length, Nat.mul_one], .inr ⟨g, cap, c, rfl, hb, hh, hn, hcm, by omega, ?_⟩⟩
  rw [Nat.mul_one, ht, slices_Replace_int_int.encs_map]
 ·simp only [Value.ownBlock] at hk
  obtain rfl : g = k := by simpa using hk
  exact hP
theorem slices_Replace_int_int.world (g : Nat) (w0 w W : World) (base o1 o2 : Nat) (vs zs : List Value) (S : Nat → Prop) (hS : S g ∨ w.heap.size ≤ g) (hb : base ≤ g) (hB : Below base w0 W) (hK : Kept w W S) :
  Below base w0 ((W.setCells g o1 vs).setCells g o2 zs) ∧ Kept w ((W.setCells g o1 vs).setCells g o2 zs) S := by
 obtain ⟨s1, s2, s3, s4⟩ := setCells_same g vs o1 W
 obtain ⟨t1, t2, t3, t4⟩ := setCells_same g zs o2 (W.setCells g o1 vs)
 have hfar : ∀ k, k ≠ g → ((W.setCells g o1 vs).setCells g o2 zs).heap[k]? = W.heap[k]? := fun k hk => (setCells_far zs _ k hk).trans (setCells_far vs _ k hk)
 refine ⟨⟨by rw [t1, s1]; exact hB.os, by rw [t2, s2]; exact hB.tape, by rw [t3, s3]; exact hB.output, by rw [t4, s4]; exact hB.size, fun k hk => (hfar k (by omega)).trans (hB.block k hk)⟩, ⟨by rw [t4, s4]; exact hK.1, fun k hk hn => (hfar k (fun e => ?_)).trans (hK.2 k hk hn)⟩⟩
 subst e
 rcases hS with h | h
 ·exact hn h
 ·omega
theorem slices_Replace_int_int.cells {g n : Nat} {cur : Array Value} {W : World} {l : List Int} (hh : W.heap[g]? = some (.cells cur 3 (0, 0))) (hl : l.length = n) (ht : cur.toList.take n = l.map (Value.int .i64)) : ∀ j v, (l.map (Value.int .i64))[j]? = some v → W.cell? ⟨g, 0 + j, none⟩ = some v := by
 intro j v hv
 have hj : j < n := by
  have := (List.getElem?_eq_some_iff.1 hv).1
  rwa [List.length_map, hl] at this
 rw [Nat.zero_add, cell_of_row W g j cur 3 (0, 0) hh, ← hv, ← ht, List.getElem?_take, if_pos hj, Array.getElem?_toList]
theorem slices_Replace_int_int.some_cell {g j : Nat} {cur : Array Value} {W : World} (hh : W.heap[g]? = some (.cells cur 3 (0, 0))) (hj : j < cur.size) : (W.cell? ⟨g, j, none⟩).isSome = true := by
 rw [cell_of_row W g j cur 3 (0, 0) hh, Array.getElem?_eq_getElem hj]; rfl
theorem slices_Replace_int_int.one (l : List Int) : ∀ v ∈ l.map (Value.int .i64), v.oneCell' = true := by
 intro v hv
 obtain ⟨x, _, rfl⟩ := List.mem_map.1 hv
 rfl
theorem slices_Replace_int_int.own {w : World} {base : Nat} {P' : Nat → Prop} {v : Value} {l : List Int} (h : Kd.R (Kd.int .i64) 3 w base P' v l) : (v = .slice none 0 0 ∧ l = []) ∨ ∃ g cap cur, v = .slice (some ⟨g, 0, none⟩) l.length cap ∧ base ≤ g ∧ P' g ∧ w.heap[g]? = some (.cells cur 3 (0, 0)) ∧ l.length ≤ cap ∧ cap ≤ maxLen ∧ cur.size = cap ∧ cur.toList.take l.length = l.map (Value.int .i64) := by
 rcases (Kd.own_of_R (enc := Value.int .i64) (h1 := fun _ => rfl) h).2 with ⟨hv, hn⟩ | ⟨g, cap, cur, hv, hb, hh, hnc, hcm, hcs, ht⟩
 ·exact .inl ⟨by rw [hv], List.eq_nil_of_length_eq_zero hn⟩
 ·refine .inr ⟨g, cap, cur, hv, hb, h.1 g (by rw [hv]; simp [Value.ownBlock]), hh, hnc, hcm, by omega, ?_⟩
  rw [Nat.mul_one, slices_Replace_int_int.encs_map] at ht
  exact ht
set_option maxHeartbeats 4000000 in
set_option maxRecDepth 100000 in
theorem slices_Replace_int_int.calls (P0_ : Nat → Prop) (u9000_ : Value) (l0 : List Int) (a1 : Int) (a2 : Int) (P3_ : Nat → Prop) (u9001_ : Value) (l3 : List Int) (r : List Int) (w0 w : World) (hB : Below w0.heap.size w0 w) (ho0 : Kd.R (Kd.int .i64) 3 w w0.heap.size P0_ u9000_ l0) (hp0_3 : ∀ k_, P0_ k_ → ¬ P3_ k_) (ho3 : Kd.R (Kd.int .i64) 3 w w0.heap.size P3_ u9001_ l3) (hp3_0 : ∀ k_, P3_ k_ → ¬ P0_ k_) (h : slices_Replace_int_int.f l0 a1 a2 l3 = some r) :
  Calls Tryd.prog 77 #[u9000_, .int .i64 a1, .int .i64 a2, u9001_] w fun e w' => ∃ v0_ : Value, e = .returned (v0_) ∧ Kd.R (Kd.int .i64) 3 w' w0.heap.size (fun k_ => ((P0_ k_ ∨ P3_ k_) ∨ w.heap.size ≤ k_)) v0_ r ∧ Below w0.heap.size w0 w' ∧ Kept w w' (fun k_ => P0_ k_ ∨ P3_ k_) := by
 unfold slices_Replace_int_int.f at h
 by_cases h1 : 0 ≤ a1
 ·rw [if_pos h1] at h
  by_cases h2 : a2 = a1 + (l3.length : Int)
  ·rw [if_pos h2] at h
   by_cases h3 : a2 ≤ (l0.length : Int)
   ·rw [if_pos h3] at h
    by_cases h4 : 0 < l3.length
    ·rw [if_pos h4] at h
     by_cases h5 : l0.length ≤ 1048576
     ·rw [if_pos h5] at h
      obtain rfl := Option.some.inj h
      clear h
      obtain ⟨i, rfl⟩ := Int.eq_ofNat_of_zero_le h1
      obtain ⟨j, rfl⟩ := Int.eq_ofNat_of_zero_le (show 0 ≤ a2 by omega)
      simp only [Int.toNat_natCast]
      have hj : j = i + l3.length := by omega
      have hjn : j ≤ l0.length := by omega
      have hij : i < j := by omega
      rcases slices_Replace_int_int.own ho3 with ⟨_, e⟩ | ⟨vb, vc, vcur, rfl, hvb, hvP, hvh, hvn, hvm, hvs, hvt⟩
      ·subst e; simp at h4
      rcases slices_Replace_int_int.own ho0 with ⟨_, e⟩ | ⟨g, cap, cur, rfl, hb, hP, hh, hnc, hcm, hcs, ht⟩
      ·subst e; simp at hjn; omega
      have hvcell := slices_Replace_int_int.cells hvh rfl hvt
      have hone := slices_Replace_int_int.one l3
      have hcell := slices_Replace_int_int.cells hh rfl ht
      have hvg : vb ≠ g := fun e => hp0_3 g hP (e ▸ hvP)
      have hml : maxLen = 9223372036854775807 := rfl
      obtain ⟨⟨c1, p1, p2, p3⟩, _⟩ := slices_Replace_int_int.put g cur 3 w i l3.length (l0.length - j) (l3.map (Value.int .i64)) ((l0.drop j).map (Value.int .i64)) (by simp) (by simp) hh (by omega)
      have hW := slices_Replace_int_int.world g w0 w w w0.heap.size i (i + l3.length) (l3.map (Value.int .i64)) ((l0.drop j).map (Value.int .i64)) (fun k_ => P0_ k_ ∨ P3_ k_) (.inl (.inl hP)) hb hB (Kept.refl _ _)
      have hvl : (l3.map (Value.int .i64)).length = l3.length := List.length_map _
      have hsrc : Src Tryd.prog 1 22 (.slice (some ⟨vb, 0, none⟩) l3.length vc) l3.length (l3.map (Value.int .i64)) w := Src.ofSlice w Tryd.underlying22 ⟨vb, 0, none⟩ l3.length vc (l3.map (Value.int .i64)) (by omega) (fun j u hj => by rw [Addr.add_lit]; exact hvcell j u hj) hone
      by_cases hjl : j = l0.length
      ·have hroom : i + l3.length ≤ cap := by omega
       have hsp : ∀ q, q < l3.length → (w.cell? ⟨g, 0 + i + q, none⟩).isSome = true := fun q hq => slices_Replace_int_int.some_cell hh (by omega)
       have hfz : ∀ q, q < l3.length → w.frozen? ⟨g, 0 + i + q, none⟩ = false := fun q hq => blk_frozen hh _
       go_enter Tryd.func77, Tryd.ntmps77
       go_wp2_with (at_builtin; refine wpList_append_room1 _ rfl _ _ 22 22 rfl 3 _ _ Tryd.underlying22 Tryd.lays21.i3 g 0 i cap rfl _ rfl l3.length (l3.map (Value.int .i64)) hsrc hroom (by rw [hvl]; exact hsp) (by rw [hvl]; exact hfz) ?_)
       go_ret
       have hd : (l0.drop j).map (Value.int .i64) = [] := by rw [List.drop_eq_nil_of_le (by omega)]; rfl
       rw [hd] at p1 p3 hW
       have hrl : (l0.take i ++ l3 ++ l0.drop j).length = i + l3.length := by simp; omega
       have hfin : cur.toList.take i ++ l3.map (Value.int .i64) ++ [] = (l0.take i ++ l3 ++ l0.drop j).map (Value.int .i64) := by
        have e1 : cur.toList.take i = (l0.map (Value.int .i64)).take i := by rw [← ht, List.take_take, Nat.min_eq_left (by omega)]
        rw [e1, ← hd, List.map_append, List.map_append, List.map_take]
       exact ⟨_, rfl, slices_Replace_int_int.fin g c1 _ _ _ _ _ _ p1 (by omega) hrl hroom hcm hb (.inl (.inl hP)) (by rw [← hfin, ← p3]; congr 1; omega), hW.1, hW.2⟩
      ·have hsz : (Tryd.prog.info? 3).map (·.size) = some 1 := by
        obtain ⟨i0, hi0, hz0, hz1, hz2⟩ := info_parts info3
        rw [hi0]; simp [hz1]
       subst hj
       have hjn' : i + l3.length < l0.length := by omega
       have hcp1 : ∀ q L dc ty, l3.length ≤ L → (Builtin.copy_ #[22, 22] ty #[.slice (some ⟨g, i, none⟩) L dc, .slice (some ⟨vb, 0, none⟩) l3.length vc]).run Tryd.prog (w.drewN q) = .ok (goInt (l3.map (Value.int .i64)).length) ((w.drewN q).setCells g i (l3.map (Value.int .i64))) := fun q L dc ty hL =>
        run_copy_cells (w.drewN q) _ _ ty 3 g i L dc ⟨vb, 0, none⟩ l3.length vc (l3.map (Value.int .i64)) Tryd.underlying22 hsz (by rw [hvl]; simp only [Nat.min_def]; split <;> omega) (fun j v hj => by rw [Addr.add_lit]; exact hvcell j v hj) (fun q' hq => slices_Replace_int_int.some_cell (W := w.drewN q) hh (by omega)) (fun q' hq => blk_frozen (w := w.drewN q) hh _) hone
       have hkeep : ∀ q k v, ((l0.drop (i + l3.length)).map (Value.int .i64))[k]? = some v → ((w.drewN q).setCells g i (l3.map (Value.int .i64))).drew.cell? ⟨g, i + l3.length + k, none⟩ = some v := fun q k v hk => by
        show ((w.drewN q).setCells g i (l3.map (Value.int .i64))).cell? ⟨g, i + l3.length + k, none⟩ = some v
        rw [World.cell?_setCells_out g _ i _ ⟨g, i + l3.length + k, none⟩ (fun _ _ => by show i + l3.length + k < i ∨ i + (l3.map (Value.int .i64)).length ≤ i + l3.length + k; rw [hvl]; omega)]
        have := hcell (i + l3.length + k) v (by rw [List.getElem?_map, List.getElem?_drop, ← List.getElem?_map] at hk; exact hk)
        rw [Nat.zero_add] at this
        exact this
       have hcp2 : ∀ q L dc K sc ty, l0.length - (i + l3.length) = L → l0.length - (i + l3.length) = K → (Builtin.copy_ #[22, 22] ty #[.slice (some ⟨g, i + l3.length, none⟩) L dc, .slice (some ⟨g, i + l3.length, none⟩) K sc]).run Tryd.prog ((w.drewN q).setCells g i (l3.map (Value.int .i64))).drew = .ok (goInt ((l0.drop (i + l3.length)).map (Value.int .i64)).length) (((w.drewN q).setCells g i (l3.map (Value.int .i64))).drew.setCells g (i + l3.length) ((l0.drop (i + l3.length)).map (Value.int .i64))) := fun q L dc K sc ty hL hK => by
        subst hL
        subst hK
        refine run_copy_cells _ _ _ ty 3 g (i + l3.length) _ dc ⟨g, i + l3.length, none⟩ _ sc ((l0.drop (i + l3.length)).map (Value.int .i64)) Tryd.underlying22 hsz (by simp) (fun k v hk => by rw [Addr.add_lit]; exact hkeep q k v hk) (fun k hk => ?_) (fun k hk => ?_) (slices_Replace_int_int.one _)
        ·have hk' : k < ((l0.drop (i + l3.length)).map (Value.int .i64)).length := by simpa using hk
         rw [hkeep q k _ (List.getElem?_eq_getElem hk')]; rfl
        ·show ((w.drewN q).setCells g i (l3.map (Value.int .i64))).frozen? ⟨g, i + l3.length + k, none⟩ = false
         rw [World.frozen?_setCells]
         exact blk_frozen (w := w.drewN q) hh _
       have htot : (i : Int) + (l3.length : Int) + ((l0.length - (i + l3.length) : Nat) : Int) = (l0.length : Int) := by omega
       have hc1 : ¬ (cap = i + l3.length) := by omega
       have hclr : ∀ a k W ty, (Builtin.clear_ #[22] ty #[.slice (some a) 0 k]).run Tryd.prog W = .ok (.tuple #[]) W := fun a k W ty => by
        simp [Builtin.clear_]
       have mixed : Tryd.prog.follows .mixedOrders = true := Tryd.lays21.mixed
       have hw1 : IntKind.i64.wrap ((i : Int) + (l3.length : Int)) = (i : Int) + (l3.length : Int) := by rw [IntKind.wrap_i64]; omega
       have hb1 : (0 : Int) ≤ (i : Int) + (l3.length : Int) := by omega
       have htn : ((i : Int) + (l3.length : Int)).toNat = i + l3.length := by omega
       have hb3 : (i : Int) + (l3.length : Int) ≤ (l0.length : Int) := by omega
       go_enter Tryd.func77, Tryd.ntmps77
       go_wp2_with fail
       go_quiet (fail)
       go_wp2_with (first | rw [hcp1 _ _ _ _ (by omega)])
       go_region_law_o (refine step_copy_runI rfl _ _ 22 22 rfl _ _ (by simp [Act.eval, Act.put]) (by simp [Act.eval, Act.put]) (hcp2 _ _ _ _ _ _ (by omega) (by omega)) ?_)
       go_wp2_with (first | rw [hclr])
       all_goals
        go_ret
        have hX := slices_Replace_int_int.put g cur 3 (w.drewN nq).drew i l3.length (l0.length - (i + l3.length)) (l3.map (Value.int .i64)) ((l0.drop (i + l3.length)).map (Value.int .i64)) (by simp) (by simp) hh (by omega)
        have hW2 := slices_Replace_int_int.world g w0 w (w.drewN nq).drew w0.heap.size i (i + l3.length) (l3.map (Value.int .i64)) ((l0.drop (i + l3.length)).map (Value.int .i64)) (fun k_ => P0_ k_ ∨ P3_ k_) (.inl (.inl hP)) hb (below_drew1 (pw_below_drewN hB nq)) (Kept.drew (Kept.drewN (Kept.refl _ _) nq))
        obtain ⟨⟨c3, r1, r2, r3⟩, _⟩ := hX
        have hrl : (l0.take i ++ l3 ++ l0.drop (i + l3.length)).length = l0.length := by simp; omega
        have hfin : cur.toList.take i ++ l3.map (Value.int .i64) ++ (l0.drop (i + l3.length)).map (Value.int .i64) = (l0.take i ++ l3 ++ l0.drop (i + l3.length)).map (Value.int .i64) := by
         have e1 : cur.toList.take i = (l0.map (Value.int .i64)).take i := by rw [← ht, List.take_take, Nat.min_eq_left (by omega)]
         rw [e1, List.map_append, List.map_append, List.map_take]
        have hd : List.drop (i + l3.length) (l0.map (Value.int .i64)) = (l0.drop (i + l3.length)).map (Value.int .i64) := (List.map_drop ..).symm
        rw [drew_setCells]
        exact ⟨_, rfl, slices_Replace_int_int.fin g c3 _ _ _ _ _ _ (by rw [hd]; exact r1) (by omega) hrl (by omega) (by omega) hb (.inl (.inl hP)) (by rw [← hfin, ← r3]; congr 1; omega), by rw [hd]; exact hW2.1, by rw [hd]; exact hW2.2⟩
     ·rw [if_neg h5] at h; cases h
    ·rw [if_neg h4] at h; cases h
   ·rw [if_neg h3] at h; cases h
  ·rw [if_neg h2] at h; cases h
 ·rw [if_neg h1] at h; cases h
end
end Go.Proofs.YtldcjlpbodpmbaaDoor.PMm
