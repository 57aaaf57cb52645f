-- Written for this claim by a program of this session (myprint.py) over the kit's printer.
import Derived.Test.YtmoobmeihckaiaaPAddx0
namespace Go.Proofs.Ytmoobmeihckaiaa.PAdd
open Go.RowKit Go.Proofs.YtmoobmeihckaiaaW.PrintWords Go.Proofs.YtmoobmeihckaiaaW.PrintLast Go.Proofs.YtmoobmeihckaiaaW.PrintMore
attribute [local go_sem] max2_int min2_int max_two min_two max_three min_three max_four min_four   -- for this text's walks alone
set_option linter.unusedVariables false
set_option linter.unusedSimpArgs false

/-! ### slices_Insert_int_int: function 73 -/
def slices_Insert_int_int.f (l0 : List Int) (a1 : Int) (l2 : List Int) : Option (List Int) := if 0 ≤ a1 then (if a1 ≤ (l0.length : Int) then (if 0 < l2.length then (if l0.length + l2.length ≤ 1048576 then (some (l0.take a1.toNat ++ l2 ++ l0.drop a1.toNat)) else (none)) else (none)) else (none)) else (none)
theorem slices_Insert_int_int.encs_map (l : List Int) : encs (Value.int .i64) l = l.map (Value.int .i64) := by simp [encs]
theorem slices_Insert_int_int.put (g : Nat) (cur : Array Value) (e : TypeId) (W : World) (i m k : Nat) (vs zs : List Value) (hvs : vs.length = m) (hzs : zs.length = k) (hh : W.heap[g]? = some (.cells cur e (0, 0))) (hsz : i + m + k ≤ cur.size) :
    (∃ c, ((W.setCells g i vs).setCells g (i + m) zs).heap[g]? = some (.cells c e (0, 0)) ∧ c.size = cur.size ∧ c.toList.take (i + m + k) = cur.toList.take i ++ vs ++ zs) ∧ (∃ c, ((W.setCells g (i + m) zs).setCells g i vs).heap[g]? = some (.cells c e (0, 0)) ∧ c.size = cur.size ∧ c.toList.take (i + m + k) = cur.toList.take i ++ vs ++ zs) := by
  have hl : cur.toList.length = cur.size := Array.length_toList
  constructor
  · obtain ⟨c1, h1, h2, h3⟩ := setCells_row vs i W cur hh (by omega)
    obtain ⟨c2, h4, h5, h6⟩ := setCells_row zs (i + m) _ c1 h1 (by omega)
    refine ⟨c2, h4, by omega, ?_⟩
    have e1 : c1.toList.take (i + m) = cur.toList.take i ++ vs := by
      rw [h3]; exact List.take_left' (by rw [List.length_append, List.length_take]; omega)
    rw [h6, e1]
    exact List.take_left' (by rw [List.length_append, List.length_append, List.length_take]; omega)
  · obtain ⟨c1, h1, h2, h3⟩ := setCells_row zs (i + m) W cur hh (by omega)
    obtain ⟨c2, h4, h5, h6⟩ := setCells_row vs i _ c1 h1 (by omega)
    refine ⟨c2, h4, by omega, ?_⟩
    have e1 : c1.toList.take i = cur.toList.take i := by
      rw [h3, List.append_assoc, List.take_append_of_le_length (by rw [List.length_take]; omega), List.take_take, Nat.min_eq_left (by omega)]
    have e2 : c1.toList.drop (i + vs.length) = zs ++ cur.toList.drop (i + m + zs.length) := by
      rw [h3, List.append_assoc]
      exact List.drop_left' (by rw [List.length_take]; omega)
    rw [h6, e1, e2, ← List.append_assoc]
    exact List.take_left' (by rw [List.length_append, List.length_append, List.length_take]; omega)
theorem slices_Insert_int_int.fin (g : Nat) (c : Array Value) (W : World) (base n' cap : Nat) (P' : Nat → Prop) (r : List Int) (hh : W.heap[g]? = some (.cells c 3 (0, 0))) (hc : c.size = cap) (hr : r.length = n') (hn : n' ≤ cap) (hcm : cap ≤ maxLen) (hb : base ≤ g) (hP : P' g) (ht : c.toList.take n' = r.map (Value.int .i64)) : Kd.R (Kd.int .i64) 3 W base P' (.slice (some ⟨g, 0, none⟩) n' cap) r := by
  subst hr
  refine Kd.R_of_own (enc := Value.int .i64) (h1 := fun _ => rfl) ?_ (fun k hk => ?_)
  · refine ⟨by rw [encs_length, Nat.mul_one], .inr ⟨g, cap, c, rfl, hb, hh, hn, hcm, by omega, ?_⟩⟩
    rw [Nat.mul_one, ht, slices_Insert_int_int.encs_map]
  · simp only [Value.ownBlock] at hk
    obtain rfl : g = k := by simpa using hk
    exact hP
theorem slices_Insert_int_int.world (g : Nat) (w0 w W : World) (base o1 o2 : Nat) (vs zs : List Value) (S : Nat → Prop) (hS : S g ∨ w.heap.size ≤ g) (hb : base ≤ g) (hB : Below base w0 W) (hK : Kept w W S) :
    Below base w0 ((W.setCells g o1 vs).setCells g o2 zs) ∧ Kept w ((W.setCells g o1 vs).setCells g o2 zs) S := by
  obtain ⟨s1, s2, s3, s4⟩ := setCells_same g vs o1 W
  obtain ⟨t1, t2, t3, t4⟩ := setCells_same g zs o2 (W.setCells g o1 vs)
  have hfar : ∀ k, k ≠ g → ((W.setCells g o1 vs).setCells g o2 zs).heap[k]? = W.heap[k]? := fun k hk => (setCells_far zs _ k hk).trans (setCells_far vs _ k hk)
  refine ⟨⟨by rw [t1, s1]; exact hB.os, by rw [t2, s2]; exact hB.tape, by rw [t3, s3]; exact hB.output, by rw [t4, s4]; exact hB.size, fun k hk => (hfar k (by omega)).trans (hB.block k hk)⟩, ⟨by rw [t4, s4]; exact hK.1, fun k hk hn => (hfar k (fun e => ?_)).trans (hK.2 k hk hn)⟩⟩
  subst e
  rcases hS with h | h
  · exact hn h
  · omega
theorem slices_Insert_int_int.cells {g n : Nat} {cur : Array Value} {W : World} {l : List Int} (hh : W.heap[g]? = some (.cells cur 3 (0, 0))) (hl : l.length = n) (ht : cur.toList.take n = l.map (Value.int .i64)) : ∀ j v, (l.map (Value.int .i64))[j]? = some v → W.cell? ⟨g, 0 + j, none⟩ = some v := by
  intro j v hv
  have hj : j < n := by
    have := (List.getElem?_eq_some_iff.1 hv).1
    rwa [List.length_map, hl] at this
  rw [Nat.zero_add, cell_of_row W g j cur 3 (0, 0) hh, ← hv, ← ht, List.getElem?_take, if_pos hj, Array.getElem?_toList]
theorem slices_Insert_int_int.some_cell {g j : Nat} {cur : Array Value} {W : World} (hh : W.heap[g]? = some (.cells cur 3 (0, 0))) (hj : j < cur.size) : (W.cell? ⟨g, j, none⟩).isSome = true := by
  rw [cell_of_row W g j cur 3 (0, 0) hh, Array.getElem?_eq_getElem hj]; rfl
theorem slices_Insert_int_int.one (l : List Int) : ∀ v ∈ l.map (Value.int .i64), v.oneCell' = true := by
  intro v hv
  obtain ⟨x, _, rfl⟩ := List.mem_map.1 hv
  rfl
theorem slices_Insert_int_int.own {w : World} {base : Nat} {P' : Nat → Prop} {v : Value} {l : List Int} (h : Kd.R (Kd.int .i64) 3 w base P' v l) : (v = .slice none 0 0 ∧ l = []) ∨ ∃ g cap cur, v = .slice (some ⟨g, 0, none⟩) l.length cap ∧ base ≤ g ∧ P' g ∧ w.heap[g]? = some (.cells cur 3 (0, 0)) ∧ l.length ≤ cap ∧ cap ≤ maxLen ∧ cur.size = cap ∧ cur.toList.take l.length = l.map (Value.int .i64) := by
  rcases (Kd.own_of_R (enc := Value.int .i64) (h1 := fun _ => rfl) h).2 with ⟨hv, hn⟩ | ⟨g, cap, cur, hv, hb, hh, hnc, hcm, hcs, ht⟩
  · exact .inl ⟨by rw [hv], List.eq_nil_of_length_eq_zero hn⟩
  · refine .inr ⟨g, cap, cur, hv, hb, h.1 g (by rw [hv]; simp [Value.ownBlock]), hh, hnc, hcm, by omega, ?_⟩
    rw [Nat.mul_one, slices_Insert_int_int.encs_map] at ht
    exact ht
set_option maxHeartbeats 4000000 in
set_option maxRecDepth 100000 in
theorem slices_Insert_int_int.calls (P0_ : Nat → Prop) (u9000_ : Value) (l0 : List Int) (a1 : Int) (P2_ : Nat → Prop) (u9001_ : Value) (l2 : List Int) (r : List Int) (w0 w : World) (hB : Below w0.heap.size w0 w) (ho0 : Kd.R (Kd.int .i64) 3 w w0.heap.size P0_ u9000_ l0) (hp0_2 : ∀ k_, P0_ k_ → ¬ P2_ k_) (ho2 : Kd.R (Kd.int .i64) 3 w w0.heap.size P2_ u9001_ l2) (hp2_0 : ∀ k_, P2_ k_ → ¬ P0_ k_) (h : slices_Insert_int_int.f l0 a1 l2 = some r) :
    Calls Try.prog 73 #[u9000_, .int .i64 a1, u9001_] w fun e w' => ∃ v0_ : Value, e = .returned (v0_) ∧ Kd.R (Kd.int .i64) 3 w' w0.heap.size (fun k_ => ((P0_ k_ ∨ P2_ k_) ∨ w.heap.size ≤ k_)) v0_ r ∧ Below w0.heap.size w0 w' ∧ Kept w w' (fun k_ => P0_ k_ ∨ P2_ k_) := by
  unfold slices_Insert_int_int.f at h
  by_cases h1 : 0 ≤ a1
  · rw [if_pos h1] at h
    by_cases h2 : a1 ≤ (l0.length : Int)
    · rw [if_pos h2] at h
      by_cases h3 : 0 < l2.length
      · rw [if_pos h3] at h
        by_cases h4 : l0.length + l2.length ≤ 1048576
        · rw [if_pos h4] at h
          obtain rfl := Option.some.inj h
          clear h
          obtain ⟨i, rfl⟩ := Int.eq_ofNat_of_zero_le h1
          simp only [Int.toNat_natCast]
          have hi : i ≤ l0.length := by omega
          rcases slices_Insert_int_int.own ho2 with ⟨_, e⟩ | ⟨vb, vc, vcur, rfl, hvb, hvP, hvh, hvn, hvm, hvs, hvt⟩
          · subst e; simp at h3
          have hvcell := slices_Insert_int_int.cells hvh rfl hvt
          have hone := slices_Insert_int_int.one l2
          have hvl : (l2.map (Value.int .i64)).length = l2.length := List.length_map _
          have hml : maxLen = 9223372036854775807 := rfl
          have hrl : (l0.take i ++ l2 ++ l0.drop i).length = l0.length + l2.length := by simp; omega
          have hws := hB.size
          rcases slices_Insert_int_int.own ho0 with ⟨rfl, e⟩ | ⟨g, cap, cur, rfl, hb, hP, hh, hnc, hcm, hcs, ht⟩
          · subst e
            obtain rfl : i = 0 := by simpa using hi
            refine (Any2.slices_Insert_int_end_grow Try.lays21 none 0 0 vb 0 l2.length vc [] (l2.map (Value.int .i64)) w h3 (Nat.le_refl _) (by omega) (by simp at h4; omega) rfl hvl (fun _ => rfl) (fun a h => by cases h) hvcell hone).mono ?_
            rintro e w' ⟨rfl, rfl⟩
            have g1 := grownCap_ge w (0 + l2.length) 0 3
            have g2 := grownCap_le_maxLen w (0 + l2.length) 0 3 (by simp at h4; omega)
            refine ⟨_, rfl, slices_Insert_int_int.fin w.heap.size _ _ _ _ _ _ _ (by show (Array.push w.heap _)[w.heap.size]? = _; exact Array.getElem?_push_size) ?_ (by simp) g1 g2 hws (.inr (Nat.le_refl _)) ?_, below_alloc (below_drew1 hB) _, Kept.alloc (Kept.drew (Kept.refl _ _)) _⟩
            · rw [show Try.lays21_ren.t 3 = 3 from rfl]
              have e : grownCap w l2.length 0 3 = grownCap w (0 + l2.length) 0 3 := by rw [Nat.zero_add]
              simp only [Array.size_append, size_zeroCells, List.size_toArray, List.length_append, List.length_map, List.length_nil, Value.cells]
              simp
              simp at g1
              omega
            · rw [Array.toList_append, List.nil_append]
              simp [List.take_append_of_le_length]
          · have hcell := slices_Insert_int_int.cells hh rfl ht
            have hcl : (l0.map (Value.int .i64)).length = l0.length := List.length_map _
            have honec := slices_Insert_int_int.one l0
            have hvg : vb ≠ g := fun e => hp0_2 g hP (e ▸ hvP)
            have hdl : ((l0.map (Value.int .i64)).drop i).length = l0.length - i := by simp
            have hfin : (cur.toList.take i ++ l2.map (Value.int .i64) ++ (l0.map (Value.int .i64)).drop i) = (l0.take i ++ l2 ++ l0.drop i).map (Value.int .i64) := by
              have e1 : cur.toList.take i = (l0.map (Value.int .i64)).take i := by rw [← ht, List.take_take, Nat.min_eq_left hi]
              rw [e1, List.map_append, List.map_append, List.map_take, List.map_drop]
            by_cases hroom : l0.length + l2.length ≤ cap
            · obtain ⟨⟨c1, p1, p2, p3⟩, ⟨c2, q1, q2, q3⟩⟩ := slices_Insert_int_int.put g cur 3 w i l2.length (l0.length - i) (l2.map (Value.int .i64)) ((l0.map (Value.int .i64)).drop i) hvl hdl hh (by omega)
              by_cases hin : i = l0.length
              · subst hin
                refine (Any2.slices_Insert_int_end_room Try.lays21 g 0 l0.length cap vb 0 l2.length vc (l2.map (Value.int .i64)) w h3 hroom (by omega) hvl (fun j hj => slices_Insert_int_int.some_cell hh (by omega)) (fun j hj => blk_frozen hh _) hvcell hone).mono ?_
                rintro e w' ⟨rfl, rfl⟩
                have hd : (l0.map (Value.int .i64)).drop l0.length = [] := List.drop_eq_nil_of_le (by simp)
                rw [hd] at p1 p3 hfin
                have hW := slices_Insert_int_int.world g w0 w w w0.heap.size l0.length (l0.length + l2.length) (l2.map (Value.int .i64)) [] (fun k_ => P0_ k_ ∨ P2_ k_) (.inl (.inl hP)) hb hB (Kept.refl _ _)
                rw [Nat.zero_add]
                exact ⟨_, rfl, slices_Insert_int_int.fin g c1 _ _ _ _ _ _ p1 (by omega) hrl hroom hcm hb (.inl (.inl hP)) (by rw [← hfin, ← p3]; congr 1; omega), hW.1, hW.2⟩
              · refine (Any2.slices_Insert_int_shift Try.lays21 g 0 l0.length cap i vb 0 l2.length vc (l0.map (Value.int .i64)) (l2.map (Value.int .i64)) w (by omega) h3 hroom (by omega) hvg hcl hvl hcell (fun j hj => slices_Insert_int_int.some_cell hh (by omega)) (fun j hj => blk_frozen hh _) hvcell honec hone 3 3 vcur.size cur.size (by simp [World.shape?, hvh]) (by simp [World.shape?, hh]) (by omega) (blk_frozen hvh _) (blk_frozen hvh _)).mono ?_
                rintro e w' ⟨rfl, rfl⟩
                have hW := slices_Insert_int_int.world g w0 w w.drew w0.heap.size (i + l2.length) i ((l0.map (Value.int .i64)).drop i) (l2.map (Value.int .i64)) (fun k_ => P0_ k_ ∨ P2_ k_) (.inl (.inl hP)) hb (below_drew1 hB) (Kept.drew (Kept.refl _ _))
                obtain ⟨_, ⟨c3, r1, r2, r3⟩⟩ := slices_Insert_int_int.put g cur 3 w.drew i l2.length (l0.length - i) (l2.map (Value.int .i64)) ((l0.map (Value.int .i64)).drop i) hvl hdl hh (by omega)
                rw [Nat.zero_add, Nat.zero_add]
                exact ⟨_, rfl, slices_Insert_int_int.fin g c3 _ _ _ _ _ _ r1 (by omega) hrl hroom hcm hb (.inl (.inl hP)) (by rw [← hfin, ← r3]; congr 1; omega), hW.1, hW.2⟩
            · have g1 := grownCap_ge w (l0.length + l2.length) cap 3
              have g2 := grownCap_le_maxLen w (l0.length + l2.length) cap 3 (by omega)
              by_cases hin : i = l0.length
              · subst hin
                refine (Any2.slices_Insert_int_end_grow Try.lays21 (some ⟨g, 0, none⟩) l0.length cap vb 0 l2.length vc (l0.map (Value.int .i64)) (l2.map (Value.int .i64)) w h3 hnc (by omega) (by omega) hcl hvl (fun h => by cases h) (fun a ha j v hv => by cases ha; rw [add_at]; exact hcell j v hv) hvcell hone).mono ?_
                rintro e w' ⟨rfl, rfl⟩
                refine ⟨_, rfl, slices_Insert_int_int.fin w.heap.size _ _ _ _ _ _ _ (by show (Array.push w.heap _)[w.heap.size]? = _; exact Array.getElem?_push_size) ?_ hrl g1 g2 hws (.inr (Nat.le_refl _)) ?_, below_alloc (below_drew1 hB) _, Kept.alloc (Kept.drew (Kept.refl _ _)) _⟩
                · rw [show Try.lays21_ren.t 3 = 3 from rfl]
                  simp only [Array.size_append, size_zeroCells, List.size_toArray, List.length_append, List.length_map, Value.cells]
                  simp
                  omega
                · rw [Array.toList_append, List.take_left' (by simp)]
                  simp
              · refine (Any2.slices_Insert_int_grow Try.lays21 g 0 l0.length cap i vb 0 l2.length vc (l0.map (Value.int .i64)) (l2.map (Value.int .i64)) w (by omega) h3 hnc (by omega) (by omega) hcl hvl hcell hvcell honec hone).mono ?_
                rintro e w' ⟨rfl, rfl⟩
                obtain ⟨arr, harr⟩ : ∃ arr : Array Value, arr = ((l0.map (Value.int .i64)).take i).toArray ++ Builtin.zeroCells (Value.int .i64 0).cells (l0.length + l2.length - i) ++ Builtin.zeroCells (Value.int .i64 0).cells (grownCap w (l0.length + l2.length) cap 3 - (l0.length + l2.length)) := ⟨_, rfl⟩
                have hasz : arr.size = grownCap w (l0.length + l2.length) cap 3 := by
                  rw [harr]
                  simp only [Array.size_append, size_zeroCells, List.size_toArray, List.length_take, List.length_map, Value.cells]
                  simp
                  omega
                have hat : arr.toList.take i = cur.toList.take i := by
                  have e1 : cur.toList.take i = (l0.map (Value.int .i64)).take i := by rw [← ht, List.take_take, Nat.min_eq_left hi]
                  rw [e1, harr, Array.toList_append, Array.toList_append, List.append_assoc]
                  exact List.take_left' (by simp; omega)
                have hnew : (w.alloc (.cells arr 3)).drew.drew.heap[w.heap.size]? = some (.cells arr 3 (0, 0)) := by
                  show (Array.push w.heap _)[w.heap.size]? = _
                  exact Array.getElem?_push_size
                have hW := slices_Insert_int_int.world w.heap.size w0 w (w.alloc (.cells arr 3)).drew.drew w0.heap.size i (i + l2.length) (l2.map (Value.int .i64)) ((l0.map (Value.int .i64)).drop i) (fun k_ => P0_ k_ ∨ P2_ k_) (.inr (Nat.le_refl _)) hws (below_drew1 (below_drew1 (below_alloc hB _))) (Kept.drew (Kept.drew (Kept.alloc (Kept.refl _ _) _)))
                obtain ⟨⟨c3, r1, r2, r3⟩, _⟩ := slices_Insert_int_int.put w.heap.size arr 3 _ i l2.length (l0.length - i) (l2.map (Value.int .i64)) ((l0.map (Value.int .i64)).drop i) hvl hdl hnew (by omega)
                rw [show Try.lays21_ren.t 3 = 3 from rfl, ← harr, drew_setCells]
                exact ⟨_, rfl, slices_Insert_int_int.fin w.heap.size c3 _ _ _ _ _ _ r1 (by omega) hrl g1 g2 hws (.inr (Nat.le_refl _)) (by rw [← hfin, ← hat, ← r3]; congr 1; omega), hW.1, hW.2⟩
        · rw [if_neg h4] at h; cases h
      · rw [if_neg h3] at h; cases h
    · rw [if_neg h2] at h; cases h
  · rw [if_neg h1] at h; cases h

end Go.Proofs.Ytmoobmeihckaiaa.PAdd
