-- Written for this claim by a program of this session (myprint.py) over the kit's printer.
import Derived.Test.YtnddmmjofpfmfaaPScx0
namespace Go.Proofs.Ytnddmmjofpfmfaa.PSc
noncomputable section
open Go.RowKit Go.Proofs.YtnddmmjofpfmfaaW.PrintWords Go.Proofs.YtnddmmjofpfmfaaW.PrintLast Go.Proofs.YtnddmmjofpfmfaaW.PrintMore
attribute [local go_sem] max2_int min2_int max_two min_two max_three min_three max_four min_four   -- for this text's walks alone
set_option linter.unusedVariables false
set_option linter.unusedSimpArgs false

-- NOT PRINTED: function 135 (slices_reverseRangeCmpFunc_int)

-- NOT PRINTED: function 136 (slices_partialInsertionSortCmpFunc_int)

-- NOT PRINTED: function 137 (slices_partitionEqualCmpFunc_int)

-- NOT PRINTED: function 138 (slices_partitionCmpFunc_int)

-- NOT PRINTED: function 129 (slices_pdqsortCmpFunc_int)

-- NOT PRINTED: function 123 (slices_SortFunc_int_int)

/-! ### impl_firsts: function 108 -/
/-- Are two rungs so near that they can't be exchanged? -/
def impl_firsts.near (r : Int) (x : Int) : Bool := !(decide (2 ≤ x - r) || decide (2 ≤ r - x))
def impl_firsts.idx (p : Int → Bool) (l : List Int) : Int := if l.any p then ((l.findIdx p : Nat) : Int) else -1
theorem impl_firsts.idx_hit (p : Int → Bool) (l : List Int) (i : Nat) (hi : i < l.length) (hp : p (rd l i) = true) (hb : ∀ j, j < i → p (rd l j) = false) : impl_firsts.idx p l = (i : Int) := by
  have hg : ∀ j : Nat, ∀ h : j < l.length, rd l j = l[j] := fun j h => by
    show l.getD ((j : Int)).toNat 0 = _
    rw [Int.toNat_natCast, List.getD_eq_getElem?_getD, List.getElem?_eq_getElem h]; rfl
  have h1 : l.any p = true := List.any_eq_true.2 ⟨rd l i, by rw [hg i hi]; exact List.getElem_mem hi, hp⟩
  unfold impl_firsts.idx
  rw [if_pos h1]
  congr 1
  refine (List.findIdx_eq hi).2 ⟨by rw [← hg i hi]; exact hp, fun j hj => ?_⟩
  have := hb j hj
  rw [hg j (by omega)] at this
  simpa using this
theorem impl_firsts.idx_miss (p : Int → Bool) (l : List Int) (hb : ∀ j, j < l.length → p (rd l j) = false) : impl_firsts.idx p l = -1 := by
  have h1 : ¬ l.any p = true := fun h => by
    obtain ⟨x, hx, hp⟩ := List.any_eq_true.1 h
    obtain ⟨j, hj, rfl⟩ := List.getElem_of_mem hx
    have h2 := hb j hj
    have hg : rd l j = l[j] := by
      show l.getD ((j : Int)).toNat 0 = _
      rw [Int.toNat_natCast, List.getD_eq_getElem?_getD, List.getElem?_eq_getElem hj]; rfl
    rw [hg, hp] at h2
    cases h2
  unfold impl_firsts.idx
  rw [if_neg h1]
theorem impl_firsts.idx_any (p : Int → Bool) (l : List Int) : decide (0 ≤ impl_firsts.idx p l) = l.any p := by
  unfold impl_firsts.idx
  cases h : l.any p
  · simp
  · simp [Int.natCast_nonneg]
set_option maxHeartbeats 1000000 in
theorem impl_firsts.apart (a b : Int) (w : World) (ha : 0 ≤ a ∧ a ≤ 1000) (hb : 0 ≤ b ∧ b ≤ 1000) :
    Calls Try.prog 122 #[.int .i64 a, .int .i64 b] w fun e w' => e = .returned (.bool (decide (2 ≤ a - b) || decide (2 ≤ b - a))) ∧ Drawn0 w w' := by
  have h1 : wrap64 (a - b) = a - b := by unfold wrap64; omega
  have h2 : wrap64 (b - a) = b - a := by unfold wrap64; omega
  by_cases c : 2 ≤ a - b
  · have c0 : decide (2 ≤ a - b) = true := decide_eq_true c
    have c1 : decide (a - b ≥ 2) = true := decide_eq_true c
    clear c ha hb
    go_enter Try.func122, Try.ntmps122
    go_wp2
    go_ret
    exact ⟨by simp [c0], by repeat (first | exact Drawn0.refl _ | apply Drawn0.step)⟩
  · have c0 : decide (2 ≤ a - b) = false := decide_eq_false c
    have c1 : decide (a - b ≥ 2) = false := decide_eq_false c
    clear c ha hb
    go_enter Try.func122, Try.ntmps122
    go_wp2
    go_ret
    exact ⟨by simp [c0], by repeat (first | exact Drawn0.refl _ | apply Drawn0.step)⟩
set_option maxHeartbeats 1000000 in
/-- The first closure: is the rung near the one that was caught? -/
theorem impl_firsts.clos (x r : Int) (g : Nat) (w : World) (hx : 0 ≤ x ∧ x ≤ 1000) (hr : 0 ≤ r ∧ r ≤ 1000) (hc : w.cell? ⟨g, 0, none⟩ = some (.int .i64 r)) :
    Calls Try.prog 121 #[.int .i64 x, .pointer (some ⟨g, 0, none⟩)] w fun e w' => e = .returned (.bool (impl_firsts.near r x)) ∧ Drawn0 w w' := by
  have HX := Aside0.mk hx
  have HR := Aside0.mk hr
  clear hx hr
  go_enter Try.func121, Try.ntmps121
  go_wp2_with (go_at_call 122; (with_reducible refine (impl_firsts.apart x r _ HX.out HR.out).mono ?_); rintro e w' ⟨rfl, ⟨nd, rfl⟩⟩)
  go_ret
  exact ⟨by simp [impl_firsts.near], by repeat (first | exact Drawn0.refl _ | apply Drawn0.step)⟩
theorem impl_firsts.rd_in (l : List Int) (k : Nat) (h : k < l.length) : rd l (k : Int) ∈ l := by
  have : rd l (k : Int) = l[k] := by
    show l.getD ((k : Int)).toNat 0 = _
    rw [Int.toNat_natCast, List.getD_eq_getElem?_getD, List.getElem?_eq_getElem h]; rfl
  rw [this]; exact List.getElem_mem h
def impl_firsts.Gives (n : Int) (g : Nat) (w : World) : Prop := ∀ (x : Int) (q : Nat), 0 ≤ x ∧ x ≤ 1000 → Calls Try.prog 121 #[.int .i64 x, .pointer (some ⟨g, 0, none⟩)] (w.drewN q) fun e w' => e = .returned (.bool (impl_firsts.near n x)) ∧ Drawn0 (w.drewN q) w'
set_option maxHeartbeats 1000000 in
set_option maxRecDepth 100000 in
theorem impl_firsts.index (A0 : Option Addr) (c0 : Nat) (l0 : List Int) (n : Int) (g : Nat) (w : World) (hr0 : Kd.C (Kd.int .i64) w A0 l0.length l0) (hc0 : l0.length ≤ c0) (hG : impl_firsts.Gives n g w) (hs : ∀ x ∈ l0, 0 ≤ x ∧ x ≤ 1000) :
    Calls Try.prog 120 #[.slice A0 l0.length c0, .func (.func 121) #[] #[.pointer (some ⟨g, 0, none⟩)]] w fun e w' => e = .returned (.int .i64 (impl_firsts.idx (impl_firsts.near n) l0)) ∧ Drawn0 w w' := by
  have HR0 := Aside0.mk hr0
  have HG := Aside0.mk hG
  have HN : l0.length ≤ 9223372036854775807 := hr0.2.1
  have HS := Aside0.mk hs
  clear hr0 hc0 hG hs
  go_enter Try.func120, Try.ntmps120
  go_wp2
  go_loopg [5, 8] l0.length (fun gg _ s8 wr => ∃ kk q : Nat, kk ≤ l0.length ∧ l0.length - kk ≤ gg ∧ s8 = .int .i64 kk ∧ wr = w.drewN q ∧ Aside0 (∀ j : Nat, j < kk → impl_firsts.near n (rd l0 (j : Int)) = false))
  case atStart => exact ⟨0, 0, Nat.zero_le _, by omega, rfl, rfl, ⟨fun j hj => absurd hj (Nat.not_lt_zero _)⟩⟩
  case round =>
    obtain ⟨kk, q, hkk, hg, rfl, rfl, A⟩ := hrel
    by_cases hlt : kk < l0.length
    · have hltz : (kk : Int) < (l0.length : Int) := by omega
      obtain ⟨ad1, e1, hx0⟩ := Kd.at_int HR0.out (kk : Int) (Int.natCast_nonneg kk) hltz
      cases e1
      have hx : w.cell? (ad1.add kk) = some (.int .i64 (rd l0 (kk : Int))) := by rw [Int.toNat_natCast] at hx0; exact hx0
      clear hx0
      cases hq : impl_firsts.near n (rd l0 (kk : Int)) with
      | true =>
        have hcall := fun q => HG.out (rd l0 (kk : Int)) q (HS.out _ (impl_firsts.rd_in l0 kk hlt))
        rw [hq] at hcall
        have HC := Aside0.mk hcall
        have HQ := Aside0.mk hq
        clear hcall hq
        go_wp2_with (go_at_call 121; refine (HC.out _).mono ?_; rintro e w' ⟨rfl, ⟨q', rfl⟩⟩)
        go_ret
        refine ⟨?_, by repeat (first | exact Drawn0.refl _ | apply Drawn0.step)⟩
        rw [impl_firsts.idx_hit _ l0 kk hlt HQ.out A.out]; rfl
      | false =>
        have hcall := fun q => HG.out (rd l0 (kk : Int)) q (HS.out _ (impl_firsts.rd_in l0 kk hlt))
        rw [hq] at hcall
        have HC := Aside0.mk hcall
        have HQ := Aside0.mk hq
        clear hcall hq
        go_wp2_with (go_at_call 121; refine (HC.out _).mono ?_; rintro e w' ⟨rfl, ⟨q', rfl⟩⟩)
        go_roundg (l0.length - (kk + 1))
        case measure => omega
        case rel =>
          refine ⟨kk + 1, _, by omega, by omega, by go_num, rfl, ⟨fun j hj => ?_⟩⟩
          by_cases e : j = kk
          · subst e; exact HQ.out
          · exact A.out j (by omega)
    · have hltz : ¬ (kk : Int) < (l0.length : Int) := by omega
      have hk : kk = l0.length := by omega
      subst hk
      go_wp2
      go_ret
      refine ⟨?_, by repeat (first | exact Drawn0.refl _ | apply Drawn0.step)⟩
      rw [impl_firsts.idx_miss _ l0 A.out]; rfl
set_option maxHeartbeats 1000000 in
theorem impl_firsts.contains (A0 : Option Addr) (c0 : Nat) (l0 : List Int) (n : Int) (g : Nat) (r : Bool) (w : World) (hr0 : Kd.C (Kd.int .i64) w A0 l0.length l0) (hc0 : l0.length ≤ c0) (hG : impl_firsts.Gives n g w) (hs : ∀ x ∈ l0, 0 ≤ x ∧ x ≤ 1000) (h : l0.any (impl_firsts.near n) = r) :
    Calls Try.prog 106 #[.slice A0 l0.length c0, .func (.func 121) #[] #[.pointer (some ⟨g, 0, none⟩)]] w fun e w' => e = .returned (.bool r) ∧ Drawn0 w w' := by
  have HI := Aside0.mk (impl_firsts.index A0 c0 l0 n g w hr0 hc0 hG hs)
  have HA := Aside0.mk (impl_firsts.idx_any (impl_firsts.near n) l0)
  have HH := Aside0.mk h
  clear hr0 hG h hs
  go_enter Try.func106, Try.ntmps106
  go_wp2_with (go_at_call 120; (with_reducible refine HI.out.mono ?_); rintro e w' ⟨rfl, ⟨nd, rfl⟩⟩)
  go_ret
  exact ⟨by rw [HA.out, HH.out]; rfl, by repeat (first | exact Drawn0.refl _ | apply Drawn0.step)⟩
/-- Is the rung at place i brought to the top by slides? -/
def impl_firsts.free (l : List Int) (i : Nat) : Bool := !((l.take i).any (impl_firsts.near (rd l (i : Int))))
def impl_firsts.outs (l : List Int) (i : Nat) : List Nat := (List.range i).filter (impl_firsts.free l)
def impl_firsts.small (l : List Int) : Bool := l.all fun x => decide (0 ≤ x) && decide (x ≤ 1000)
theorem impl_firsts.small_mem {l : List Int} (h : impl_firsts.small l = true) : ∀ x ∈ l, 0 ≤ x ∧ x ≤ 1000 := fun x hx => by
  have := List.all_eq_true.1 h x hx
  simpa using this
/-- The places, as they are handed to the sort. -/
abbrev impl_firsts.Pl (l : List Int) := Fin (l.length - 1 + 1)
def impl_firsts.enc {m : Nat} (x : Fin m) : Value := .int .i64 (x.val : Int)
def impl_firsts.cf (l : List Int) (x y : impl_firsts.Pl l) : Int := rd l (x.val : Int) - rd l (y.val : Int)
def impl_firsts.arr (l : List Int) : Array (impl_firsts.Pl l) := ((impl_firsts.outs l l.length).map fun i => Fin.ofNat (l.length - 1 + 1) i).toArray
def impl_firsts.sorted (l : List Int) : Array (impl_firsts.Pl l) := Sort.insertionSort (ltOf (impl_firsts.cf l)) (impl_firsts.arr l) 0 (impl_firsts.arr l).size
def impl_firsts.f (l0 : List Int) : Option (List Int) := if 0 < l0.length ∧ l0.length ≤ 1000 ∧ impl_firsts.small l0 = true ∧ (impl_firsts.outs l0 l0.length).length ≤ 12 then some ((impl_firsts.sorted l0).toList.map fun x => (x.val : Int)) else none
set_option maxHeartbeats 2000000 in
/-- The second closure: the difference of two rungs. -/
theorem impl_firsts.cmp (l : List Int) (hs : ∀ x ∈ l, 0 ≤ x ∧ x ≤ 1000) (x y : Nat) (hx : x < l.length) (hy : y < l.length) (g : Nat) (A : Option Addr) (c : Nat) (w : World) (hcell : w.cell? ⟨g, 0, none⟩ = some (.slice A l.length c)) (hr : Kd.C (Kd.int .i64) w A l.length l) :
    Calls Try.prog 124 #[.int .i64 (x : Int), .int .i64 (y : Int), .pointer (some ⟨g, 0, none⟩)] w fun e w' => e = .returned (.int .i64 (rd l (x : Int) - rd l (y : Int))) ∧ Drawn0 w w' := by
  have h1 := hs _ (impl_firsts.rd_in l x hx)
  have h2 := hs _ (impl_firsts.rd_in l y hy)
  have hw : wrap64 (rd l (x : Int) - rd l (y : Int)) = rd l (x : Int) - rd l (y : Int) := by unfold wrap64; omega
  obtain ⟨xi, hxi⟩ : ∃ xi : Int, xi = (x : Int) := ⟨_, rfl⟩
  obtain ⟨yi, hyi⟩ : ∃ yi : Int, yi = (y : Int) := ⟨_, rfl⟩
  rw [← hxi, ← hyi] at hw ⊢
  have p171 : 0 ≤ xi := by omega
  have q171 : xi < (l.length : Int) := by omega
  have p172 : 0 ≤ yi := by omega
  have q172 : yi < (l.length : Int) := by omega
  obtain ⟨ad, ead, hx0⟩ := Kd.at_int hr xi p171 q171
  cases ead
  obtain ⟨ad2, ead2, hy0⟩ := Kd.at_int hr yi p172 q172
  obtain rfl : ad = ad2 := (by injection ead2)
  obtain ⟨u, hu⟩ : ∃ u, u = rd l xi := ⟨_, rfl⟩
  obtain ⟨v, hv⟩ : ∃ v, v = rd l yi := ⟨_, rfl⟩
  rw [← hu] at hx0 hw ⊢
  rw [← hv] at hy0 hw ⊢
  have hwi : (IntKind.i64.wrap (u - v)) = u - v := (i64_w _).trans hw
  clear hu hv ead2 hr h1 h2 hxi hyi hx hy hs
  replace p171 := eq_true p171
  replace q171 := eq_true q171
  replace p172 := eq_true p172
  replace q172 := eq_true q172
  go_enter Try.func124, Try.ntmps124
  go_wp2
  repeat (go_quiet (fail); try go_wp2)
  go_ret
  exact ⟨by first | rfl | (simp; done) | (simp [*]; done), by repeat (first | exact Drawn0.refl _ | apply Drawn0.step)⟩
theorem impl_firsts.encs_map (l : List Int) : encs (Value.int .i64) l = l.map (Value.int .i64) := by simp [encs]
theorem impl_firsts.fin (g : Nat) (c : Array Value) (W : World) (base n' cap : Nat) (P' : Nat → Prop) (r : List Int) (hh : W.heap[g]? = some (.cells c 3 (0, 0))) (hc : c.size = cap) (hr : r.length = n') (hn : n' ≤ cap) (hcm : cap ≤ maxLen) (hb : base ≤ g) (hP : P' g) (ht : c.toList.take n' = r.map (Value.int .i64)) : Kd.R (Kd.int .i64) 3 W base P' (.slice (some ⟨g, 0, none⟩) n' cap) r := by
  subst hr
  refine Kd.R_of_own (enc := Value.int .i64) (h1 := fun _ => rfl) ?_ (fun k hk => ?_)
  · refine ⟨by rw [encs_length, Nat.mul_one], .inr ⟨g, cap, c, rfl, hb, hh, hn, hcm, by omega, ?_⟩⟩
    rw [Nat.mul_one, ht, impl_firsts.encs_map]
  · simp only [Value.ownBlock] at hk
    obtain rfl : g = k := by simpa using hk
    exact hP
theorem impl_firsts.own {w : World} {base : Nat} {P' : Nat → Prop} {v : Value} {l : List Int} (h : Kd.R (Kd.int .i64) 3 w base P' v l) : (v = .slice none 0 0 ∧ l = []) ∨ ∃ g cap cur, v = .slice (some ⟨g, 0, none⟩) l.length cap ∧ base ≤ g ∧ P' g ∧ w.heap[g]? = some (.cells cur 3 (0, 0)) ∧ l.length ≤ cap ∧ cap ≤ maxLen ∧ cur.size = cap ∧ cur.toList.take l.length = l.map (Value.int .i64) := by
  rcases (Kd.own_of_R (enc := Value.int .i64) (h1 := fun _ => rfl) h).2 with ⟨hv, hn⟩ | ⟨g, cap, cur, hv, hb, hh, hnc, hcm, hcs, ht⟩
  · exact .inl ⟨by rw [hv], List.eq_nil_of_length_eq_zero hn⟩
  · refine .inr ⟨g, cap, cur, hv, hb, h.1 g (by rw [hv]; simp [Value.ownBlock]), hh, hnc, hcm, by omega, ?_⟩
    rw [Nat.mul_one, impl_firsts.encs_map] at ht
    exact ht
def impl_firsts.ints (l : List Nat) : List Int := l.map fun i : Nat => ((i : Nat) : Int)
theorem impl_firsts.outs_succ (l : List Int) (i : Nat) : impl_firsts.outs l (i + 1) = if impl_firsts.free l i = true then impl_firsts.outs l i ++ [i] else impl_firsts.outs l i := by
  unfold impl_firsts.outs
  rw [List.range_succ, List.filter_append]
  by_cases h : impl_firsts.free l i = true
  · rw [if_pos h, List.filter_cons, if_pos h]; rfl
  · rw [if_neg h, List.filter_cons, if_neg h]; simp
theorem impl_firsts.hlen (n : Nat) (W : World) (h : n ≤ 12) : Calls Try.prog (Try.laysSort_ren.f 15) #[.int .u64 n] W fun e w' => (∃ l : Int, e = .returned (.int .i64 l)) ∧ w' = W :=
  (Any.bits_Len Try.laysLen n W (by omega) (by omega)).mono fun _ _ ⟨he, hw⟩ => ⟨⟨_, he⟩, hw⟩
theorem impl_firsts.sw_heap {m : Nat} (w : World) (blk n : Nat) (dk : Array (Fin (m + 1))) (os : Array Obj) (k : Nat) (h1 : k ≠ blk) (h2 : k < w.heap.size) : (sortWorld (impl_firsts.enc (m := m + 1)) w blk 0 n dk os).heap[k]? = w.heap[k]? := by
  unfold sortWorld
  have hs : (Sort.putRow (impl_firsts.enc (m := m + 1)) (Sort.ahead w n) blk 0 dk).heap.size = w.heap.size := by simp [Sort.putRow, Sort.mapBlock, Sort.ahead]
  rw [Sort.heap_grow_old _ _ (by rw [hs]; exact h2)]
  simp only [Sort.putRow, Sort.mapBlock, Sort.ahead, Array.getElem?_modify, if_neg (Ne.symm h1)]
theorem impl_firsts.swo (l : List Int) : Sort.SWO (ltOf (impl_firsts.cf l)) where
  irrefl := fun x => by simp [ltOf, impl_firsts.cf]
  trans := fun x y z h1 h2 => by
    have h1' := of_decide_eq_true h1
    have h2' := of_decide_eq_true h2
    refine decide_eq_true ?_
    unfold impl_firsts.cf at *
    omega
  ntrans := fun x y z h1 h2 => by
    have h1' := of_decide_eq_false h1
    have h2' := of_decide_eq_false h2
    refine decide_eq_false ?_
    unfold impl_firsts.cf at *
    omega
theorem impl_firsts.arr_enc (l : List Int) (h : 0 < l.length) : (impl_firsts.arr l).toList.map (impl_firsts.enc) = (impl_firsts.ints (impl_firsts.outs l l.length)).map (Value.int .i64) := by
  unfold impl_firsts.arr impl_firsts.ints
  simp only [List.map_map]
  refine List.map_congr_left fun i hi => ?_
  have h1 : i < l.length := by
    have := (List.mem_filter.1 hi).1
    exact List.mem_range.1 this
  have h2 : (Fin.ofNat (l.length - 1 + 1) i).val = i := by
    show i % (l.length - 1 + 1) = i
    exact Nat.mod_eq_of_lt (by omega)
  show Value.int .i64 ((Fin.ofNat (l.length - 1 + 1) i).val : Int) = Value.int .i64 ((i : Nat) : Int)
  rw [h2]
theorem impl_firsts.put_take {m : Nat} (d : Array (Fin (m + 1))) (cur : Array Value) (h : d.size ≤ cur.size) : (Sort.putCells (impl_firsts.enc (m := m + 1)) 0 d cur).toList.take d.size = d.toList.map (impl_firsts.enc) := by
  apply List.ext_getElem?
  intro j
  rw [List.getElem?_take]
  by_cases hj : j < d.size
  · rw [if_pos hj, Array.getElem?_toList]
    simp only [Sort.putCells, Array.getElem?_mapIdx, List.getElem?_map, Array.getElem?_toList]
    rw [Array.getElem?_eq_getElem (show j < cur.size by omega), Array.getElem?_eq_getElem hj]
    simp only [Option.map_some]
    rw [if_pos ⟨Nat.zero_le _, by omega⟩, Nat.sub_zero, getElem!_pos d j hj]
  · rw [if_neg hj, List.getElem?_map, List.getElem?_eq_none (by rw [Array.length_toList]; omega)]
    rfl
set_option maxHeartbeats 8000000 in
set_option maxRecDepth 100000 in
theorem impl_firsts.calls (A0 : Option Addr) (c0 : Nat) (l0 : List Int) (r : List Int) (w : World) (hr0 : Kd.C (Kd.int .i64) w A0 l0.length l0) (hc0 : l0.length ≤ c0) (h : impl_firsts.f l0 = some r) :
    Calls Try.prog 108 #[.slice A0 l0.length c0] w fun e w' => ∃ v0_ : Value, e = .returned (v0_) ∧ Kd.R (Kd.int .i64) 3 w' w.heap.size (fun _ => True) v0_ r ∧ Below w.heap.size w w' := by
  unfold impl_firsts.f at h
  split at h
  · rename_i hcond
    obtain ⟨hpos, h1000, hsm, h12⟩ := hcond
    obtain rfl := Option.some.inj h
    have hmem := impl_firsts.small_mem hsm
    obtain ⟨ad, ead, _⟩ := Kd.at_int hr0 0 (by decide) (by omega)
    subst ead
    obtain ⟨i0, hi0, _, hsz0, _⟩ := info_parts info3
    have HI0 := Aside0.mk hi0
    have HR := Aside0.mk hr0
    have HC := Aside0.mk hc0
    have HM := Aside0.mk hmem
    have HL := Aside0.mk (And.intro hpos h1000)
    have H12 := Aside0.mk h12
    clear hr0 hc0 hmem hpos h1000 h12 h hsm hi0 hsz0
    go_enter Try.func108, Try.ntmps108
    go_wp2_with (first | ((with_reducible refine gate_dst (N := 1) rfl ?_); refine box_event ?hg (N := 1) ?hd (cs := #[.slice (some ad) l0.length c0]) (t := 25) ?hr ?_; (case hd => rfl); (case hg => rfl); (case hr => first | (go_simp; done) | (go_simp; rfl)); intro gb hg w1 hbox hb; have HBX := Aside0.mk hbox; have HB1 := Aside0.mk hb; have HG := Aside0.mk hg; clear hbox hb hg) | ((with_reducible refine gate_dst (N := 6) rfl ?_); refine Kd.R_lit (Kd.int .i64) _ 3 ?hg (N := 6) ?hd (xs := ([] : List Int)) (inner := []) (ok := fun _ => True) (okp := fun _ => True) ?hr ?hp (fun _ hk => hk) trivial (Below.refl _ _) (Nat.le_refl _) (by simp) ?_; (case hd => rfl); (case hg => rfl); (case hr => first | (go_simp; done) | (go_simp; rfl)); (case hp => exact (Reps.none _ _)); intro v6 w2 ho3 hb_ hg_ hnew_; have hb := below_step (w := w1) (by repeat (first | exact Below.refl _ _ | apply below_alloc | apply pw_below_drewN | apply below_drew1)) hb_; clear hg_ hnew_ hb_; have HO := Aside0.mk (Kd.R_lower (Kd.R_mono (Kd.R_bound ho3) (fun k_ h_ => (show k_ ≠ gb from fun e_ => by have h1_ := blk_lt HBX.out; have h2_ := h_.2.1; exact absurd (Nat.lt_of_lt_of_le h1_ h2_) (by rw [e_]; exact Nat.lt_irrefl gb)))) (show w.heap.size ≤ _ from HB1.out.size)); have HB2 := Aside0.mk (below_step HB1.out hb); have hbx2 := blk_below HBX.out hb; have HBX2 := Aside0.mk hbx2; have hcell0 := blk_cell hbx2 0; clear hb ho3 hbx2))
    clear hcell0
    go_loopg [3, 9] l0.length (fun gg v3 v9 w' => ∃ (i : Nat) (x9 : Int), v9 = .int .i64 x9 ∧ Aside0 (x9 = (i : Int)) ∧ i ≤ l0.length ∧ l0.length - i ≤ gg ∧ Aside0 (Kd.R (Kd.int .i64) 3 w' w.heap.size (fun k_ => k_ ≠ gb) v3 (impl_firsts.ints (impl_firsts.outs l0 i))) ∧ Aside0 (w'.heap[gb]? = some (.cells #[.slice (some ad) l0.length c0] 25 (0, 0))) ∧ Aside0 (Below w.heap.size w w'))
    case atStart => exact ⟨0, 0, rfl, ⟨rfl⟩, Nat.zero_le _, by omega, ⟨HO.out⟩, HBX2, HB2⟩
    case round =>
      clear HO HBX2 HB2 HBX HB1
      obtain ⟨i, x9, rfl, HX9, hi, hgk, HO, HBX, HB⟩ := hrel
      by_cases hlt : i < l0.length
      · have p171 : 0 ≤ x9 := by have := HX9.out; omega
        have q171 : x9 < (l0.length : Int) := by have := HX9.out; omega
        obtain ⟨ad1, ead1, hx0⟩ := Kd.at_int (Kd.C_below HR.out HB.out) x9 p171 q171
        obtain rfl : ad = ad1 := (by injection ead1)
        obtain ⟨x, hx⟩ : ∃ x, x = rd l0 x9 := ⟨_, rfl⟩
        rw [← hx] at hx0
        have hcb := blk_cell HBX.out 0
        obtain ⟨y, hy⟩ : ∃ y, y = l0.take i := ⟨_, rfl⟩
        have hyl : y.length = x9.toNat := by rw [hy, List.length_take]; have := HX9.out; omega
        have hcut := cut_to (P := Try.prog) 25 3 .i64 Try.underlying25 HI0.out (some ad) l0.length c0 x9 p171 (by omega) HC.out
        rw [← hyl] at hcut
        have HYL := Aside0.mk (show y.length ≤ c0 from by have h1 := HC.out; rw [hyl]; omega)
        have HYM := Aside0.mk (show ∀ z ∈ y, 0 ≤ z ∧ z ≤ 1000 from fun z hz => HM.out z (by rw [hy] at hz; exact List.mem_of_mem_take hz))
        have HXM := Aside0.mk (show 0 ≤ x ∧ x ≤ 1000 from by rw [hx, HX9.out]; exact HM.out _ (impl_firsts.rd_in l0 i hlt))
        have HCY := Aside0.mk (show ∀ W, Below w.heap.size w W → Kd.C (Kd.int .i64) W (some ad) y.length y from fun W hW => by rw [hy]; exact Kd.C_take (Kd.C_below HR.out hW) (by omega))
        have HOL := Aside0.mk (show (impl_firsts.ints (impl_firsts.outs l0 i)).length ≤ 1000 from by
          have h1 : (impl_firsts.outs l0 i).length ≤ (List.range i).length := List.length_filter_le _ _
          rw [List.length_range] at h1
          unfold impl_firsts.ints
          rw [List.length_map]
          have := HL.out.2; omega)
        have hany : y.any (impl_firsts.near x) = !(impl_firsts.free l0 i) := by rw [hy, hx, HX9.out]; unfold impl_firsts.free; rw [Bool.not_not]
        have HOS := Aside0.mk (impl_firsts.outs_succ l0 i)
        have hlt1000 := HL.out.2
        replace p171 := eq_true p171
        replace q171 := eq_true q171
        by_cases hf : impl_firsts.free l0 i = true
        · rw [hf] at hany
          have HANY := Aside0.mk hany
          have HF := Aside0.mk hf
          clear hy hyl hx hany hf
          go_wp2_with (first | ((with_reducible refine gate_dst (N := 5) rfl ?_); refine box_event ?hg (N := 5) ?hd (cs := #[.int .i64 0]) (t := 3) ?hr ?_; (case hd => rfl); (case hg => rfl); (case hr => first | (go_simp; done) | (go_simp; rfl)); intro gr hg w5 hbox hb_; have hb := below_step (w := wr) (by repeat (first | exact Below.refl _ _ | apply below_alloc | apply pw_below_drewN | apply below_drew1)) hb_; have HRB := Aside0.mk hbox; have hfr := blk_frozen hbox 0; have hrb0 : w5.cell? ⟨gr, 0, none⟩ = some (.int .i64 0) := blk_cell hbox 0; have HRL := Aside0.mk (show gb < gr ∧ w.heap.size ≤ gr from by have h1_ := blk_lt HBX.out; have h2_ := HB.out.size; have h3_ : gr = wr.heap.size := hg; omega); have HO5 := Aside0.mk (Kd.R_below (Kd.R_mono (Kd.R_bound HO.out) (fun k_ h_ => (show k_ ≠ gb ∧ k_ < gr from ⟨h_.1, by have h3_ : gr = wr.heap.size := hg; have h4_ := h_.2.2.1; omega⟩))) hb); have HBX5 := Aside0.mk (blk_below HBX.out hb); have HB5 := Aside0.mk (below_step HB.out hb); clear hbox hb hb_ hg) | ((with_reducible refine gate_store (t := 3) (p := 5) rfl ?_); refine store_event (t := 3) (p := 5) (v := ?vo) (w1 := (w5.setCell ⟨gr, 0, none⟩ (.int .i64 x))) ?hg ?ho ?hn ?hr ?_; (case ho => rfl); (case hg => rfl); (case hn => rfl); (case hr => first | (go_simp; done) | (go_simp; rfl)); intro w8 hw; have hb8 : w8.heap[gb]? = some (.cells #[.slice (some ad) l0.length c0] 25 (0, 0)) := (by rw [hw]; exact blk_far HBX5.out (by have := HRL.out; show gb ≠ gr; omega) _); have hcb8 : w8.cell? ⟨gb, 0, none⟩ = some (.slice (some ad) l0.length c0) := blk_cell hb8 0; have HBX8 := Aside0.mk hb8; have HRC := Aside0.mk (show w8.cell? ⟨gr, 0, none⟩ = some (.int .i64 x) from by rw [hw]; exact blk_cell (blk_put HRB.out 0 _ rfl) 0); have HO8 := Aside0.mk (show Kd.R (Kd.int .i64) 3 w8 w.heap.size (fun k_ => k_ ≠ gb) u3 (impl_firsts.ints (impl_firsts.outs l0 i)) from by rw [hw]; exact Kd.R_mono (Kd.R_far (p := ⟨gr, 0, none⟩) HO5.out (fun k_ h_ => by show k_ ≠ gr; omega) _) (fun _ h_ => h_.1)); have HB8 := Aside0.mk (show Below w.heap.size w w8 from by rw [hw]; exact below_set HB5.out HRL.out.2); clear hw hb8) | (go_at_call 106; (with_reducible refine (impl_firsts.contains (some ad) c0 y x gr false _ ?side1 ?side2 ?side3 ?side4 ?side5).mono ?_); (case side1 => exact (show Kd.C (Kd.int .i64) _ (some ad) y.length y from by have h_ := HCY.out w8 HB8.out; exact h_)); (case side2 => exact HYL.out); (case side3 => exact fun z_ q_ hz_ => impl_firsts.clos z_ x gr _ hz_ HXM.out HRC.out); (case side4 => exact HYM.out); (case side5 => exact HANY.out); rintro e w' ⟨rfl, ⟨nd, rfl⟩⟩) | ((with_reducible refine gate_builtin (b := .append) (xs := #[.tmp 20, .tmp 22]) rfl ?_); at_builtin; refine Kd.R_append (Kd.int .i64) (w0 := w) w.heap.size rfl (.tmp 20) (.tmp 22) 25 3 (.int .i64 0) 8 rfl Try.underlying25 info3 rfl (by decide) (by omega) u3 (impl_firsts.ints (impl_firsts.outs l0 i)) x9 [.int .i64 x9] (fun k_ => k_ ≠ gb) (fun _ => False) rfl rfl ?aP (fun _ hk => hk.elim) ?aF ?aO ?aB ?aS ?aL ?_; (case aP => exact rfl); (case aB => exact (by repeat (first | exact HB8.out | apply below_alloc | apply pw_below_drewN | apply below_drew1))); (case aF => exact (fun k_ h_ => by have h1_ := blk_lt HBX8.out; show k_ ≠ gb; have h2_ : w8.heap.size ≤ k_ := h_; omega)); (case aO => exact (by (with_reducible repeat (first | apply Kd.R_alloc | apply Kd.R_drewN | apply Kd.R_drew)); exact HO8.out)); (case aS => exact (show w.heap.size ≤ w8.heap.size from HB8.out.size)); (case aL => have := HOL.out; omega); intro v25 w11 ho hb hg hat; have HO9 := Aside0.mk ho; have HB9 := Aside0.mk hb; have HBX9 := Aside0.mk (blk_grown (w := w8) HBX8.out (row := u3.ownBlock) ⟨hg.os, hg.tape, hg.output, hg.size, hg.block⟩ (fun h_ => (HO8.out.1 gb h_.symm) rfl)); clear ho hb hg hat))
          go_roundg (l0.length - (i + 1))
          case measure => omega
          case rel => exact ⟨i + 1, wrap64 (x9 + 1), (by first | rfl | (simp; done)), ⟨by have := HX9.out; unfold wrap64; omega⟩, by omega, by omega, ⟨by rw [HOS.out, if_pos HF.out]; have h_ := HO9.out; unfold impl_firsts.ints at h_ ⊢; rw [List.map_append]; rw [HX9.out] at h_; exact h_⟩, HBX9, HB9⟩
        · have hf0 := Bool.eq_false_iff.2 hf
          rw [hf0] at hany
          have HANY := Aside0.mk hany
          have HF := Aside0.mk hf
          clear hy hyl hx hany hf hf0
          go_wp2_with (first | ((with_reducible refine gate_dst (N := 5) rfl ?_); refine box_event ?hg (N := 5) ?hd (cs := #[.int .i64 0]) (t := 3) ?hr ?_; (case hd => rfl); (case hg => rfl); (case hr => first | (go_simp; done) | (go_simp; rfl)); intro gr hg w5 hbox hb_; have hb := below_step (w := wr) (by repeat (first | exact Below.refl _ _ | apply below_alloc | apply pw_below_drewN | apply below_drew1)) hb_; have HRB := Aside0.mk hbox; have hfr := blk_frozen hbox 0; have hrb0 : w5.cell? ⟨gr, 0, none⟩ = some (.int .i64 0) := blk_cell hbox 0; have HRL := Aside0.mk (show gb < gr ∧ w.heap.size ≤ gr from by have h1_ := blk_lt HBX.out; have h2_ := HB.out.size; have h3_ : gr = wr.heap.size := hg; omega); have HO5 := Aside0.mk (Kd.R_below (Kd.R_mono (Kd.R_bound HO.out) (fun k_ h_ => (show k_ ≠ gb ∧ k_ < gr from ⟨h_.1, by have h3_ : gr = wr.heap.size := hg; have h4_ := h_.2.2.1; omega⟩))) hb); have HBX5 := Aside0.mk (blk_below HBX.out hb); have HB5 := Aside0.mk (below_step HB.out hb); clear hbox hb hb_ hg) | ((with_reducible refine gate_store (t := 3) (p := 5) rfl ?_); refine store_event (t := 3) (p := 5) (v := ?vo) (w1 := (w5.setCell ⟨gr, 0, none⟩ (.int .i64 x))) ?hg ?ho ?hn ?hr ?_; (case ho => rfl); (case hg => rfl); (case hn => rfl); (case hr => first | (go_simp; done) | (go_simp; rfl)); intro w8 hw; have hb8 : w8.heap[gb]? = some (.cells #[.slice (some ad) l0.length c0] 25 (0, 0)) := (by rw [hw]; exact blk_far HBX5.out (by have := HRL.out; show gb ≠ gr; omega) _); have hcb8 : w8.cell? ⟨gb, 0, none⟩ = some (.slice (some ad) l0.length c0) := blk_cell hb8 0; have HBX8 := Aside0.mk hb8; have HRC := Aside0.mk (show w8.cell? ⟨gr, 0, none⟩ = some (.int .i64 x) from by rw [hw]; exact blk_cell (blk_put HRB.out 0 _ rfl) 0); have HO8 := Aside0.mk (show Kd.R (Kd.int .i64) 3 w8 w.heap.size (fun k_ => k_ ≠ gb) u3 (impl_firsts.ints (impl_firsts.outs l0 i)) from by rw [hw]; exact Kd.R_mono (Kd.R_far (p := ⟨gr, 0, none⟩) HO5.out (fun k_ h_ => by show k_ ≠ gr; omega) _) (fun _ h_ => h_.1)); have HB8 := Aside0.mk (show Below w.heap.size w w8 from by rw [hw]; exact below_set HB5.out HRL.out.2); clear hw hb8) | (go_at_call 106; (with_reducible refine (impl_firsts.contains (some ad) c0 y x gr true _ ?side1 ?side2 ?side3 ?side4 ?side5).mono ?_); (case side1 => exact (show Kd.C (Kd.int .i64) _ (some ad) y.length y from by have h_ := HCY.out w8 HB8.out; exact h_)); (case side2 => exact HYL.out); (case side3 => exact fun z_ q_ hz_ => impl_firsts.clos z_ x gr _ hz_ HXM.out HRC.out); (case side4 => exact HYM.out); (case side5 => exact HANY.out); rintro e w' ⟨rfl, ⟨nd, rfl⟩⟩))
          go_roundg (l0.length - (i + 1))
          case measure => omega
          case rel => exact ⟨i + 1, wrap64 (x9 + 1), (by first | rfl | (simp; done)), ⟨by have := HX9.out; unfold wrap64; omega⟩, by omega, by omega, ⟨by rw [HOS.out, if_neg HF.out]; exact (by (with_reducible repeat (first | apply Kd.R_alloc | apply Kd.R_drewN | apply Kd.R_drew)); exact HO8.out)⟩, ⟨by (with_reducible repeat (first | refine blk_drewN ?_ _ | refine blk_drew ?_ | refine blk_alloc ?_ _)); exact HBX8.out⟩, ⟨(by repeat (first | exact HB8.out | apply below_alloc | apply pw_below_drewN | apply below_drew1))⟩⟩
      · have hi2 : i = l0.length := by omega
        have q171 : ¬ x9 < (l0.length : Int) := by have := HX9.out; omega
        have q172 : decide (x9 < (l0.length : Int)) = false := decide_eq_false q171
        rw [hi2] at HO
        have hpos := HL.out.1
        have hae := impl_firsts.arr_enc l0 hpos
        have hne : 0 < (impl_firsts.ints (impl_firsts.outs l0 l0.length)).length := by
          have h0 : 0 ∈ impl_firsts.outs l0 l0.length := List.mem_filter.2 ⟨List.mem_range.2 hpos, by unfold impl_firsts.free; rw [List.take_zero]; rfl⟩
          unfold impl_firsts.ints
          rw [List.length_map]
          exact List.length_pos_of_mem h0
        have hsz : (impl_firsts.arr l0).size = (impl_firsts.ints (impl_firsts.outs l0 l0.length)).length := by
          have := congrArg List.length hae
          simpa using this
        have hsz12 : (impl_firsts.arr l0).size ≤ 12 := by rw [hsz]; unfold impl_firsts.ints; rw [List.length_map]; exact H12.out
        rcases impl_firsts.own HO.out with ⟨_, e⟩ | ⟨g, cap, cur, eu, hgb, hgP, hgh, hgn, hgm, hgs, hgt⟩
        · rw [e] at hne; simp at hne
        · subst eu
          rw [← hsz] at hgn hgt ⊢
          have hH : Sort.Holds (impl_firsts.enc (m := l0.length - 1 + 1)) wr g 0 (impl_firsts.arr l0) := by
            intro j hj
            refine ⟨?_, blk_frozen hgh _⟩
            rw [Nat.zero_add, blk_cell hgh j]
            have h1 : (cur.toList.take (impl_firsts.arr l0).size)[j]? = ((impl_firsts.arr l0).toList.map (impl_firsts.enc))[j]? := by rw [hgt, hae]
            rw [List.getElem?_take, if_pos hj, Array.getElem?_toList] at h1
            rw [h1, List.getElem?_map, Array.getElem?_toList, Array.getElem?_eq_getElem hj, getElem!_pos _ j hj]
            rfl
          have hcmp : CmpReads Try.prog 124 #[.pointer (some ⟨gb, 0, none⟩)] (impl_firsts.enc (m := l0.length - 1 + 1)) (impl_firsts.cf l0) g 0 (impl_firsts.arr l0).size wr := by
            intro m os dk hdk x y
            have hgw : w.heap.size ≤ g := hgb
            have hgbg : gb ≠ g := fun e_ => hgP e_.symm
            have hwh : ∀ k, k < w.heap.size → (sortWorld (impl_firsts.enc (m := l0.length - 1 + 1)) wr g 0 m dk os).heap[k]? = w.heap[k]? := fun k hk => (impl_firsts.sw_heap wr g m dk os k (by omega) (Nat.lt_of_lt_of_le hk HB.out.size)).trans (HB.out.block k hk)
            have hcb : (sortWorld (impl_firsts.enc (m := l0.length - 1 + 1)) wr g 0 m dk os).cell? ⟨gb, 0, none⟩ = some (.slice (some ad) l0.length c0) := (World.cell?_of_block (impl_firsts.sw_heap wr g m dk os gb hgbg (blk_lt HBX.out))).trans (blk_cell HBX.out 0)
            have hq := impl_firsts.cmp l0 HM.out x.val y.val (by have := x.isLt; omega) (by have := y.isLt; omega) gb (some ad) c0 _ hcb ((Kd.heap_int .i64).C hwh HR.out)
            refine Calls.mono hq ?_
            rintro e w' ⟨rfl, ⟨q, rfl⟩⟩
            exact ⟨rfl, q, rfl⟩
          have eg : ∀ args w, (callFunc 124 args).run Try.prog w = .ok (.enter 124 args) w := enters_of Try.func124 (by kernel_rfl) rfl
          have hsort := Any.slices_SortFunc_small Try.laysSort (impl_firsts.enc (m := l0.length - 1 + 1)) (fun _ => rfl) (impl_firsts.cf l0) 124 #[.pointer (some ⟨gb, 0, none⟩)] g 0 cap (impl_firsts.arr l0) wr eg hcmp hH hsz12 impl_firsts.hlen
          change Calls Try.prog 123 _ _ _ at hsort
          have hperm := (Sort.insertionSort_holds (impl_firsts.swo l0) (impl_firsts.arr l0) 0 (impl_firsts.arr l0).size (Nat.zero_le _) (Nat.le_refl _)).1
          have hss : (impl_firsts.sorted l0).size = (impl_firsts.arr l0).size := hperm.1
          have HSORT := Aside0.mk hsort
          have HGG := Aside0.mk (show w.heap.size ≤ g ∧ wr.heap[g]? = some (.cells cur 3 (0, 0)) ∧ (impl_firsts.arr l0).size ≤ cap ∧ cap ≤ maxLen ∧ cur.size = cap from ⟨hgb, hgh, hgn, hgm, hgs⟩)
          have HSS := Aside0.mk hss
          have hcb := blk_cell HBX.out 0
          clear hsort hperm hss eg hcmp hH hgb hgP hgh hgn hgm hgs hgt hae hne hsz hsz12 HO hpos
          go_wp2_with (go_at_call 123; (refine HSORT.out.mono ?_); rintro e w9 ⟨rfl, nn, rfl⟩)
          go_ret
          refine ⟨_, rfl, ?_, ?_⟩
          · refine Kd.R_mono (impl_firsts.fin g (Sort.putCells (impl_firsts.enc (m := l0.length - 1 + 1)) 0 (impl_firsts.sorted l0) cur) _ w.heap.size (impl_firsts.arr l0).size cap (fun _ => True) _ ?_ ?_ ?_ HGG.out.2.2.1 HGG.out.2.2.2.1 HGG.out.1 trivial ?_) (fun _ _ => trivial)
            · show (Sort.putRow _ wr g 0 _).heap[g]? = _
              simp only [Sort.putRow, Sort.mapBlock, Array.getElem?_modify, if_true]
              rw [HGG.out.2.1]; rfl
            · show (Sort.putCells _ 0 _ cur).size = cap
              simp only [Sort.putCells, Array.size_mapIdx]
              exact HGG.out.2.2.2.2
            · rw [List.length_map, Array.length_toList]; exact HSS.out
            · rw [← HSS.out, impl_firsts.put_take (impl_firsts.sorted l0) cur (by rw [HSS.out, HGG.out.2.2.2.2]; exact HGG.out.2.2.1), List.map_map]; rfl
          · refine pw_below_drewN ?_ _
            refine ⟨HB.out.os, HB.out.tape, HB.out.output, ?_, fun k hk => ?_⟩
            · show w.heap.size ≤ (Sort.putRow _ wr g 0 _).heap.size
              simp only [Sort.putRow, Sort.mapBlock, Array.size_modify]
              exact HB.out.size
            · show (Sort.putRow _ wr g 0 _).heap[k]? = _
              have h1 := HGG.out.1
              simp only [Sort.putRow, Sort.mapBlock, Array.getElem?_modify, if_neg (show ¬ g = k by omega)]
              exact HB.out.block k hk
  · cases h

end
end Go.Proofs.Ytnddmmjofpfmfaa.PSc
