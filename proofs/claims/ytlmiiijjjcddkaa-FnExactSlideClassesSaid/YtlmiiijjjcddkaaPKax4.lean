-- Written for this claim by a program of this session (myprint.py) over the kit's printer.
import Derived.Test.YtlmiiijjjcddkaaPKax0
import Derived.Test.YtlmiiijjjcddkaaPKax2
import Derived.Test.YtlmiiijjjcddkaaPKax3
namespace Go.Proofs.Ytlmiiijjjcddkaa.PKa
noncomputable section
open Go.RowKit Go.Proofs.YtlmiiijjjcddkaaW.PrintWords Go.Proofs.YtlmiiijjjcddkaaW.PrintLast Go.Proofs.YtlmiiijjjcddkaaW.PrintMore
attribute [local go_sem] max2_int min2_int max_two min_two max_three min_three max_four min_four   -- for this text's walks alone
open List (setIfInBounds_toArray set_cons_zero set_cons_succ)
set_option maxHeartbeats 8000000
set_option maxRecDepth 100000
set_option linter.unusedVariables false
set_option linter.unusedSimpArgs false
theorem pRq4 {α : Type} {d : Kd α} {e base : Nat} {ok : Nat → Prop} {v : Value} {xs : List α} {w W : World} (h0 : Aside0 (Kd.R d e w base ok v xs)) (hp : Kd.R d e W base ok v xs := by (with_reducible repeat (first | apply Kd.R_alloc | apply Kd.R_drewN | apply Kd.R_drew)); exact Aside0.out (by with_reducible assumption)) : Kd.R d e W base ok v xs := hp
theorem pKq4 {g : Nat} {o : Obj} {w W : World} (h0 : Aside0 (w.heap[g]? = some o)) (hp : W.heap[g]? = some o := by (with_reducible repeat (first | refine blk_drewN ?_ _ | refine blk_drew ?_ | refine blk_alloc ?_ _)); exact Aside0.out (by with_reducible assumption)) : W.heap[g]? = some o := hp
theorem pBq4 {b : Nat} {w0 w W : World} (h0 : Aside0 (Below b w0 w)) (hp : Below b w0 W := by repeat (first | (with_reducible first | exact Aside0.out (by assumption) | apply below_alloc | apply pw_below_drewN | apply below_drew1 | refine below_set ?_ (Aside0.out (by assumption))))) : Below b w0 W := hp
/-! ### impl_firsts: function 42 -/
/-- Are two rungs so near that they can't be exchanged? -/
def impl_firsts.near (r : Int) (x : Int) : Bool := !(decide (2 ≤ x - r) || decide (2 ≤ r - x))
def impl_firsts.idx (p : Int → Bool) (l : List Int) : Int := if l.any p then ((l.findIdx p : Nat) : Int) else -1
theorem impl_firsts.idx_hit (p : Int → Bool) (l : List Int) (i : Nat) (hi : i < l.length) (hp : p (rd l i) = true) (hb : ∀ j, j < i → p (rd l j) = false) : impl_firsts.idx p l = (i : Int) := by
 have hg : ∀ j : Nat, ∀ h : j < l.length, rd l j = l[j] := fun j h => by
  show l.getD ((j : Int)).toNat 0 = _
  rw [Int.toNat_natCast, List.getD_eq_getElem?_getD, List.getElem?_eq_getElem h]; rfl
 have h1 : l.any p = true := List.any_eq_true.2 ⟨rd l i, by rw [hg i hi]; exact List.getElem_mem hi, hp⟩
 unfold impl_firsts.idx
 rw [if_pos h1]
 congr 1
 refine (List.findIdx_eq hi).2 ⟨by rw [← hg i hi]; exact hp, fun j hj => ?_⟩
 have := hb j hj
 rw [hg j zq11] at this
 simpa using this
theorem impl_firsts.idx_miss (p : Int → Bool) (l : List Int) (hb : ∀ j, j < l.length → p (rd l j) = false) : impl_firsts.idx p l = -1 := by
 have h1 : ¬ l.any p = true := fun h => by
  obtain ⟨x, hx, hp⟩ := List.any_eq_true.1 h
  obtain ⟨j, hj, rfl⟩ := List.getElem_of_mem hx
  have h2 := hb j hj
  have hg : rd l j = l[j] := by
   show l.getD ((j : Int)).toNat 0 = _
   rw [Int.toNat_natCast, List.getD_eq_getElem?_getD, List.getElem?_eq_getElem hj]; rfl
  rw [hg, hp] at h2
  cases h2
 unfold impl_firsts.idx
 rw [if_neg h1]
theorem impl_firsts.idx_any (p : Int → Bool) (l : List Int) : decide (0 ≤ impl_firsts.idx p l) = l.any p := by
 unfold impl_firsts.idx
 cases h : l.any p
 ·simp
 ·simp [Int.natCast_nonneg]
set_option maxHeartbeats 1000000 in
theorem impl_firsts.apart (a b : Int) (w : World) (ha : 0 ≤ a ∧ a ≤ 1000) (hb : 0 ≤ b ∧ b ≤ 1000) :
  Calls Try.prog 56 #[.int .i64 a, .int .i64 b] w fun e w' => e = .returned (.bool (decide (2 ≤ a - b) || decide (2 ≤ b - a))) ∧ Drawn0 w w' := by
 have h1 : wrap64 (a - b) = a - b := by unfold wrap64; omega
 have h2 : wrap64 (b - a) = b - a := by unfold wrap64; omega
 by_cases c : 2 ≤ a - b
 ·have c0 : decide (2 ≤ a - b) = true := decide_eq_true c
  have c1 : decide (a - b ≥ 2) = true := decide_eq_true c
  clear c ha hb
  go_enter Try.func56, Try.ntmps56
  go_wp2
  go_ret
  exact ⟨by simp [c0], zq4⟩
 ·have c0 : decide (2 ≤ a - b) = false := decide_eq_false c
  have c1 : decide (a - b ≥ 2) = false := decide_eq_false c
  clear c ha hb
  go_enter Try.func56, Try.ntmps56
  go_wp2
  go_ret
  exact ⟨by simp [c0], zq4⟩
set_option maxHeartbeats 1000000 in
/-- The first closure: is the rung near the one that was caught? -/
theorem impl_firsts.clos (x r : Int) (g : Nat) (w : World) (hx : 0 ≤ x ∧ x ≤ 1000) (hr : 0 ≤ r ∧ r ≤ 1000) (hc : w.cell? ⟨g, 0, none⟩ = some (.int .i64 r)) :
  Calls Try.prog 55 #[.int .i64 x, .pointer (some ⟨g, 0, none⟩)] w fun e w' => e = .returned (.bool (impl_firsts.near r x)) ∧ Drawn0 w w' := by
 have HX := am hx
 have HR := am hr
 clear hx hr
 go_enter Try.func55, Try.ntmps55
 go_wp2_with (go_at_call 56; (with_reducible refine (impl_firsts.apart x r _ HX.out HR.out).mono ?_); rintro e w' ⟨rfl, ⟨nd, rfl⟩⟩)
 go_ret
 exact ⟨by simp [impl_firsts.near], zq4⟩
theorem impl_firsts.rd_in (l : List Int) (k : Nat) (h : k < l.length) : rd l (k : Int) ∈ l := by
 have : rd l (k : Int) = l[k] := by
  show l.getD ((k : Int)).toNat 0 = _
  rw [Int.toNat_natCast, List.getD_eq_getElem?_getD, List.getElem?_eq_getElem h]; rfl
 rw [this]; exact List.getElem_mem h
def impl_firsts.Gives (n : Int) (g : Nat) (w : World) : Prop := ∀ (x : Int) (q : Nat), 0 ≤ x ∧ x ≤ 1000 → Calls Try.prog 55 #[.int .i64 x, .pointer (some ⟨g, 0, none⟩)] (w.drewN q) fun e w' => e = .returned (.bool (impl_firsts.near n x)) ∧ Drawn0 (w.drewN q) w'
set_option maxHeartbeats 1000000 in
set_option maxRecDepth 100000 in
theorem impl_firsts.index (A0 : Option Addr) (c0 : Nat) (l0 : List Int) (n : Int) (g : Nat) (w : World) (hr0 : Kd.C (Kd.int .i64) w A0 l0.length l0) (hc0 : l0.length ≤ c0) (hG : impl_firsts.Gives n g w) (hs : ∀ x ∈ l0, 0 ≤ x ∧ x ≤ 1000) :
  Calls Try.prog 65 #[.slice A0 l0.length c0, .func (.func 55) #[] #[.pointer (some ⟨g, 0, none⟩)]] w fun e w' => e = .returned (.int .i64 (impl_firsts.idx (impl_firsts.near n) l0)) ∧ Drawn0 w w' := by
 have HR0 := am hr0
 have HG := am hG
 have HN : l0.length ≤ 9223372036854775807 := hr0.2.1
 have HS := am hs
 clear hr0 hc0 hG hs
 go_enter Try.func65, Try.ntmps65
 go_wp2
 go_loopg [5, 8] l0.length (fun gg _ s8 wr => ∃ kk q : Nat, kk ≤ l0.length ∧ l0.length - kk ≤ gg ∧ s8 = .int .i64 kk ∧ wr = w.drewN q ∧ Aside0 (∀ j : Nat, j < kk → impl_firsts.near n (rd l0 (j : Int)) = false))
 case atStart => exact ⟨0, 0, Nat.zero_le _, zq11, rfl, rfl, ⟨fun j hj => absurd hj (Nat.not_lt_zero _)⟩⟩
 case round =>
  obtain ⟨kk, q, hkk, hg, rfl, rfl, A⟩ := hrel
  by_cases hlt : kk < l0.length
  ·have hltz : (kk : Int) < (l0.length : Int) := zq11
   obtain ⟨ad1, e1, hx0⟩ := Kd.at_int HR0.out (kk : Int) (Int.natCast_nonneg kk) hltz
   cases e1
   have hx : w.cell? (ad1.add kk) = some (.int .i64 (rd l0 (kk : Int))) := by rw [Int.toNat_natCast] at hx0; exact hx0
   clear hx0
   cases hq : impl_firsts.near n (rd l0 (kk : Int)) with
   | true =>
    have hcall := fun q => HG.out (rd l0 (kk : Int)) q (HS.out _ (impl_firsts.rd_in l0 kk hlt))
    rw [hq] at hcall
    have HC := am hcall
    have HQ := am hq
    clear hcall hq
    go_wp2_with (go_at_call 55; refine (HC.out _).mono ?_; rintro e w' ⟨rfl, ⟨q', rfl⟩⟩)
    go_ret
    refine ⟨?_, zq4⟩
    rw [impl_firsts.idx_hit _ l0 kk hlt HQ.out A.out]; rfl
   | false =>
    have hcall := fun q => HG.out (rd l0 (kk : Int)) q (HS.out _ (impl_firsts.rd_in l0 kk hlt))
    rw [hq] at hcall
    have HC := am hcall
    have HQ := am hq
    clear hcall hq
    go_wp2_with (go_at_call 55; refine (HC.out _).mono ?_; rintro e w' ⟨rfl, ⟨q', rfl⟩⟩)
    go_roundg (l0.length - (kk + 1))
    case measure => omega
    case rel =>
     refine ⟨kk + 1, _, zq11, zq11, by go_num, rfl, ⟨fun j hj => ?_⟩⟩
     by_cases e : j = kk
     ·subst e; exact HQ.out
     ·exact A.out j zq11
  ·have hltz : ¬ (kk : Int) < (l0.length : Int) := zq11
   have hk : kk = l0.length := zq11
   subst hk
   go_wp2
   go_ret
   refine ⟨?_, zq4⟩
   rw [impl_firsts.idx_miss _ l0 A.out]; rfl
set_option maxHeartbeats 1000000 in
theorem impl_firsts.contains (A0 : Option Addr) (c0 : Nat) (l0 : List Int) (n : Int) (g : Nat) (r : Bool) (w : World) (hr0 : Kd.C (Kd.int .i64) w A0 l0.length l0) (hc0 : l0.length ≤ c0) (hG : impl_firsts.Gives n g w) (hs : ∀ x ∈ l0, 0 ≤ x ∧ x ≤ 1000) (h : l0.any (impl_firsts.near n) = r) :
  Calls Try.prog 54 #[.slice A0 l0.length c0, .func (.func 55) #[] #[.pointer (some ⟨g, 0, none⟩)]] w fun e w' => e = .returned (.bool r) ∧ Drawn0 w w' := by
 have HI := am (impl_firsts.index A0 c0 l0 n g w hr0 hc0 hG hs)
 have HA := am (impl_firsts.idx_any (impl_firsts.near n) l0)
 have HH := am h
 clear hr0 hG h hs
 go_enter Try.func54, Try.ntmps54
 go_wp2_with (go_at_call 65; (with_reducible refine HI.out.mono ?_); rintro e w' ⟨rfl, ⟨nd, rfl⟩⟩)
 go_ret
 exact ⟨by rw [HA.out, HH.out]; rfl, zq4⟩
/-- Is the rung at place i brought to the top by slides? -/
def impl_firsts.free (l : List Int) (i : Nat) : Bool := !((l.take i).any (impl_firsts.near (rd l (i : Int))))
def impl_firsts.outs (l : List Int) (i : Nat) : List Nat := (List.range i).filter (impl_firsts.free l)
def impl_firsts.small (l : List Int) : Bool := l.all fun x => decide (0 ≤ x) && decide (x ≤ 1000)
theorem impl_firsts.small_mem {l : List Int} (h : impl_firsts.small l = true) : ∀ x ∈ l, 0 ≤ x ∧ x ≤ 1000 := fun x hx => by
 have := List.all_eq_true.1 h x hx
 simpa using this
/-- The places, as they are handed to the sort. -/
abbrev impl_firsts.Pl (l : List Int) := Fin (l.length - 1 + 1)
def impl_firsts.enc {m : Nat} (x : Fin m) : Value := .int .i64 (x.val : Int)
def impl_firsts.cf (l : List Int) (x y : impl_firsts.Pl l) : Int := rd l (x.val : Int) - rd l (y.val : Int)
def impl_firsts.arr (l : List Int) : Array (impl_firsts.Pl l) := ((impl_firsts.outs l l.length).map fun i => Fin.ofNat (l.length - 1 + 1) i).toArray
def impl_firsts.sorted (l : List Int) : Array (impl_firsts.Pl l) := Sort.insertionSort (ltOf (impl_firsts.cf l)) (impl_firsts.arr l) 0 (impl_firsts.arr l).size
def impl_firsts.f (l0 : List Int) : Option (List Int) := if 0 < l0.length ∧ l0.length ≤ 1000 ∧ impl_firsts.small l0 = true ∧ (impl_firsts.outs l0 l0.length).length ≤ 12 then some ((impl_firsts.sorted l0).toList.map fun x => (x.val : Int)) else none
set_option maxHeartbeats 2000000 in
/-- The second closure: the difference of two rungs. -/
theorem impl_firsts.cmp (l : List Int) (hs : ∀ x ∈ l, 0 ≤ x ∧ x ≤ 1000) (x y : Nat) (hx : x < l.length) (hy : y < l.length) (g : Nat) (A : Option Addr) (c : Nat) (w : World) (hcell : w.cell? ⟨g, 0, none⟩ = some (.slice A l.length c)) (hr : Kd.C (Kd.int .i64) w A l.length l) :
  Calls Try.prog 58 #[.int .i64 (x : Int), .int .i64 (y : Int), .pointer (some ⟨g, 0, none⟩)] w fun e w' => e = .returned (.int .i64 (rd l (x : Int) - rd l (y : Int))) ∧ Drawn0 w w' := by
 have h1 := hs _ (impl_firsts.rd_in l x hx)
 have h2 := hs _ (impl_firsts.rd_in l y hy)
 have hw : wrap64 (rd l (x : Int) - rd l (y : Int)) = rd l (x : Int) - rd l (y : Int) := by unfold wrap64; omega
 obtain ⟨xi, hxi⟩ : ∃ xi : Int, xi = (x : Int) := ⟨_, rfl⟩
 obtain ⟨yi, hyi⟩ : ∃ yi : Int, yi = (y : Int) := ⟨_, rfl⟩
 rw [← hxi, ← hyi] at hw ⊢
 have p171 : 0 ≤ xi := zq11
 have q171 : xi < (l.length : Int) := zq11
 have p172 : 0 ≤ yi := zq11
 have q172 : yi < (l.length : Int) := zq11
 obtain ⟨ad, ead, hx0⟩ := Kd.at_int hr xi p171 q171
 cases ead
 obtain ⟨ad2, ead2, hy0⟩ := Kd.at_int hr yi p172 q172
 obtain rfl : ad = ad2 := (by injection ead2)
 obtain ⟨u, hu⟩ : ∃ u, u = rd l xi := ⟨_, rfl⟩
 obtain ⟨v, hv⟩ : ∃ v, v = rd l yi := ⟨_, rfl⟩
 rw [← hu] at hx0 hw ⊢
 rw [← hv] at hy0 hw ⊢
 have hwi : (IntKind.i64.wrap (u - v)) = u - v := (i64_w _).trans hw
 clear hu hv ead2 hr h1 h2 hxi hyi hx hy hs
 replace p171 := eq_true p171
 replace q171 := eq_true q171
 replace p172 := eq_true p172
 replace q172 := eq_true q172
 go_enter Try.func58, Try.ntmps58
 go_wp2
 repeat (go_quiet (fail); try go_wp2)
 go_ret
 exact ⟨zq2, zq4⟩
theorem impl_firsts.encs_map (l : List Int) : encs (Value.int .i64) l = l.map (Value.int .i64) := by simp [encs]
theorem impl_firsts.fin (g : Nat) (c : Array Value) (W : World) (base n' cap : Nat) (P' : Nat → Prop) (r : List Int) (hh : W.heap[g]? = some (.cells c 3 (0, 0))) (hc : c.size = cap) (hr : r.length = n') (hn : n' ≤ cap) (hcm : cap ≤ maxLen) (hb : base ≤ g) (hP : P' g) (ht : c.toList.take n' = r.map (Value.int .i64)) : Kd.R (Kd.int .i64) 3 W base P' (.slice (some ⟨g, 0, none⟩) n' cap) r := by
 subst hr
 refine Kd.R_of_own (enc := Value.int .i64) (h1 := fun _ => rfl) ?_ (fun k hk => ?_)
 ·refine ⟨by rw [encs_length, Nat.mul_one], .inr ⟨g, cap, c, rfl, hb, hh, hn, hcm, zq11, ?_⟩⟩
  rw [Nat.mul_one, ht, impl_firsts.encs_map]
 ·simp only [Value.ownBlock] at hk
  obtain rfl : g = k := by simpa using hk
  exact hP
theorem impl_firsts.own {w : World} {base : Nat} {P' : Nat → Prop} {v : Value} {l : List Int} (h : Kd.R (Kd.int .i64) 3 w base P' v l) : (v = .slice none 0 0 ∧ l = []) ∨ ∃ g cap cur, v = .slice (some ⟨g, 0, none⟩) l.length cap ∧ base ≤ g ∧ P' g ∧ w.heap[g]? = some (.cells cur 3 (0, 0)) ∧ l.length ≤ cap ∧ cap ≤ maxLen ∧ cur.size = cap ∧ cur.toList.take l.length = l.map (Value.int .i64) := by
 rcases (Kd.own_of_R (enc := Value.int .i64) (h1 := fun _ => rfl) h).2 with ⟨hv, hn⟩ | ⟨g, cap, cur, hv, hb, hh, hnc, hcm, hcs, ht⟩
 ·exact .inl ⟨by rw [hv], List.eq_nil_of_length_eq_zero hn⟩
 ·refine .inr ⟨g, cap, cur, hv, hb, h.1 g (by rw [hv]; simp [Value.ownBlock]), hh, hnc, hcm, zq11, ?_⟩
  rw [Nat.mul_one, impl_firsts.encs_map] at ht
  exact ht
def impl_firsts.ints (l : List Nat) : List Int := l.map fun i : Nat => ((i : Nat) : Int)
theorem impl_firsts.outs_succ (l : List Int) (i : Nat) : impl_firsts.outs l (i + 1) = if impl_firsts.free l i = true then impl_firsts.outs l i ++ [i] else impl_firsts.outs l i := by
 unfold impl_firsts.outs
 rw [List.range_succ, List.filter_append]
 by_cases h : impl_firsts.free l i = true
 ·rw [if_pos h, List.filter_cons, if_pos h]; rfl
 ·rw [if_neg h, List.filter_cons, if_neg h]; simp
theorem impl_firsts.hlen (n : Nat) (W : World) (h : n ≤ 12) : Calls Try.prog (Try.laysSort_ren.f 15) #[.int .u64 n] W fun e w' => (∃ l : Int, e = .returned (.int .i64 l)) ∧ w' = W :=
 (Any.bits_Len Try.laysLen n W zq11 zq11).mono fun _ _ ⟨he, hw⟩ => ⟨⟨_, he⟩, hw⟩
theorem impl_firsts.sw_heap {m : Nat} (w : World) (blk n : Nat) (dk : Array (Fin (m + 1))) (os : Array Obj) (k : Nat) (h1 : k ≠ blk) (h2 : k < w.heap.size) : (sortWorld (impl_firsts.enc (m := m + 1)) w blk 0 n dk os).heap[k]? = w.heap[k]? := by
 unfold sortWorld
 have hs : (Sort.putRow (impl_firsts.enc (m := m + 1)) (Sort.ahead w n) blk 0 dk).heap.size = w.heap.size := by simp [Sort.putRow, Sort.mapBlock, Sort.ahead]
 rw [Sort.heap_grow_old _ _ (by rw [hs]; exact h2)]
 simp only [Sort.putRow, Sort.mapBlock, Sort.ahead, Array.getElem?_modify, if_neg (Ne.symm h1)]
theorem impl_firsts.swo (l : List Int) : Sort.SWO (ltOf (impl_firsts.cf l)) where
 irrefl := fun x => by simp [ltOf, impl_firsts.cf]
 trans := fun x y z h1 h2 => by
  have h1' := of_decide_eq_true h1
  have h2' := of_decide_eq_true h2
  refine decide_eq_true ?_
  unfold impl_firsts.cf at *
  omega
 ntrans := fun x y z h1 h2 => by
  have h1' := of_decide_eq_false h1
  have h2' := of_decide_eq_false h2
  refine decide_eq_false ?_
  unfold impl_firsts.cf at *
  omega
theorem impl_firsts.arr_enc (l : List Int) (h : 0 < l.length) : (impl_firsts.arr l).toList.map (impl_firsts.enc) = (impl_firsts.ints (impl_firsts.outs l l.length)).map (Value.int .i64) := by
 unfold impl_firsts.arr impl_firsts.ints
 simp only [List.map_map]
 refine List.map_congr_left fun i hi => ?_
 have h1 : i < l.length := by
  have := (List.mem_filter.1 hi).1
  exact List.mem_range.1 this
 have h2 : (Fin.ofNat (l.length - 1 + 1) i).val = i := by
  show i % (l.length - 1 + 1) = i
  exact Nat.mod_eq_of_lt zq11
 show Value.int .i64 ((Fin.ofNat (l.length - 1 + 1) i).val : Int) = Value.int .i64 ((i : Nat) : Int)
 rw [h2]
theorem impl_firsts.put_take {m : Nat} (d : Array (Fin (m + 1))) (cur : Array Value) (h : d.size ≤ cur.size) : (Sort.putCells (impl_firsts.enc (m := m + 1)) 0 d cur).toList.take d.size = d.toList.map (impl_firsts.enc) := by
 apply List.ext_getElem?
 intro j
 rw [List.getElem?_take]
 by_cases hj : j < d.size
 ·rw [if_pos hj, Array.getElem?_toList]
  simp only [Sort.putCells, Array.getElem?_mapIdx, List.getElem?_map, Array.getElem?_toList]
  rw [Array.getElem?_eq_getElem (show j < cur.size by omega), Array.getElem?_eq_getElem hj]
  simp only [Option.map_some]
  rw [if_pos ⟨Nat.zero_le _, zq11⟩, Nat.sub_zero, getElem!_pos d j hj]
 ·rw [if_neg hj, List.getElem?_map, List.getElem?_eq_none (by rw [Array.length_toList]; omega)]
  rfl
theorem impl_firsts.calls (A0 : Option Addr) (c0 : Nat) (l0 : List Int) (r : List Int) (w : World) (hr0 : Kd.C (Kd.int .i64) w A0 l0.length l0) (hc0 : l0.length ≤ c0) (h : impl_firsts.f l0 = some r) :
  Calls Try.prog 42 #[.slice A0 l0.length c0] w fun e w' => ∃ v0_ : Value, e = .returned (v0_) ∧ Kd.R (Kd.int .i64) 3 w' w.heap.size (fun _ => True) v0_ r ∧ Below w.heap.size w w' := by
 unfold impl_firsts.f at h
 split at h
 ·rename_i hcond
  obtain ⟨hpos, h1000, hsm, h12⟩ := hcond
  obtain rfl := Option.some.inj h
  have hmem := impl_firsts.small_mem hsm
  obtain ⟨ad, ead, _⟩ := Kd.at_int hr0 0 zq34 zq11
  subst ead
  obtain ⟨i0, hi0, _, hsz0, _⟩ := info_parts info3
  have HI0 := am hi0
  have HR := am hr0
  have HC := am hc0
  have HM := am hmem
  have HL := am (And.intro hpos h1000)
  have H12 := am h12
  clear hr0 hc0 hmem hpos h1000 h12 h hsm hi0 hsz0
  go_enter Try.func42, Try.ntmps42
  go_wp2_with (first | ((with_reducible refine gate_dst (N := 1) rfl ?_); refine zE 1 (cs := #[.slice (some ad) l0.length c0]) 22 ?_; intro gb hg w1 hbox hb; have HBX := am hbox; have HB1 := am hb; have HG := am hg; clear hbox hb hg) | ((with_reducible refine gate_dst (N := 6) rfl ?_); refine Kd.R_lit (Kd.int .i64) _ 3 ?hg (N := 6) ?hd (xs := ([] : List Int)) (inner := []) (ok := fun _ => True) (okp := fun _ => True) ?hr ?hp (fun _ hk => hk) trivial (Below.refl _ _) (Nat.le_refl _) zq25 ?_; (case hd => rfl); (case hg => rfl); (case hr => exact zq10); (case hp => exact (Reps.none _ _)); intro v6 w2 ho3 hb_ hg_ hnew_; have hb := below_step (w := w1) zq22 hb_; clear hg_ hnew_ hb_; have HO := am (Kd.R_lower (Kd.R_mono (Kd.R_bound ho3) (fun k_ h_ => (show k_ ≠ gb from fun e_ => by have h1_ := blk_lt HBX.out; have h2_ := h_.2.1; exact absurd (Nat.lt_of_lt_of_le h1_ h2_) (by rw [e_]; exact Nat.lt_irrefl gb)))) (show w.heap.size ≤ _ from HB1.out.size)); have HB2 := am (below_step HB1.out hb); have hbx2 := blk_below HBX.out hb; have HBX2 := am hbx2; have hcell0 := blk_cell hbx2 0; clear hb ho3 hbx2))
  clear hcell0
  go_loopg [3, 9] l0.length (fun gg v3 v9 w' => ∃ (i : Nat) (x9 : Int), v9 = .int .i64 x9 ∧ Aside0 (x9 = (i : Int)) ∧ i ≤ l0.length ∧ l0.length - i ≤ gg ∧ Aside0 (Kd.R (Kd.int .i64) 3 w' w.heap.size (fun k_ => k_ ≠ gb) v3 (impl_firsts.ints (impl_firsts.outs l0 i))) ∧ Aside0 (w'.heap[gb]? = some (.cells #[.slice (some ad) l0.length c0] 22 (0, 0))) ∧ Aside0 (Below w.heap.size w w'))
  case atStart => exact ⟨0, 0, rfl, ⟨rfl⟩, Nat.zero_le _, zq11, ⟨HO.out⟩, HBX2, HB2⟩
  case round =>
   clear HO HBX2 HB2 HBX HB1
   obtain ⟨i, x9, rfl, HX9, hi, hgk, HO, HBX, HB⟩ := hrel
   by_cases hlt : i < l0.length
   ·have p171 : 0 ≤ x9 := by have := HX9.out; omega
    have q171 : x9 < (l0.length : Int) := by have := HX9.out; omega
    obtain ⟨ad1, ead1, hx0⟩ := Kd.at_int (Kd.C_below HR.out HB.out) x9 p171 q171
    obtain rfl : ad = ad1 := (by injection ead1)
    obtain ⟨x, hx⟩ : ∃ x, x = rd l0 x9 := ⟨_, rfl⟩
    rw [← hx] at hx0
    have hcb := blk_cell HBX.out 0
    obtain ⟨y, hy⟩ : ∃ y, y = l0.take i := ⟨_, rfl⟩
    have hyl : y.length = x9.toNat := by rw [hy, List.length_take]; have := HX9.out; omega
    have hcut := cut_to (P := Try.prog) 22 3 .i64 Try.underlying22 HI0.out (some ad) l0.length c0 x9 p171 zq11 HC.out
    rw [← hyl] at hcut
    have HYL := am (show y.length ≤ c0 from by have h1 := HC.out; rw [hyl]; omega)
    have HYM := am (show ∀ z ∈ y, 0 ≤ z ∧ z ≤ 1000 from fun z hz => HM.out z (by rw [hy] at hz; exact List.mem_of_mem_take hz))
    have HXM := am (show 0 ≤ x ∧ x ≤ 1000 from by rw [hx, HX9.out]; exact HM.out _ (impl_firsts.rd_in l0 i hlt))
    have HCY := am (show ∀ W, Below w.heap.size w W → Kd.C (Kd.int .i64) W (some ad) y.length y from fun W hW => by rw [hy]; exact Kd.C_take (Kd.C_below HR.out hW) zq11)
    have HOL := am (show (impl_firsts.ints (impl_firsts.outs l0 i)).length ≤ 1000 from by
     have h1 : (impl_firsts.outs l0 i).length ≤ (List.range i).length := List.length_filter_le _ _
     rw [List.length_range] at h1
     unfold impl_firsts.ints
     rw [List.length_map]
     have := HL.out.2; omega)
    have hany : y.any (impl_firsts.near x) = !(impl_firsts.free l0 i) := by rw [hy, hx, HX9.out]; unfold impl_firsts.free; rw [Bool.not_not]
    have HOS := am (impl_firsts.outs_succ l0 i)
    have hlt1000 := HL.out.2
    replace p171 := eq_true p171
    replace q171 := eq_true q171
    by_cases hf : impl_firsts.free l0 i = true
    ·rw [hf] at hany
     have HANY := am hany
     have HF := am hf
     clear hy hyl hx hany hf
     go_wp2_with (first | ((with_reducible refine gate_dst (N := 5) rfl ?_); refine zE 5 (cs := #[.int .i64 0]) 3 ?_; intro gr hg w5 hbox hb_; have hb := below_step (w := wr) zq22 hb_; have HRB := am hbox; have hfr := blk_frozen hbox 0; have hrb0 : w5.cell? ⟨gr, 0, none⟩ = some (.int .i64 0) := blk_cell hbox 0; have HRL := am (show gb < gr ∧ w.heap.size ≤ gr from by have h1_ := blk_lt HBX.out; have h2_ := HB.out.size; have h3_ : gr = wr.heap.size := hg; omega); have HO5 := am (Kd.R_below (Kd.R_mono (Kd.R_bound HO.out) (fun k_ h_ => (show k_ ≠ gb ∧ k_ < gr from ⟨h_.1, by have h3_ : gr = wr.heap.size := hg; have h4_ := h_.2.2.1; omega⟩))) hb); have HBX5 := am (blk_below HBX.out hb); have HB5 := am (below_step HB.out hb); clear hbox hb hb_ hg) | ((with_reducible refine gate_store (t := 3) (p := 5) rfl ?_); refine store_event (t := 3) (p := 5) (v := ?vo) (w1 := (w5.setCell ⟨gr, 0, none⟩ (.int .i64 x))) ?hg ?ho ?hn ?hr ?_; (case ho => rfl); (case hg => rfl); (case hn => rfl); (case hr => exact zq10); intro w8 hw; have hb8 : w8.heap[gb]? = some (.cells #[.slice (some ad) l0.length c0] 22 (0, 0)) := (by rw [hw]; exact blk_far HBX5.out (by have := HRL.out; show gb ≠ gr; omega) _); have hcb8 : w8.cell? ⟨gb, 0, none⟩ = some (.slice (some ad) l0.length c0) := blk_cell hb8 0; have HBX8 := am hb8; have HRC := am (show w8.cell? ⟨gr, 0, none⟩ = some (.int .i64 x) from by rw [hw]; exact blk_cell (blk_put HRB.out 0 _ rfl) 0); have HO8 := am (show Kd.R (Kd.int .i64) 3 w8 w.heap.size (fun k_ => k_ ≠ gb) u3 (impl_firsts.ints (impl_firsts.outs l0 i)) from zq92); have HB8 := am (show Below w.heap.size w w8 from by rw [hw]; exact below_set HB5.out HRL.out.2); clear hw hb8) | (go_at_call 54; (with_reducible refine (impl_firsts.contains (some ad) c0 y x gr false _ ?side1 ?side2 ?side3 ?side4 ?side5).mono ?_); (case side1 => exact (show Kd.C (Kd.int .i64) _ (some ad) y.length y from by have h_ := HCY.out w8 HB8.out; exact h_)); (case side2 => exact HYL.out); (case side3 => exact fun z_ q_ hz_ => impl_firsts.clos z_ x gr _ hz_ HXM.out HRC.out); (case side4 => exact HYM.out); (case side5 => exact HANY.out); rintro e w' ⟨rfl, ⟨nd, rfl⟩⟩) | ((with_reducible refine gate_builtin (b := .append) (xs := #[.tmp 20, .tmp 22]) rfl ?_); at_builtin; refine Kd.R_append (Kd.int .i64) (w0 := w) w.heap.size rfl (.tmp 20) (.tmp 22) 22 3 (.int .i64 0) 8 rfl Try.underlying22 info3 rfl zq34 zq11 u3 (impl_firsts.ints (impl_firsts.outs l0 i)) x9 [.int .i64 x9] (fun k_ => k_ ≠ gb) (fun _ => False) rfl rfl ?aP (fun _ hk => hk.elim) ?aF ?aO ?aB ?aS ?aL ?_; (case aP => exact rfl); (case aB => exact (by repeat (first | exact HB8.out | apply below_alloc | apply pw_below_drewN | apply below_drew1))); (case aF => exact (fun k_ h_ => by have h1_ := blk_lt HBX8.out; show k_ ≠ gb; have h2_ : w8.heap.size ≤ k_ := h_; omega)); (case aO => exact (pRq4 HO8)); (case aS => exact (show w.heap.size ≤ w8.heap.size from HB8.out.size)); (case aL => have := HOL.out; omega); intro v25 w11 ho hb hg hat; have HO9 := am ho; have HB9 := am hb; have HBX9 := am (blk_grown (w := w8) HBX8.out (row := u3.ownBlock) ⟨hg.os, hg.tape, hg.output, hg.size, hg.block⟩ (fun h_ => (HO8.out.1 gb h_.symm) rfl)); clear ho hb hg hat))
     go_roundg (l0.length - (i + 1))
     case measure => omega
     case rel => exact ⟨i + 1, wrap64 (x9 + 1), zq91, ⟨by have := HX9.out; unfold wrap64; omega⟩, zq11, zq11, ⟨by rw [HOS.out, if_pos HF.out]; have h_ := HO9.out; unfold impl_firsts.ints at h_ ⊢; rw [List.map_append]; rw [HX9.out] at h_; exact h_⟩, HBX9, HB9⟩
    ·have hf0 := Bool.eq_false_iff.2 hf
     rw [hf0] at hany
     have HANY := am hany
     have HF := am hf
     clear hy hyl hx hany hf hf0
     go_wp2_with (first | ((with_reducible refine gate_dst (N := 5) rfl ?_); refine zE 5 (cs := #[.int .i64 0]) 3 ?_; intro gr hg w5 hbox hb_; have hb := below_step (w := wr) zq22 hb_; have HRB := am hbox; have hfr := blk_frozen hbox 0; have hrb0 : w5.cell? ⟨gr, 0, none⟩ = some (.int .i64 0) := blk_cell hbox 0; have HRL := am (show gb < gr ∧ w.heap.size ≤ gr from by have h1_ := blk_lt HBX.out; have h2_ := HB.out.size; have h3_ : gr = wr.heap.size := hg; omega); have HO5 := am (Kd.R_below (Kd.R_mono (Kd.R_bound HO.out) (fun k_ h_ => (show k_ ≠ gb ∧ k_ < gr from ⟨h_.1, by have h3_ : gr = wr.heap.size := hg; have h4_ := h_.2.2.1; omega⟩))) hb); have HBX5 := am (blk_below HBX.out hb); have HB5 := am (below_step HB.out hb); clear hbox hb hb_ hg) | ((with_reducible refine gate_store (t := 3) (p := 5) rfl ?_); refine store_event (t := 3) (p := 5) (v := ?vo) (w1 := (w5.setCell ⟨gr, 0, none⟩ (.int .i64 x))) ?hg ?ho ?hn ?hr ?_; (case ho => rfl); (case hg => rfl); (case hn => rfl); (case hr => exact zq10); intro w8 hw; have hb8 : w8.heap[gb]? = some (.cells #[.slice (some ad) l0.length c0] 22 (0, 0)) := (by rw [hw]; exact blk_far HBX5.out (by have := HRL.out; show gb ≠ gr; omega) _); have hcb8 : w8.cell? ⟨gb, 0, none⟩ = some (.slice (some ad) l0.length c0) := blk_cell hb8 0; have HBX8 := am hb8; have HRC := am (show w8.cell? ⟨gr, 0, none⟩ = some (.int .i64 x) from by rw [hw]; exact blk_cell (blk_put HRB.out 0 _ rfl) 0); have HO8 := am (show Kd.R (Kd.int .i64) 3 w8 w.heap.size (fun k_ => k_ ≠ gb) u3 (impl_firsts.ints (impl_firsts.outs l0 i)) from zq92); have HB8 := am (show Below w.heap.size w w8 from by rw [hw]; exact below_set HB5.out HRL.out.2); clear hw hb8) | (go_at_call 54; (with_reducible refine (impl_firsts.contains (some ad) c0 y x gr true _ ?side1 ?side2 ?side3 ?side4 ?side5).mono ?_); (case side1 => exact (show Kd.C (Kd.int .i64) _ (some ad) y.length y from by have h_ := HCY.out w8 HB8.out; exact h_)); (case side2 => exact HYL.out); (case side3 => exact fun z_ q_ hz_ => impl_firsts.clos z_ x gr _ hz_ HXM.out HRC.out); (case side4 => exact HYM.out); (case side5 => exact HANY.out); rintro e w' ⟨rfl, ⟨nd, rfl⟩⟩))
     go_roundg (l0.length - (i + 1))
     case measure => omega
     case rel => exact ⟨i + 1, wrap64 (x9 + 1), zq91, ⟨by have := HX9.out; unfold wrap64; omega⟩, zq11, zq11, ⟨by rw [HOS.out, if_neg HF.out]; exact (pRq4 HO8)⟩, ⟨by (with_reducible repeat (first | refine blk_drewN ?_ _ | refine blk_drew ?_ | refine blk_alloc ?_ _)); exact HBX8.out⟩, ⟨(by repeat (first | exact HB8.out | apply below_alloc | apply pw_below_drewN | apply below_drew1))⟩⟩
   ·have hi2 : i = l0.length := zq11
    have q171 : ¬ x9 < (l0.length : Int) := by have := HX9.out; omega
    have q172 : decide (x9 < (l0.length : Int)) = false := decide_eq_false q171
    rw [hi2] at HO
    have hpos := HL.out.1
    have hae := impl_firsts.arr_enc l0 hpos
    have hne : 0 < (impl_firsts.ints (impl_firsts.outs l0 l0.length)).length := by
     have h0 : 0 ∈ impl_firsts.outs l0 l0.length := List.mem_filter.2 ⟨List.mem_range.2 hpos, by unfold impl_firsts.free; rw [List.take_zero]; rfl⟩
     unfold impl_firsts.ints
     rw [List.length_map]
     exact List.length_pos_of_mem h0
    have hsz : (impl_firsts.arr l0).size = (impl_firsts.ints (impl_firsts.outs l0 l0.length)).length := by
     have := congrArg List.length hae
     simpa using this
    have hsz12 : (impl_firsts.arr l0).size ≤ 12 := by rw [hsz]; unfold impl_firsts.ints; rw [List.length_map]; exact H12.out
    rcases impl_firsts.own HO.out with ⟨_, e⟩ | ⟨g, cap, cur, eu, hgb, hgP, hgh, hgn, hgm, hgs, hgt⟩
    ·rw [e] at hne; simp at hne
    ·subst eu
     rw [← hsz] at hgn hgt ⊢
     have hH : Sort.Holds (impl_firsts.enc (m := l0.length - 1 + 1)) wr g 0 (impl_firsts.arr l0) := by
      intro j hj
      refine ⟨?_, blk_frozen hgh _⟩
      rw [Nat.zero_add, blk_cell hgh j]
      have h1 : (cur.toList.take (impl_firsts.arr l0).size)[j]? = ((impl_firsts.arr l0).toList.map (impl_firsts.enc))[j]? := by rw [hgt, hae]
      rw [List.getElem?_take, if_pos hj, Array.getElem?_toList] at h1
      rw [h1, List.getElem?_map, Array.getElem?_toList, Array.getElem?_eq_getElem hj, getElem!_pos _ j hj]
      rfl
     have hcmp : CmpReads Try.prog 58 #[.pointer (some ⟨gb, 0, none⟩)] (impl_firsts.enc (m := l0.length - 1 + 1)) (impl_firsts.cf l0) g 0 (impl_firsts.arr l0).size wr := by
      intro m os dk hdk x y
      have hgw : w.heap.size ≤ g := hgb
      have hgbg : gb ≠ g := fun e_ => hgP e_.symm
      have hwh : ∀ k, k < w.heap.size → (sortWorld (impl_firsts.enc (m := l0.length - 1 + 1)) wr g 0 m dk os).heap[k]? = w.heap[k]? := fun k hk => (impl_firsts.sw_heap wr g m dk os k zq11 (Nat.lt_of_lt_of_le hk HB.out.size)).trans (HB.out.block k hk)
      have hcb : (sortWorld (impl_firsts.enc (m := l0.length - 1 + 1)) wr g 0 m dk os).cell? ⟨gb, 0, none⟩ = some (.slice (some ad) l0.length c0) := (World.cell?_of_block (impl_firsts.sw_heap wr g m dk os gb hgbg (blk_lt HBX.out))).trans (blk_cell HBX.out 0)
      have hq := impl_firsts.cmp l0 HM.out x.val y.val (by have := x.isLt; omega) (by have := y.isLt; omega) gb (some ad) c0 _ hcb ((Kd.heap_int .i64).C hwh HR.out)
      refine Calls.mono hq ?_
      rintro e w' ⟨rfl, ⟨q, rfl⟩⟩
      exact ⟨rfl, q, rfl⟩
     have eg : ∀ args w, (callFunc 58 args).run Try.prog w = .ok (.enter 58 args) w := enters_of Try.func58 zq24 rfl
     have hsort := Any.slices_SortFunc_small Try.laysSort (impl_firsts.enc (m := l0.length - 1 + 1)) (fun _ => rfl) (impl_firsts.cf l0) 58 #[.pointer (some ⟨gb, 0, none⟩)] g 0 cap (impl_firsts.arr l0) wr eg hcmp hH hsz12 impl_firsts.hlen
     change Calls Try.prog 57 _ _ _ at hsort
     have hperm := (Sort.insertionSort_holds (impl_firsts.swo l0) (impl_firsts.arr l0) 0 (impl_firsts.arr l0).size (Nat.zero_le _) (Nat.le_refl _)).1
     have hss : (impl_firsts.sorted l0).size = (impl_firsts.arr l0).size := hperm.1
     have HSORT := am hsort
     have HGG := am (show w.heap.size ≤ g ∧ wr.heap[g]? = some (.cells cur 3 (0, 0)) ∧ (impl_firsts.arr l0).size ≤ cap ∧ cap ≤ maxLen ∧ cur.size = cap from ⟨hgb, hgh, hgn, hgm, hgs⟩)
     have HSS := am hss
     have hcb := blk_cell HBX.out 0
     clear hsort hperm hss eg hcmp hH hgb hgP hgh hgn hgm hgs hgt hae hne hsz hsz12 HO hpos
     go_wp2_with (go_at_call 57; (refine HSORT.out.mono ?_); rintro e w9 ⟨rfl, nn, rfl⟩)
     go_ret
     refine ⟨_, rfl, ?_, ?_⟩
     ·refine Kd.R_mono (impl_firsts.fin g (Sort.putCells (impl_firsts.enc (m := l0.length - 1 + 1)) 0 (impl_firsts.sorted l0) cur) _ w.heap.size (impl_firsts.arr l0).size cap (fun _ => True) _ ?_ ?_ ?_ HGG.out.2.2.1 HGG.out.2.2.2.1 HGG.out.1 trivial ?_) (fun _ _ => trivial)
      ·show (Sort.putRow _ wr g 0 _).heap[g]? = _
       simp only [Sort.putRow, Sort.mapBlock, Array.getElem?_modify, if_true]
       rw [HGG.out.2.1]; rfl
      ·show (Sort.putCells _ 0 _ cur).size = cap
       simp only [Sort.putCells, Array.size_mapIdx]
       exact HGG.out.2.2.2.2
      ·rw [List.length_map, Array.length_toList]; exact HSS.out
      ·rw [← HSS.out, impl_firsts.put_take (impl_firsts.sorted l0) cur (by rw [HSS.out, HGG.out.2.2.2.2]; exact HGG.out.2.2.1), List.map_map]; rfl
     ·refine pw_below_drewN ?_ _
      refine ⟨HB.out.os, HB.out.tape, HB.out.output, ?_, fun k hk => ?_⟩
      ·show w.heap.size ≤ (Sort.putRow _ wr g 0 _).heap.size
       simp only [Sort.putRow, Sort.mapBlock, Array.size_modify]
       exact HB.out.size
      ·show (Sort.putRow _ wr g 0 _).heap[k]? = _
       have h1 := HGG.out.1
       simp only [Sort.putRow, Sort.mapBlock, Array.getElem?_modify, if_neg (show ¬ g = k by omega)]
       exact HB.out.block k hk
 ·cases h
/-! ### slices_Delete_int_int: function 59 -/
def slices_Delete_int_int.f (l0 : List Int) (a1 : Int) (a2 : Int) : Option (List Int) := if 0 ≤ a1 then (if a1 ≤ a2 then (if a2 ≤ (l0.length : Int) then (some (l0.take a1.toNat ++ l0.drop a2.toNat)) else (none)) else (none)) else (none)
/-- Two stretches of a block written, one behind the other. -/
theorem slices_Delete_int_int.two {g cap : Nat} {cur : Array Value} {e : TypeId} {w0 W : World} {base i n' : Nat} {news zs : List Value} (hh : W.heap[g]? = some (.cells cur e (0, 0))) (hcs : cur.size = cap) (hi : i + news.length = n') (hn : n' + zs.length ≤ cap) (hb : base ≤ g) (hB : Below base w0 W) :
  ∃ cur', ((W.setCells g i news).setCells g n' zs).heap[g]? = some (.cells cur' e (0, 0)) ∧ cur'.size = cap ∧ cur'.toList.take n' = cur.toList.take i ++ news ∧ Below base w0 ((W.setCells g i news).setCells g n' zs) ∧ ∀ k, k ≠ g → ((W.setCells g i news).setCells g n' zs).heap[k]? = W.heap[k]? := by
 obtain ⟨c1, h1, h2, h3⟩ := setCells_row news i W cur hh zq11
 obtain ⟨c2, h4, h5, h6⟩ := setCells_row zs n' _ c1 h1 zq11
 obtain ⟨s1, s2, s3, s4⟩ := setCells_same g news i W
 obtain ⟨t1, t2, t3, t4⟩ := setCells_same g zs n' (W.setCells g i news)
 have hfar : ∀ k, k ≠ g → ((W.setCells g i news).setCells g n' zs).heap[k]? = W.heap[k]? := fun k hk => (setCells_far zs _ k hk).trans (setCells_far news _ k hk)
 refine ⟨c2, h4, zq11, ?_, ⟨by rw [t1, s1]; exact hB.os, by rw [t2, s2]; exact hB.tape, by rw [t3, s3]; exact hB.output, by rw [t4, s4]; exact hB.size, fun k hk => (hfar k zq11).trans (hB.block k hk)⟩, hfar⟩
 have hc1 : c1.toList.take n' = cur.toList.take i ++ news := by
  rw [h3]
  exact List.take_left' (by rw [List.length_append, List.length_take, Array.length_toList]; omega)
 rw [h6, List.append_assoc, List.take_append_of_le_length (by rw [List.length_take, Array.length_toList]; omega), List.take_take, Nat.min_self, hc1]
set_option maxHeartbeats 4000000 in
set_option maxRecDepth 100000 in
theorem slices_Delete_int_int.calls (P0_ : Nat → Prop) (u9000_ : Value) (l0 : List Int) (a1 : Int) (a2 : Int) (r : List Int) (w0 w : World) (hB : Below w0.heap.size w0 w) (ho0 : Kd.R (Kd.int .i64) 3 w w0.heap.size P0_ u9000_ l0) (h : slices_Delete_int_int.f l0 a1 a2 = some r) :
  Calls Try.prog 59 #[u9000_, .int .i64 a1, .int .i64 a2] w fun e w' => ∃ v0_ : Value, e = .returned (v0_) ∧ Kd.R (Kd.int .i64) 3 w' w0.heap.size (fun k_ => (P0_ k_ ∨ w.heap.size ≤ k_)) v0_ r ∧ Below w0.heap.size w0 w' ∧ Kept w w' (fun k_ => P0_ k_) := by
 unfold slices_Delete_int_int.f at h
 by_cases h1 : 0 ≤ a1
 ·rw [if_pos h1] at h
  by_cases h2 : a1 ≤ a2
  ·rw [if_pos h2] at h
   by_cases h3 : a2 ≤ (l0.length : Int)
   ·rw [if_pos h3] at h
    obtain rfl := Option.some.inj h
    clear h
    obtain ⟨i, rfl⟩ := Int.eq_ofNat_of_zero_le h1
    obtain ⟨j, rfl⟩ := Int.eq_ofNat_of_zero_le (Int.le_trans h1 h2)
    simp only [Int.toNat_natCast]
    have hij : i ≤ j := zq11
    have hj : j ≤ l0.length := zq11
    clear h1 h2 h3
    have HO := am ho0
    have HB := am hB
    have hown := Kd.own_of_R (enc := Value.int .i64) (h1 := fun _ => rfl) ho0
    obtain ⟨A, n, hv⟩ := own_slice hown
    by_cases heq : i = j
    ·subst heq
     have hr : l0.take i ++ l0.drop i = l0 := List.take_append_drop i l0
     rw [hr]
     obtain ⟨hlen, hcap, _⟩ : l0.length = l0.length ∧ l0.length ≤ n ∧ True := by
      have := Kd.R_reads' (hv ▸ ho0)
      exact ⟨rfl, this.2.1, trivial⟩
     have hm : n ≤ 9223372036854775807 := by
      rcases hown.2 with ⟨hv', hn⟩ | ⟨g, cap, cur, hv', hb, hh, hnc, hcm, hcs, ht⟩
      ·rw [hv'] at hv; injection hv with _ _ hc; omega
      ·rw [hv'] at hv; injection hv with _ _ hc; simp only [maxLen] at hcm; omega
     have HV := am hv
     have h0 : Calls Try.prog 59 #[.slice A l0.length n, .int .i64 i, .int .i64 i] w fun e w' => e = .returned (.slice A l0.length n) ∧ w' = w := by
      clear hv hown ho0 hB HO HB HV hr hlen
      go_enter Try.func59, Try.ntmps59
      go_wp2
      all_goals (go_ret; exact ⟨rfl, rfl⟩)
     rw [HV.out]
     refine h0.mono ?_
     rintro e w' ⟨rfl, rfl⟩
     exact ⟨_, rfl, Kd.R_mono (HV.out ▸ HO.out) (fun k hk => .inl hk), HB.out, Kept.refl _ _⟩
    ·have hlt : i < j := zq11
     rcases hown.2 with ⟨hv', hn⟩ | ⟨g, cap, cur, hv', hb, hh, hnc, hcm, hcs, ht⟩
     ·exact absurd hn zq11
     ·subst hv'
      clear hv
      rw [Nat.mul_one] at hcs ht
      simp only [maxLen] at hcm
      obtain ⟨news, hnews⟩ : ∃ news, news = (l0.drop j).map (Value.int .i64) := ⟨_, rfl⟩
      have hlen : news.length = l0.length - j := by rw [hnews]; simp
      have hcur : ∀ q, q < l0.length → cur[q]? = some (.int .i64 (l0.getD q 0)) := by
       intro q hq
       have e1 : cur.toList[q]? = (encs (Value.int .i64) l0)[q]? := by rw [← ht, List.getElem?_take, if_pos hq]
       rw [← Array.getElem?_toList, e1, encs_get (d := (0 : Int)) l0 q hq]
      have hcell : ∀ q, q < l0.length → w.cell? ⟨g, q, none⟩ = some (.int .i64 (l0.getD q 0)) := fun q hq => by rw [cell_of_row w g q cur 3 (0, 0) hh]; exact hcur q hq
      obtain ⟨AA, hAA, hsrc⟩ : ∃ AA : Addr, (if cap = j then some (⟨g, 0, none⟩ : Addr) else some ⟨g, j, none⟩) = some AA ∧ Aside0 (∀ t u, news[t]? = some u → w.drew.cell? (AA.add t) = some u) := by
       by_cases hcj : cap = j
       ·refine ⟨⟨g, 0, none⟩, by simp [hcj], ⟨fun t u hu => ?_⟩⟩
        have h0 : news.length = 0 := by rw [hlen]; omega
        rw [List.length_eq_zero_iff.1 h0] at hu
        simp at hu
       ·refine ⟨⟨g, j, none⟩, by simp [hcj], ⟨fun t u hu => ?_⟩⟩
        have ht' : t < l0.length - j := by
         have := (List.getElem?_eq_some_iff.1 hu).1
         rwa [hlen] at this
        rw [hnews, List.getElem?_map, List.getElem?_drop, List.getElem?_eq_getElem zq11] at hu
        simp only [Option.map_some, Option.some.injEq] at hu
        rw [add_at]
        show w.cell? ⟨g, j + t, none⟩ = some u
        rw [hcell (j + t) zq11, ← hu, List.getD_eq_getElem?_getD, List.getElem?_eq_getElem zq11]
        rfl
      have s1 : Aside0 (news.length = (l0.length - j) * 1) := ⟨by rw [Nat.mul_one]; exact hlen⟩
      have s2 : Aside0 (∀ u ∈ news, u.oneCell' = true) := ⟨by
       intro u hu
       rw [hnews] at hu
       obtain ⟨x, _, rfl⟩ := List.mem_map.1 hu
       rfl⟩
      have s3 : Aside0 (∀ t, t < news.length → (w.drew.cell? ⟨g, 0 + i * 1 + t, none⟩).isSome = true ∧ w.drew.frozen? ⟨g, 0 + i * 1 + t, none⟩ = false) := ⟨by
       intro t ht'
       rw [hlen] at ht'
       rw [Nat.mul_one, Nat.zero_add]
       refine ⟨?_, ?_⟩
       ·show (w.cell? ⟨g, i + t, none⟩).isSome = true
        rw [hcell (i + t) zq11]; rfl
       ·show w.frozen? ⟨g, i + t, none⟩ = false
        exact blk_frozen hh _⟩
      obtain ⟨n', hn'⟩ : ∃ n', n' = i + (l0.length - j) := ⟨_, rfl⟩
      obtain ⟨cur', k1, k2, k3, k4, k5⟩ := slices_Delete_int_int.two (W := w.drew) (w0 := w0) (base := w0.heap.size) (zs := List.replicate (j - i) (Value.int .i64 0)) (news := news) (i := i) (n' := n') hh hcs zq11 (by rw [List.length_replicate]; omega) hb (below_drew1 hB)
      have hel : (l0.take i ++ l0.drop j).length = n' := by simp; omega
      have hRR : Kd.R (Kd.int .i64) 3 ((w.drew.setCells g i news).setCells g n' (List.replicate (j - i) (Value.int .i64 0))) w0.heap.size (fun k_ => (P0_ k_ ∨ w.heap.size ≤ k_)) (.slice (some ⟨g, 0, none⟩) n' cap) (l0.take i ++ l0.drop j) := by
       refine Kd.R_of_own (enc := Value.int .i64) (h1 := fun _ => rfl) ?_ (fun k hk => .inl (ho0.1 k (by rw [← hk]; simp [Value.ownBlock])))
       rw [hel]
       refine ⟨by rw [encs_length, hel, Nat.mul_one], .inr ⟨g, cap, cur', rfl, hb, k1, zq11, by simp only [maxLen]; omega, zq11, ?_⟩⟩
       rw [Nat.mul_one, k3, hnews]
       have e2 : cur.toList.take i = (encs (Value.int .i64) l0).take i := by
        rw [← ht, List.take_take, Nat.min_eq_left zq11]
       rw [e2]
       simp [encs]
      have HRR := am hRR
      have HK4 := am k4
      have HKept : Aside0 (Kept w ((w.drew.setCells g i news).setCells g n' (List.replicate (j - i) (Value.int .i64 0))) (fun k_ => P0_ k_)) := by
       obtain ⟨_, _, _, t4⟩ := setCells_same g (List.replicate (j - i) (Value.int .i64 0)) n' (w.drew.setCells g i news)
       obtain ⟨_, _, _, s4⟩ := setCells_same g news i w.drew
       exact ⟨⟨by rw [t4, s4]; exact Nat.le_refl _, fun k hk hP => k5 k (fun e => hP (by subst e; exact ho0.1 k (by simp [Value.ownBlock])))⟩⟩
      obtain ⟨W1, hW1⟩ : ∃ W1, W1 = w.drew.setCells g (0 + i * 1) news := ⟨_, rfl⟩
      have hW1' : W1 = w.drew.setCells g i news := by rw [hW1, Nat.mul_one, Nat.zero_add]
      obtain ⟨cur1, q1, q2, _⟩ := setCells_row news i w.drew cur hh zq11
      have hcl : ∀ ty, (Builtin.clear_ #[22] ty #[.slice (some ⟨g, n', none⟩) (l0.length - n') (cap - n')]).run Try.prog W1 = .ok (.tuple #[]) (W1.setCells g n' (List.replicate (l0.length - n') (Value.int .i64 0))) :=
       fun ty => Lib.run_clear_slice W1 22 3 ty (.int .i64 0) Try.underlying22 (fun w => by kernel_rfl) rfl rfl g n' _ _ zq11 (fun t ht' => by rw [hW1', cell_of_row _ g _ cur1 3 (0, 0) q1, Array.getElem?_eq_getElem zq11]; rfl) (fun t ht' => by rw [hW1']; exact blk_frozen q1 _)
      have HW1' := am hW1'
      have HW1 := am hW1
      have HN' := am hn'
      have hic : i ≤ cap := zq11
      have hjc : j ≤ cap := zq11
      obtain ⟨i0, hi0, hz0, hz1, hz2⟩ := info_parts info3
      have E1 := am (show l0.length - n' = j - i by omega)
      have E2 := am (show i + (l0.length - j) = n' by omega)
      have B1 : n' ≤ cap := zq11
      have B2 : n' ≤ l0.length := zq11
      have B3 : n' < cap := zq11
      clear hW1 hW1' hh hcur hcell hnews hlen ht hRR k4 k5 k3 k2 k1 hown ho0 hB hel q1 q2 hn' hcs
      go_enter Try.func59, Try.ntmps59
      go_wp2_with fail
      go_region_law (refine step_append_room rfl (.tmp 22) (.tmp 25) 22 rfl 3 i0 1 Try.underlying22 hi0 hz1 g 0 i cap (by simp [Act.eval, Act.put]) AA (l0.length - j) (cap - j) news (by simp [Act.eval, Act.put]) s1.out hsrc.out s2.out zq11 s3.out ?_; rw [← HW1.out, E2.out])
      go_wp2
      go_ret
      refine ⟨_, rfl, ?_, ?_, ?_⟩
      ·rw [HW1'.out, E1.out]; exact HRR.out
      ·rw [HW1'.out, E1.out]; exact HK4.out
      ·rw [HW1'.out, E1.out]; exact HKept.out
   ·rw [if_neg h3] at h; cases h
  ·rw [if_neg h2] at h; cases h
 ·rw [if_neg h1] at h; cases h
/-! ### impl_without: function 43 -/
def impl_without.f (l0 : List Int) (a1 : Int) : Option (List Int) := (slices_Clone_int_int.f l0).bind fun t250 => ((slices_Delete_int_int.f t250 a1 (wrap64 (a1 + 1))).bind fun t253 => (some t253))
theorem impl_without.calls (A0 : Option Addr) (c0 : Nat) (l0 : List Int) (a1 : Int) (r : List Int) (w : World) (hr0 : Kd.C (Kd.int .i64) w A0 l0.length l0) (hc0 : l0.length ≤ c0) (h : impl_without.f l0 a1 = some r) :
  Calls Try.prog 43 #[.slice A0 l0.length c0, .int .i64 a1] w fun e w' => ∃ v0_ : Value, e = .returned (v0_) ∧ Kd.R (Kd.int .i64) 3 w' w.heap.size (fun _ => True) v0_ r ∧ Below w.heap.size w w' := by
 have HR0 := am hr0
 have HC0 := am hc0
 clear hr0 hc0
 have HB := am (Below.refl w.heap.size w)
 have H : ((slices_Clone_int_int.f l0).bind fun t250 => ((slices_Delete_int_int.f t250 a1 (wrap64 (a1 + 1))).bind fun t253 => (some t253))) = some r := h
 clear h
 obtain ⟨t250, A3, H⟩ := zS H
 (try dsimp only at H)
 obtain ⟨t253, A4, H⟩ := zS H
 (try dsimp only at H)
 obtain rfl := Option.some.inj H
 go_enter Try.func43, Try.ntmps43
 go_wp2_with (first | ((with_reducible refine gate_callee (f := 48) rfl ?_); refine goesL_ (some 6) rfl rfl Try.func48 zq24 rfl #[.slice A0 l0.length c0] rfl zq3 ?_; (with_reducible refine (slices_Clone_int_int.calls _ _ l0 t250 _ ?side1 ?side2 A3.out).mono ?_); (case side1 => exact zq12); (case side2 => exact HC0.out); rintro e w5 ⟨v251, rfl, ho0, hb⟩; refine ⟨_, rfl, ?_⟩; have HO252 := am (Kd.R_lower ho0 (below_size (pBq4 HB))); replace HB := am (below_step (pBq4 HB) hb); (try clear hb ho0); obtain ⟨Ao6, co6, eo6⟩ := Kd.R_slice HO252.out; subst eo6) | ((with_reducible refine gate_callee (f := 59) rfl ?_); refine goesL_ (some 10) rfl rfl Try.func59 zq24 rfl #[.slice Ao6 t250.length co6, .int .i64 a1, .int .i64 (wrap64 (a1 + 1))] rfl zq3 ?_; (with_reducible refine (slices_Delete_int_int.calls (fun k_ => some k_ = (.slice Ao6 t250.length co6 : Value).ownBlock) (.slice Ao6 t250.length co6) t250 a1 (wrap64 (a1 + 1)) t253 w _ ?side1 ?side2 A4.out).mono ?_); (case side1 => exact zq1); (case side2 => exact Kd.R_tight rfl HO252.out); rintro e w7 ⟨v254, rfl, ho0, hb, hkp⟩; refine ⟨_, rfl, ?_⟩; have HO255 := am (Kd.R_mono (ok' := fun k_ => True) ho0 (fun k_ hk_ => trivial)); replace HB := am (hb); clear HO252; (try clear hb hkp ho0)))
 go_ret
 exact ⟨_, zq7, by (with_reducible repeat (first | apply Kd.R_alloc | apply Kd.R_drewN | apply Kd.R_drew)); exact HO255.out, zq1⟩
/-! ### impl_firstSame: function 29 -/
def impl_firstSame.l0 : Nat → List Int → List Int → Option (List Int)
 | 0, _, _ => none
 | k + 1, x0, x3 => if (x0.length : Int) > 0 then ((impl_firsts.f x0).bind fun t259 => (if 0 < (t259.length : Int) then (if 0 ≤ (rd t259 0) then (if (rd t259 0) < (x0.length : Int) then (if x3.length < 17592186044416 then ((impl_without.f x0 (rd t259 0)).bind fun t267 => (impl_firstSame.l0 k t267 (x3 ++ [rd x0 (rd t259 0)]))) else (none)) else (none)) else (none)) else (none))) else (some x3)
def impl_firstSame.f (k : Nat) (l0 : List Int) : Option (List Int) := impl_firstSame.l0 k l0 (([] : List Int))
theorem impl_firstSame.mono_l : ∀ k, (∀ y0 y1, LeO (impl_firstSame.l0 k y0 y1) (impl_firstSame.l0 (k + 1) y0 y1))
 | 0 => fun _ _ r h => by simp [impl_firstSame.l0] at h
 | k + 1 => by
  have ih0 := impl_firstSame.mono_l k
  ·intro y0 y1
   unfold impl_firstSame.l0
   repeat' first | (with_reducible first | exact ih0 _ _ | exact LeO.refl _ | exact LeO.none _ | refine LeO.ite ?_ ?_ | refine LeO.bind ?_ (fun _ => ?_))
theorem impl_firstSame.mono : ∀ a0 k, LeO (impl_firstSame.f k a0) (impl_firstSame.f (k + 1) a0) := by
 intro a0 k
 have ih0 := impl_firstSame.mono_l k
 unfold impl_firstSame.f
 repeat' first | (with_reducible first | exact ih0 _ _ | exact LeO.refl _ | exact LeO.none _ | refine LeO.ite ?_ ?_ | refine LeO.bind ?_ (fun _ => ?_))
theorem impl_firstSame.calls (k : Nat) (P0_ : Nat → Prop) (A0 : Option Addr) (c0 : Nat) (l0 : List Int) (r : List Int) (w : World) (hs0 : Kd.V (Kd.int .i64) 3 w w.heap.size (fun k_ => P0_ k_) (.slice A0 l0.length c0) l0) (h : impl_firstSame.f k l0 = some r) :
  Calls Try.prog 29 #[.slice A0 l0.length c0] w fun e w' => ∃ v0_ : Value, e = .returned (v0_) ∧ Kd.R (Kd.int .i64) 3 w' w.heap.size (fun k_ => (w.heap.size ≤ k_)) v0_ r ∧ Below w.heap.size w w' := by
 have HO0 := am (show Kd.V (Kd.int .i64) 3 w w.heap.size (fun k_ => (P0_ k_ ∨ w.heap.size ≤ k_)) (.slice A0 l0.length c0) l0 from Kd.V_mono hs0 (fun k_ hk => .inl hk))
 have HB := am (Below.refl w.heap.size w)
 have H : (impl_firstSame.l0 k l0 (([] : List Int))) = some r := h
 clear h
 obtain ⟨y256, hy256⟩ : ∃ y_ : List Int, y_ = (([] : List Int)) := ⟨_, rfl⟩
 replace H : (impl_firstSame.l0 k l0 y256) = some r := by first | (rw [hy256]; exact zH) | exact zH
 have Ny256 := am hy256
 clear hy256
 have H' := am H
 clear H
 go_enter Try.func29, Try.ntmps29
 go_wp2_with (first | ((with_reducible refine gate_dst (N := 5) rfl ?_); refine Kd.R_lit (Kd.int .i64) _ 3 ?hg (N := 5) ?hd (xs := ([] : List Int)) (inner := []) (ok := fun _ => True) (okp := fun _ => True) ?hr ?hp (fun _ hk => hk) trivial (Below.refl _ _) (Nat.le_refl _) zq25 ?_; (case hd => rfl); (case hg => rfl); (case hr => exact zq10); (case hp => exact (Reps.none _ _)); intro v257 w2 ho3 hb hg_ hnew_; clear hg_ hnew_; (first | rw [← Ny256.out] at ho3 | (simp only [Int.reduceToNat] at ho3; rw [← Ny256.out] at ho3)); have HO258 := am (Kd.R_lower (Kd.R_newM (M := fun k_ => (w.heap.size ≤ k_)) ho3 (below_size (pBq4 HB)) (fun k_ h_ => h_)) (below_size (pBq4 HB))); replace HO0 := am (Kd.V_elder' (by (with_reducible repeat (first | apply Kd.V_alloc | apply Kd.V_drewN | apply Kd.V_drew)); exact HO0.out) (Kd.R_base ho3) hb); replace HB := am (below_step (pBq4 HB) hb); clear hb ho3))
 go_loopg [0, 3] k (fun kq v0 v3 w' => ∃ (x0_1 : List Int) (x3_1 : List Int), Aside0 (impl_firstSame.l0 kq x0_1 x3_1 = some r) ∧ Aside0 (kq ≤ k) ∧ Aside0 (Kd.V (Kd.int .i64) 3 w' w.heap.size (fun k_ => (P0_ k_ ∨ w.heap.size ≤ k_) ∧ some k_ ≠ (v3 : Value).ownBlock) v0 x0_1) ∧ Aside0 (Kd.R (Kd.int .i64) 3 w' w.heap.size (fun k_ => (w.heap.size ≤ k_)) v3 x3_1) ∧ Aside0 (Below w.heap.size w w'))
 case atStart => exact ⟨(l0), (y256), H', ⟨Nat.le_refl _⟩, ⟨by (with_reducible repeat (first | apply Kd.V_alloc | apply Kd.V_drewN | apply Kd.V_drew)); exact HO0.out⟩, ⟨by (with_reducible repeat (first | apply Kd.R_alloc | apply Kd.R_drewN | apply Kd.R_drew)); exact Kd.R_mono HO258.out (fun _ hk => hk.1)⟩, ⟨zq1⟩⟩
 case round =>
  clear H'
  try clear c2
  try clear p2
  obtain ⟨x0_1, x3_1, HA, HK1, HO_0, HO_3, HB⟩ := hrel
  cases gk with
  | zero => exact absurd HA.out (by simp [impl_firstSame.l0])
  | succ k1 =>
   have H := HA.out
   clear HA
   simp only [impl_firstSame.l0] at H
   by_cases c4 : (x0_1.length : Int) > 0
   ·rw [if_pos c4] at H
    have c4b0 : decide (0 < (x0_1.length : Int)) = true := decide_eq_true c4
    have c4b1 : decide (0 < x0_1.length) = true := decide_eq_true zq11
    clear c4
    obtain ⟨t259, A5, H⟩ := zS H
    (try dsimp only at H)
    by_cases c6 : 0 < (t259.length : Int)
    ·rw [if_pos c6] at H
     have c6b0 : decide (0 < (t259.length : Int)) = true := decide_eq_true c6
     have c6b1 : decide (0 < t259.length) = true := decide_eq_true zq11
     clear c6
     by_cases c7 : 0 ≤ (rd t259 0)
     ·rw [if_pos c7] at H
      have c7b0 : decide (0 ≤ (rd t259 0)) = true := decide_eq_true c7
      clear c7
      by_cases c8 : (rd t259 0) < (x0_1.length : Int)
      ·rw [if_pos c8] at H
       have c8b0 : decide ((rd t259 0) < (x0_1.length : Int)) = true := decide_eq_true c8
       clear c8
       by_cases c9 : x3_1.length < 17592186044416
       ·rw [if_pos c9] at H
        have LMc9 := am c9
        clear c9
        obtain ⟨y264, hy264⟩ : ∃ y_ : List Int, y_ = (x3_1 ++ [rd x0_1 (rd t259 0)]) := ⟨_, rfl⟩
        replace H : ((impl_without.f x0_1 (rd t259 0)).bind fun t267 => (impl_firstSame.l0 k1 t267 y264)) = some r := by first | (rw [hy264]; exact zH) | exact zH
        have Ny264 := am hy264
        clear hy264
        obtain ⟨t267, A10, H⟩ := zS H
        (try dsimp only at H)
        have H' := am H
        clear H
        obtain ⟨Ao11, co11, eo11⟩ := Kd.V_slice HO_0.out
        subst eo11
        go_wp2_with (first | ((with_reducible refine gate_callee (f := 42) rfl ?_); refine goesL_ (some 10) rfl rfl Try.func42 zq24 rfl #[.slice Ao11 x0_1.length co11] rfl zq3 ?_; (with_reducible refine (impl_firsts.calls _ _ x0_1 t259 _ ?side1 ?side2 A5.out).mono ?_); (case side1 => exact zq80); (case side2 => exact (Kd.V_reads' HO_0.out).2.1); rintro e w12 ⟨v260, rfl, ho0, hb⟩; refine ⟨_, rfl, ?_⟩; have HO261 := am (Kd.R_lower (Kd.R_new' (Kd.R_newM (M := fun k_ => (w.heap.size ≤ k_)) ho0 (below_size (pBq4 HB)) (fun k_ h_ => h_)) (Kd.R_lt (pRq4 HO_3))) (below_size (pBq4 HB))); replace HO_0 := am (Kd.V_elder' (by (with_reducible repeat (first | apply Kd.V_alloc | apply Kd.V_drewN | apply Kd.V_drew)); exact HO_0.out) (Kd.R_base ho0) hb); replace HO_3 := am (Kd.R_elder' (pRq4 HO_3) (Kd.R_base ho0) hb); replace HB := am (below_step (pBq4 HB) hb); (try clear hb ho0); obtain ⟨Ao13, co13, eo13⟩ := Kd.R_slice HO261.out; subst eo13; have p262 : 0 ≤ (0 : Int) := zq11; have q262 : 0 < (t259.length : Int) := of_decide_eq_true zq0; obtain ⟨ad262, e262, hx262_0⟩ := Kd.at_int (Kd.R_reads' HO261.out).2.2 0 p262 q262; cases e262; have qi262 : (0 < t259.length) = True := eq_true zq11; (try rw [show ((0 : Int)).toNat = 0 from rfl] at hx262_0); (try rw [Addr.add_zero'] at hx262_0); replace p262 := eq_true p262; replace q262 := eq_true q262; have p263 : 0 ≤ ((rd t259 0) : Int) := of_decide_eq_true zq0; have q263 : (rd t259 0) < (x0_1.length : Int) := of_decide_eq_true zq0; obtain ⟨ad263, e263, hx263_0⟩ := Kd.at_int (Kd.V_reads' HO_0.out).2.2 (rd t259 0) p263 q263; cases e263; replace p263 := eq_true p263; replace q263 := eq_true q263) | ((with_reducible refine gate_builtin (b := .append) (xs := #[.tmp 13, .tmp 18]) rfl ?_); at_builtin; refine Kd.R_append (Kd.int .i64) (w0 := w) w.heap.size rfl (.tmp 13) (.tmp 18) 22 3 (.int .i64 0) 8 rfl Try.underlying22 info3 rfl zq34 zq11 u3 x3_1 (rd x0_1 (rd t259 0)) [.int .i64 (rd x0_1 (rd t259 0))] (fun k_ => (w.heap.size ≤ k_) ∧ some k_ ≠ (.slice (some ad262) t259.length co13 : Value).ownBlock) (fun _ => False) rfl rfl ?aP (fun _ hk => hk.elim) ?aF ?aO ?aB ?aS ?aL ?_; (case aP => exact rfl); (case aB => exact (pBq4 HB)); (case aF => exact (fun k_ hk => ⟨(Nat.le_trans (below_size (pBq4 HB)) hk), Kd.fresh' (Kd.R_lt (pRq4 HO261)) k_ hk⟩)); (case aO => exact (pRq4 HO_3)); (case aS => exact (below_size (pBq4 HB))); (case aL => have := LMc9.out; omega); intro v265 w14 ho hb hg hat; rw [← Ny264.out] at ho; have HO266 := am (ho); replace HO_0 := am (Kd.V_afterv (ok := (fun k_ => (P0_ k_ ∨ w.heap.size ≤ k_) ∧ some k_ ≠ (.slice (some ad262) t259.length co13 : Value).ownBlock)) (by (with_reducible repeat (first | apply Kd.V_alloc | apply Kd.V_drewN | apply Kd.V_drew)); exact Kd.V_mono HO_0.out (fun _ hk => ⟨⟨hk.1.1, hk.2⟩, hk.1.2⟩)) hg hat); replace HO261 := am (Kd.R_after (ok := (fun k_ => (w.heap.size ≤ k_))) (by (with_reducible repeat (first | apply Kd.R_alloc | apply Kd.R_drewN | apply Kd.R_drew)); exact Kd.R_mono HO261.out (fun _ hk => ⟨hk.1.1, hk.2⟩)) hg hat); replace HB := am (hb); clear HO_3; clear ho hb hg hat) | ((with_reducible refine gate_callee (f := 43) rfl ?_); refine goesL_ (some 22) rfl rfl Try.func43 zq24 rfl #[.slice (some ad263) x0_1.length co11, .int .i64 (rd t259 0)] rfl zq3 ?_; (with_reducible refine (impl_without.calls _ _ x0_1 (rd t259 0) t267 _ ?side1 ?side2 A10.out).mono ?_); (case side1 => exact zq80); (case side2 => exact (Kd.V_reads' HO_0.out).2.1); rintro e w15 ⟨v268, rfl, ho0, hb⟩; refine ⟨_, rfl, ?_⟩; have HO269 := am (Kd.R_lower (Kd.R_new' (Kd.R_new' (Kd.R_newM (M := fun k_ => (w.heap.size ≤ k_)) ho0 (below_size (pBq4 HB)) (fun k_ h_ => h_)) (Kd.R_lt (pRq4 HO261))) (Kd.R_lt (pRq4 HO266))) (below_size (pBq4 HB))); replace HO_0 := am (Kd.V_elder' (by (with_reducible repeat (first | apply Kd.V_alloc | apply Kd.V_drewN | apply Kd.V_drew)); exact HO_0.out) (Kd.R_base ho0) hb); replace HO261 := am (Kd.R_elder' (pRq4 HO261) (Kd.R_base ho0) hb); replace HO266 := am (Kd.R_elder' (pRq4 HO266) (Kd.R_base ho0) hb); replace HB := am (below_step (pBq4 HB) hb); (try clear hb ho0)))
        go_roundg k1
        case measure => have := HK1.out; omega
        case rel => exact ⟨(t267), (y264), H', ⟨zq27⟩, ⟨Kd.V_mono (Kd.R_V (pRq4 HO269)) (fun k_ hk => by exact ⟨(.inr (hk.1.1.1)), hk.2⟩)⟩, ⟨by (with_reducible repeat (first | apply Kd.R_alloc | apply Kd.R_drewN | apply Kd.R_drew)); exact Kd.R_mono HO266.out (fun _ hk => hk.1.1)⟩, ⟨zq1⟩⟩
       ·rw [if_neg c9] at H
        exact absurd H zq25
      ·rw [if_neg c8] at H
       exact absurd H zq25
     ·rw [if_neg c7] at H
      exact absurd H zq25
    ·rw [if_neg c6] at H
     exact absurd H zq25
   ·rw [if_neg c4] at H
    have c4b0 : decide (0 < (x0_1.length : Int)) = false := decide_eq_false c4
    have c4b1 : decide (0 < x0_1.length) = false := decide_eq_false zq11
    clear c4
    obtain rfl := Option.some.inj H
    obtain ⟨Ao16, co16, eo16⟩ := Kd.V_slice HO_0.out
    subst eo16
    go_wp2
    go_ret
    exact ⟨_, zq7, zq36, zq1⟩
/-! ### impl_canFlip: function 31 -/
def impl_canFlip.f (a0_0 : Int) (l0_1 : List Int) (a1 : Int) : Option (Bool) := (impl_between.f a1 0 (wrap64 ((l0_1.length : Int) - 3))).bind fun t275 => (if t275 = true then (if 0 ≤ a1 then (if a1 < (l0_1.length : Int) then (if 0 ≤ (wrap64 (a1 + 2)) then (if (wrap64 (a1 + 2)) < (l0_1.length : Int) then (if (rd l0_1 a1) = (rd l0_1 (wrap64 (a1 + 2))) then (if 0 ≤ (wrap64 (a1 + 1)) then (if (wrap64 (a1 + 1)) < (l0_1.length : Int) then (if (rd l0_1 (wrap64 (a1 + 1))) = (wrap64 ((rd l0_1 a1) + 1)) then (some true) else (some ((rd l0_1 (wrap64 (a1 + 1))) == (wrap64 ((rd l0_1 a1) - 1))))) else (none)) else (none)) else (some false)) else (none)) else (none)) else (none)) else (none)) else (some false))
theorem impl_canFlip.calls (a0_0 : Int) (A0_1 : Option Addr) (c0_1 : Nat) (l0_1 : List Int) (a1 : Int) (r : Bool) (w : World) (hr0_1 : Kd.C (Kd.int .i64) w A0_1 l0_1.length l0_1) (hc0_1 : l0_1.length ≤ c0_1) (h : impl_canFlip.f a0_0 l0_1 a1 = some r) :
  Calls Try.prog 31 #[.agg #[.int .i64 a0_0, .slice A0_1 l0_1.length c0_1], .int .i64 a1] w fun e w' => e = .returned (.bool r) ∧ Below w.heap.size w w' := by
 have hu40 := Try.underlying40
 have HR0_1 := am hr0_1
 have HC0_1 := am hc0_1
 clear hr0_1 hc0_1
 have HB := am (Below.refl w.heap.size w)
 have H : ((impl_between.f a1 0 (wrap64 ((l0_1.length : Int) - 3))).bind fun t275 => (if t275 = true then (if 0 ≤ a1 then (if a1 < (l0_1.length : Int) then (if 0 ≤ (wrap64 (a1 + 2)) then (if (wrap64 (a1 + 2)) < (l0_1.length : Int) then (if (rd l0_1 a1) = (rd l0_1 (wrap64 (a1 + 2))) then (if 0 ≤ (wrap64 (a1 + 1)) then (if (wrap64 (a1 + 1)) < (l0_1.length : Int) then (if (rd l0_1 (wrap64 (a1 + 1))) = (wrap64 ((rd l0_1 a1) + 1)) then (some true) else (some ((rd l0_1 (wrap64 (a1 + 1))) == (wrap64 ((rd l0_1 a1) - 1))))) else (none)) else (none)) else (some false)) else (none)) else (none)) else (none)) else (none)) else (some false))) = some r := h
 clear h
 obtain ⟨t275, A3, H⟩ := zS H
 (try dsimp only at H)
 by_cases c4 : t275 = true
 ·subst c4
  rw [if_pos rfl] at H
  by_cases c5 : 0 ≤ a1
  ·rw [if_pos c5] at H
   have c5b0 : decide (0 ≤ a1) = true := decide_eq_true c5
   clear c5
   by_cases c6 : a1 < (l0_1.length : Int)
   ·rw [if_pos c6] at H
    have c6b0 : decide (a1 < (l0_1.length : Int)) = true := decide_eq_true c6
    clear c6
    obtain ⟨ji7, hji7⟩ : ∃ j_ : Int, (wrap64 (a1 + 2)) = j_ := ⟨_, rfl⟩
    replace H : (if 0 ≤ (ji7) then (if (ji7) < (l0_1.length : Int) then (if (rd l0_1 a1) = (rd l0_1 (ji7)) then (if 0 ≤ (wrap64 (a1 + 1)) then (if (wrap64 (a1 + 1)) < (l0_1.length : Int) then (if (rd l0_1 (wrap64 (a1 + 1))) = (wrap64 ((rd l0_1 a1) + 1)) then (some true) else (some ((rd l0_1 (wrap64 (a1 + 1))) == (wrap64 ((rd l0_1 a1) - 1))))) else (none)) else (none)) else (some false)) else (none)) else (none)) = some r := by first | (rw [hji7] at H; exact H) | (simp only [hji7] at H ⊢; exact H)
    (try rw [hji7] at A3)
    have hji7w : (IntKind.i64.wrap (a1 + 2)) = ji7 := (i64_w _).trans hji7
    by_cases c8 : 0 ≤ (ji7)
    ·rw [if_pos c8] at H
     have c8b0 : decide (0 ≤ (ji7)) = true := decide_eq_true c8
     clear c8
     by_cases c9 : (ji7) < (l0_1.length : Int)
     ·rw [if_pos c9] at H
      have c9b0 : decide ((ji7) < (l0_1.length : Int)) = true := decide_eq_true c9
      clear c9
      by_cases c10 : (rd l0_1 a1) = (rd l0_1 (ji7))
      ·rw [if_pos c10] at H
       have c10b0 : ((rd l0_1 a1) == (rd l0_1 (ji7))) = true := beq_iff_eq.mpr c10
       have c10b1 : ((rd l0_1 a1) != (rd l0_1 (ji7))) = false := bne_eq_false_iff_eq.mpr c10
       clear c10
       obtain ⟨ji11, hji11⟩ : ∃ j_ : Int, (wrap64 (a1 + 1)) = j_ := ⟨_, rfl⟩
       replace H : (if 0 ≤ (ji11) then (if (ji11) < (l0_1.length : Int) then (if (rd l0_1 (ji11)) = (wrap64 ((rd l0_1 a1) + 1)) then (some true) else (some ((rd l0_1 (ji11)) == (wrap64 ((rd l0_1 a1) - 1))))) else (none)) else (none)) = some r := by first | (rw [hji11] at H; exact H) | (simp only [hji11] at H ⊢; exact H)
       (try rw [hji11] at A3)
       have hji11w : (IntKind.i64.wrap (a1 + 1)) = ji11 := (i64_w _).trans hji11
       by_cases c12 : 0 ≤ (ji11)
       ·rw [if_pos c12] at H
        have c12b0 : decide (0 ≤ (ji11)) = true := decide_eq_true c12
        clear c12
        by_cases c13 : (ji11) < (l0_1.length : Int)
        ·rw [if_pos c13] at H
         have c13b0 : decide ((ji11) < (l0_1.length : Int)) = true := decide_eq_true c13
         clear c13
         by_cases c14 : (rd l0_1 (ji11)) = (wrap64 ((rd l0_1 a1) + 1))
         ·rw [if_pos c14] at H
          have c14b0 : ((rd l0_1 (ji11)) == (wrap64 ((rd l0_1 a1) + 1))) = true := beq_iff_eq.mpr c14
          have c14b1 : ((rd l0_1 (ji11)) != (wrap64 ((rd l0_1 a1) + 1))) = false := bne_eq_false_iff_eq.mpr c14
          clear c14
          obtain rfl := Option.some.inj H
          go_enter Try.func31, Try.ntmps31
          go_wp2_with (first | ((with_reducible refine gate_dst (N := 2) rfl ?_); refine zE 2 (cs := #[.int .i64 a0_0, .slice A0_1 l0_1.length c0_1]) 40 ?_; intro gb274 hg w15 hbox hb; have BK274 := am (hbox); have GW274 := am ((zq20 : w.heap.size ≤ gb274)); have GE274 := am ((zq20 : w.heap.size ≤ gb274)); replace HB := am (below_step (pBq4 HB) hb); clear hb hbox hg; have hcz16_0 : w15.cell? ⟨gb274, 0, none⟩ = some (.int .i64 a0_0) := (blk_cell BK274.out 0).trans rfl; have hcz16_1 : w15.cell? ⟨gb274, 1, none⟩ = some (.slice A0_1 l0_1.length c0_1) := (blk_cell BK274.out 1).trans rfl; have hfz16_0 := blk_frozen BK274.out 0; have hfz16_1 := blk_frozen BK274.out 1) | (go_at_call 46; (with_reducible refine (impl_between.calls a1 0 (wrap64 ((l0_1.length : Int) - 3)) true _ A3.out).mono ?_); rintro e w' ⟨rfl, ⟨nd, rfl⟩⟩; (try first | exact ⟨rfl, _, World.drewN_drewN _ _ _⟩ | exact ⟨rfl, _, Eq.trans (World.drewN_drewN _ _ _) (congrArg (World.drewN _) (Nat.add_assoc _ _ _))⟩)))
          have p276 : 0 ≤ (a1 : Int) := of_decide_eq_true zq0
          have q276 : a1 < (l0_1.length : Int) := of_decide_eq_true zq0
          obtain ⟨ad276, e276, hx276_0⟩ := Kd.at_int HR0_1.out a1 p276 q276
          cases e276
          replace hx276_0 := (HB.out.cell (World.block_lt_of_cell? w _ hx276_0)).trans hx276_0
          replace p276 := eq_true p276
          replace q276 := eq_true q276
          have p277 : 0 ≤ ((ji7) : Int) := of_decide_eq_true zq0
          have q277 : (ji7) < (l0_1.length : Int) := of_decide_eq_true zq0
          obtain ⟨ad277, e277, hx277_0⟩ := Kd.at_int HR0_1.out (ji7) p277 q277
          obtain rfl : ad276 = ad277 := (by injection e277)
          replace hx277_0 := (HB.out.cell (World.block_lt_of_cell? w _ hx277_0)).trans hx277_0
          replace p277 := eq_true p277
          replace q277 := eq_true q277
          have p278 : 0 ≤ (a1 : Int) := of_decide_eq_true zq0
          have q278 : a1 < (l0_1.length : Int) := of_decide_eq_true zq0
          obtain ⟨ad278, e278, hx278_0⟩ := Kd.at_int HR0_1.out a1 p278 q278
          obtain rfl : ad276 = ad278 := (by injection e278)
          replace hx278_0 := (HB.out.cell (World.block_lt_of_cell? w _ hx278_0)).trans hx278_0
          replace p278 := eq_true p278
          replace q278 := eq_true q278
          have p279 : 0 ≤ ((ji11) : Int) := of_decide_eq_true zq0
          have q279 : (ji11) < (l0_1.length : Int) := of_decide_eq_true zq0
          obtain ⟨ad279, e279, hx279_0⟩ := Kd.at_int HR0_1.out (ji11) p279 q279
          obtain rfl : ad276 = ad279 := (by injection e279)
          replace hx279_0 := (HB.out.cell (World.block_lt_of_cell? w _ hx279_0)).trans hx279_0
          replace p279 := eq_true p279
          replace q279 := eq_true q279
          repeat (go_quiet (first | ((with_reducible refine gate_dst (N := 2) rfl ?_); refine zE 2 (cs := #[.int .i64 a0_0, .slice A0_1 l0_1.length c0_1]) 40 ?_; intro gb274 hg w15 hbox hb; have BK274 := am (hbox); have GW274 := am ((zq20 : w.heap.size ≤ gb274)); have GE274 := am ((zq20 : w.heap.size ≤ gb274)); replace HB := am (below_step (pBq4 HB) hb); clear hb hbox hg; have hcz16_0 : w15.cell? ⟨gb274, 0, none⟩ = some (.int .i64 a0_0) := (blk_cell BK274.out 0).trans rfl; have hcz16_1 : w15.cell? ⟨gb274, 1, none⟩ = some (.slice A0_1 l0_1.length c0_1) := (blk_cell BK274.out 1).trans rfl; have hfz16_0 := blk_frozen BK274.out 0; have hfz16_1 := blk_frozen BK274.out 1) | (go_at_call 46; (with_reducible refine (impl_between.calls a1 0 (wrap64 ((l0_1.length : Int) - 3)) true _ A3.out).mono ?_); rintro e w' ⟨rfl, ⟨nd, rfl⟩⟩; (try first | exact ⟨rfl, _, World.drewN_drewN _ _ _⟩ | exact ⟨rfl, _, Eq.trans (World.drewN_drewN _ _ _) (congrArg (World.drewN _) (Nat.add_assoc _ _ _))⟩))); try go_wp2_with (first | ((with_reducible refine gate_dst (N := 2) rfl ?_); refine zE 2 (cs := #[.int .i64 a0_0, .slice A0_1 l0_1.length c0_1]) 40 ?_; intro gb274 hg w15 hbox hb; have BK274 := am (hbox); have GW274 := am ((zq20 : w.heap.size ≤ gb274)); have GE274 := am ((zq20 : w.heap.size ≤ gb274)); replace HB := am (below_step (pBq4 HB) hb); clear hb hbox hg; have hcz16_0 : w15.cell? ⟨gb274, 0, none⟩ = some (.int .i64 a0_0) := (blk_cell BK274.out 0).trans rfl; have hcz16_1 : w15.cell? ⟨gb274, 1, none⟩ = some (.slice A0_1 l0_1.length c0_1) := (blk_cell BK274.out 1).trans rfl; have hfz16_0 := blk_frozen BK274.out 0; have hfz16_1 := blk_frozen BK274.out 1) | (go_at_call 46; (with_reducible refine (impl_between.calls a1 0 (wrap64 ((l0_1.length : Int) - 3)) true _ A3.out).mono ?_); rintro e w' ⟨rfl, ⟨nd, rfl⟩⟩; (try first | exact ⟨rfl, _, World.drewN_drewN _ _ _⟩ | exact ⟨rfl, _, Eq.trans (World.drewN_drewN _ _ _) (congrArg (World.drewN _) (Nat.add_assoc _ _ _))⟩))))
          go_ret
          exact ⟨zq71, zq9⟩
         ·rw [if_neg c14] at H
          have c14b0 : ((rd l0_1 (ji11)) == (wrap64 ((rd l0_1 a1) + 1))) = false := beq_eq_false_iff_ne.mpr c14
          have c14b1 : ((rd l0_1 (ji11)) != (wrap64 ((rd l0_1 a1) + 1))) = true := bne_iff_ne.mpr c14
          obtain rfl := Option.some.inj H
          go_enter Try.func31, Try.ntmps31
          go_wp2_with (first | ((with_reducible refine gate_dst (N := 2) rfl ?_); refine zE 2 (cs := #[.int .i64 a0_0, .slice A0_1 l0_1.length c0_1]) 40 ?_; intro gb274 hg w17 hbox hb; have BK274 := am (hbox); have GW274 := am ((zq20 : w.heap.size ≤ gb274)); have GE274 := am ((zq20 : w.heap.size ≤ gb274)); replace HB := am (below_step (pBq4 HB) hb); clear hb hbox hg; have hcz18_0 : w17.cell? ⟨gb274, 0, none⟩ = some (.int .i64 a0_0) := (blk_cell BK274.out 0).trans rfl; have hcz18_1 : w17.cell? ⟨gb274, 1, none⟩ = some (.slice A0_1 l0_1.length c0_1) := (blk_cell BK274.out 1).trans rfl; have hfz18_0 := blk_frozen BK274.out 0; have hfz18_1 := blk_frozen BK274.out 1) | (go_at_call 46; (with_reducible refine (impl_between.calls a1 0 (wrap64 ((l0_1.length : Int) - 3)) true _ A3.out).mono ?_); rintro e w' ⟨rfl, ⟨nd, rfl⟩⟩; (try first | exact ⟨rfl, _, World.drewN_drewN _ _ _⟩ | exact ⟨rfl, _, Eq.trans (World.drewN_drewN _ _ _) (congrArg (World.drewN _) (Nat.add_assoc _ _ _))⟩)))
          have p276 : 0 ≤ (a1 : Int) := of_decide_eq_true zq0
          have q276 : a1 < (l0_1.length : Int) := of_decide_eq_true zq0
          obtain ⟨ad276, e276, hx276_0⟩ := Kd.at_int HR0_1.out a1 p276 q276
          cases e276
          replace hx276_0 := (HB.out.cell (World.block_lt_of_cell? w _ hx276_0)).trans hx276_0
          replace p276 := eq_true p276
          replace q276 := eq_true q276
          have p277 : 0 ≤ ((ji7) : Int) := of_decide_eq_true zq0
          have q277 : (ji7) < (l0_1.length : Int) := of_decide_eq_true zq0
          obtain ⟨ad277, e277, hx277_0⟩ := Kd.at_int HR0_1.out (ji7) p277 q277
          obtain rfl : ad276 = ad277 := (by injection e277)
          replace hx277_0 := (HB.out.cell (World.block_lt_of_cell? w _ hx277_0)).trans hx277_0
          replace p277 := eq_true p277
          replace q277 := eq_true q277
          have p278 : 0 ≤ (a1 : Int) := of_decide_eq_true zq0
          have q278 : a1 < (l0_1.length : Int) := of_decide_eq_true zq0
          obtain ⟨ad278, e278, hx278_0⟩ := Kd.at_int HR0_1.out a1 p278 q278
          obtain rfl : ad276 = ad278 := (by injection e278)
          replace hx278_0 := (HB.out.cell (World.block_lt_of_cell? w _ hx278_0)).trans hx278_0
          replace p278 := eq_true p278
          replace q278 := eq_true q278
          have p279 : 0 ≤ ((ji11) : Int) := of_decide_eq_true zq0
          have q279 : (ji11) < (l0_1.length : Int) := of_decide_eq_true zq0
          obtain ⟨ad279, e279, hx279_0⟩ := Kd.at_int HR0_1.out (ji11) p279 q279
          obtain rfl : ad276 = ad279 := (by injection e279)
          replace hx279_0 := (HB.out.cell (World.block_lt_of_cell? w _ hx279_0)).trans hx279_0
          replace p279 := eq_true p279
          replace q279 := eq_true q279
          repeat (go_quiet (first | ((with_reducible refine gate_dst (N := 2) rfl ?_); refine zE 2 (cs := #[.int .i64 a0_0, .slice A0_1 l0_1.length c0_1]) 40 ?_; intro gb274 hg w17 hbox hb; have BK274 := am (hbox); have GW274 := am ((zq20 : w.heap.size ≤ gb274)); have GE274 := am ((zq20 : w.heap.size ≤ gb274)); replace HB := am (below_step (pBq4 HB) hb); clear hb hbox hg; have hcz18_0 : w17.cell? ⟨gb274, 0, none⟩ = some (.int .i64 a0_0) := (blk_cell BK274.out 0).trans rfl; have hcz18_1 : w17.cell? ⟨gb274, 1, none⟩ = some (.slice A0_1 l0_1.length c0_1) := (blk_cell BK274.out 1).trans rfl; have hfz18_0 := blk_frozen BK274.out 0; have hfz18_1 := blk_frozen BK274.out 1) | (go_at_call 46; (with_reducible refine (impl_between.calls a1 0 (wrap64 ((l0_1.length : Int) - 3)) true _ A3.out).mono ?_); rintro e w' ⟨rfl, ⟨nd, rfl⟩⟩; (try first | exact ⟨rfl, _, World.drewN_drewN _ _ _⟩ | exact ⟨rfl, _, Eq.trans (World.drewN_drewN _ _ _) (congrArg (World.drewN _) (Nat.add_assoc _ _ _))⟩))); try go_wp2_with (first | ((with_reducible refine gate_dst (N := 2) rfl ?_); refine zE 2 (cs := #[.int .i64 a0_0, .slice A0_1 l0_1.length c0_1]) 40 ?_; intro gb274 hg w17 hbox hb; have BK274 := am (hbox); have GW274 := am ((zq20 : w.heap.size ≤ gb274)); have GE274 := am ((zq20 : w.heap.size ≤ gb274)); replace HB := am (below_step (pBq4 HB) hb); clear hb hbox hg; have hcz18_0 : w17.cell? ⟨gb274, 0, none⟩ = some (.int .i64 a0_0) := (blk_cell BK274.out 0).trans rfl; have hcz18_1 : w17.cell? ⟨gb274, 1, none⟩ = some (.slice A0_1 l0_1.length c0_1) := (blk_cell BK274.out 1).trans rfl; have hfz18_0 := blk_frozen BK274.out 0; have hfz18_1 := blk_frozen BK274.out 1) | (go_at_call 46; (with_reducible refine (impl_between.calls a1 0 (wrap64 ((l0_1.length : Int) - 3)) true _ A3.out).mono ?_); rintro e w' ⟨rfl, ⟨nd, rfl⟩⟩; (try first | exact ⟨rfl, _, World.drewN_drewN _ _ _⟩ | exact ⟨rfl, _, Eq.trans (World.drewN_drewN _ _ _) (congrArg (World.drewN _) (Nat.add_assoc _ _ _))⟩))))
          go_ret
          exact ⟨zq71, zq9⟩
        ·rw [if_neg c13] at H
         exact absurd H zq25
       ·rw [if_neg c12] at H
        exact absurd H zq25
      ·rw [if_neg c10] at H
       have c10b0 : ((rd l0_1 a1) == (rd l0_1 (ji7))) = false := beq_eq_false_iff_ne.mpr c10
       have c10b1 : ((rd l0_1 a1) != (rd l0_1 (ji7))) = true := bne_iff_ne.mpr c10
       obtain rfl := Option.some.inj H
       go_enter Try.func31, Try.ntmps31
       go_wp2_with (first | ((with_reducible refine gate_dst (N := 2) rfl ?_); refine zE 2 (cs := #[.int .i64 a0_0, .slice A0_1 l0_1.length c0_1]) 40 ?_; intro gb274 hg w19 hbox hb; have BK274 := am (hbox); have GW274 := am ((zq20 : w.heap.size ≤ gb274)); have GE274 := am ((zq20 : w.heap.size ≤ gb274)); replace HB := am (below_step (pBq4 HB) hb); clear hb hbox hg; have hcz20_0 : w19.cell? ⟨gb274, 0, none⟩ = some (.int .i64 a0_0) := (blk_cell BK274.out 0).trans rfl; have hcz20_1 : w19.cell? ⟨gb274, 1, none⟩ = some (.slice A0_1 l0_1.length c0_1) := (blk_cell BK274.out 1).trans rfl; have hfz20_0 := blk_frozen BK274.out 0; have hfz20_1 := blk_frozen BK274.out 1) | (go_at_call 46; (with_reducible refine (impl_between.calls a1 0 (wrap64 ((l0_1.length : Int) - 3)) true _ A3.out).mono ?_); rintro e w' ⟨rfl, ⟨nd, rfl⟩⟩; (try first | exact ⟨rfl, _, World.drewN_drewN _ _ _⟩ | exact ⟨rfl, _, Eq.trans (World.drewN_drewN _ _ _) (congrArg (World.drewN _) (Nat.add_assoc _ _ _))⟩)))
       have p276 : 0 ≤ (a1 : Int) := of_decide_eq_true zq0
       have q276 : a1 < (l0_1.length : Int) := of_decide_eq_true zq0
       obtain ⟨ad276, e276, hx276_0⟩ := Kd.at_int HR0_1.out a1 p276 q276
       cases e276
       replace hx276_0 := (HB.out.cell (World.block_lt_of_cell? w _ hx276_0)).trans hx276_0
       replace p276 := eq_true p276
       replace q276 := eq_true q276
       have p277 : 0 ≤ ((ji7) : Int) := of_decide_eq_true zq0
       have q277 : (ji7) < (l0_1.length : Int) := of_decide_eq_true zq0
       obtain ⟨ad277, e277, hx277_0⟩ := Kd.at_int HR0_1.out (ji7) p277 q277
       obtain rfl : ad276 = ad277 := (by injection e277)
       replace hx277_0 := (HB.out.cell (World.block_lt_of_cell? w _ hx277_0)).trans hx277_0
       replace p277 := eq_true p277
       replace q277 := eq_true q277
       repeat (go_quiet (first | ((with_reducible refine gate_dst (N := 2) rfl ?_); refine zE 2 (cs := #[.int .i64 a0_0, .slice A0_1 l0_1.length c0_1]) 40 ?_; intro gb274 hg w19 hbox hb; have BK274 := am (hbox); have GW274 := am ((zq20 : w.heap.size ≤ gb274)); have GE274 := am ((zq20 : w.heap.size ≤ gb274)); replace HB := am (below_step (pBq4 HB) hb); clear hb hbox hg; have hcz20_0 : w19.cell? ⟨gb274, 0, none⟩ = some (.int .i64 a0_0) := (blk_cell BK274.out 0).trans rfl; have hcz20_1 : w19.cell? ⟨gb274, 1, none⟩ = some (.slice A0_1 l0_1.length c0_1) := (blk_cell BK274.out 1).trans rfl; have hfz20_0 := blk_frozen BK274.out 0; have hfz20_1 := blk_frozen BK274.out 1) | (go_at_call 46; (with_reducible refine (impl_between.calls a1 0 (wrap64 ((l0_1.length : Int) - 3)) true _ A3.out).mono ?_); rintro e w' ⟨rfl, ⟨nd, rfl⟩⟩; (try first | exact ⟨rfl, _, World.drewN_drewN _ _ _⟩ | exact ⟨rfl, _, Eq.trans (World.drewN_drewN _ _ _) (congrArg (World.drewN _) (Nat.add_assoc _ _ _))⟩))); try go_wp2_with (first | ((with_reducible refine gate_dst (N := 2) rfl ?_); refine zE 2 (cs := #[.int .i64 a0_0, .slice A0_1 l0_1.length c0_1]) 40 ?_; intro gb274 hg w19 hbox hb; have BK274 := am (hbox); have GW274 := am ((zq20 : w.heap.size ≤ gb274)); have GE274 := am ((zq20 : w.heap.size ≤ gb274)); replace HB := am (below_step (pBq4 HB) hb); clear hb hbox hg; have hcz20_0 : w19.cell? ⟨gb274, 0, none⟩ = some (.int .i64 a0_0) := (blk_cell BK274.out 0).trans rfl; have hcz20_1 : w19.cell? ⟨gb274, 1, none⟩ = some (.slice A0_1 l0_1.length c0_1) := (blk_cell BK274.out 1).trans rfl; have hfz20_0 := blk_frozen BK274.out 0; have hfz20_1 := blk_frozen BK274.out 1) | (go_at_call 46; (with_reducible refine (impl_between.calls a1 0 (wrap64 ((l0_1.length : Int) - 3)) true _ A3.out).mono ?_); rintro e w' ⟨rfl, ⟨nd, rfl⟩⟩; (try first | exact ⟨rfl, _, World.drewN_drewN _ _ _⟩ | exact ⟨rfl, _, Eq.trans (World.drewN_drewN _ _ _) (congrArg (World.drewN _) (Nat.add_assoc _ _ _))⟩))))
       go_ret
       exact ⟨by first | rfl | (simp [errW_none, errW_some] <;> rfl) | (simp only [← hji7]; first | rfl | (simp [errW_none, errW_some] <;> rfl)) | (simp [*, errW_none, errW_some] <;> rfl), zq9⟩
     ·rw [if_neg c9] at H
      exact absurd H zq25
    ·rw [if_neg c8] at H
     exact absurd H zq25
   ·rw [if_neg c6] at H
    exact absurd H zq25
  ·rw [if_neg c5] at H
   exact absurd H zq25
 ·replace c4 := Bool.eq_false_iff.mpr c4
  subst c4
  rw [if_neg (show ¬ (false = true) by decide)] at H
  obtain rfl := Option.some.inj H
  go_enter Try.func31, Try.ntmps31
  go_wp2_with (first | ((with_reducible refine gate_dst (N := 2) rfl ?_); refine zE 2 (cs := #[.int .i64 a0_0, .slice A0_1 l0_1.length c0_1]) 40 ?_; intro gb274 hg w21 hbox hb; have BK274 := am (hbox); have GW274 := am ((zq20 : w.heap.size ≤ gb274)); have GE274 := am ((zq20 : w.heap.size ≤ gb274)); replace HB := am (below_step (pBq4 HB) hb); clear hb hbox hg; have hcz22_0 : w21.cell? ⟨gb274, 0, none⟩ = some (.int .i64 a0_0) := (blk_cell BK274.out 0).trans rfl; have hcz22_1 : w21.cell? ⟨gb274, 1, none⟩ = some (.slice A0_1 l0_1.length c0_1) := (blk_cell BK274.out 1).trans rfl; have hfz22_0 := blk_frozen BK274.out 0; have hfz22_1 := blk_frozen BK274.out 1) | (go_at_call 46; (with_reducible refine (impl_between.calls a1 0 (wrap64 ((l0_1.length : Int) - 3)) false _ A3.out).mono ?_); rintro e w' ⟨rfl, ⟨nd, rfl⟩⟩; (try first | exact ⟨rfl, _, World.drewN_drewN _ _ _⟩ | exact ⟨rfl, _, Eq.trans (World.drewN_drewN _ _ _) (congrArg (World.drewN _) (Nat.add_assoc _ _ _))⟩)))
  repeat (go_quiet (first | ((with_reducible refine gate_dst (N := 2) rfl ?_); refine zE 2 (cs := #[.int .i64 a0_0, .slice A0_1 l0_1.length c0_1]) 40 ?_; intro gb274 hg w21 hbox hb; have BK274 := am (hbox); have GW274 := am ((zq20 : w.heap.size ≤ gb274)); have GE274 := am ((zq20 : w.heap.size ≤ gb274)); replace HB := am (below_step (pBq4 HB) hb); clear hb hbox hg; have hcz22_0 : w21.cell? ⟨gb274, 0, none⟩ = some (.int .i64 a0_0) := (blk_cell BK274.out 0).trans rfl; have hcz22_1 : w21.cell? ⟨gb274, 1, none⟩ = some (.slice A0_1 l0_1.length c0_1) := (blk_cell BK274.out 1).trans rfl; have hfz22_0 := blk_frozen BK274.out 0; have hfz22_1 := blk_frozen BK274.out 1) | (go_at_call 46; (with_reducible refine (impl_between.calls a1 0 (wrap64 ((l0_1.length : Int) - 3)) false _ A3.out).mono ?_); rintro e w' ⟨rfl, ⟨nd, rfl⟩⟩; (try first | exact ⟨rfl, _, World.drewN_drewN _ _ _⟩ | exact ⟨rfl, _, Eq.trans (World.drewN_drewN _ _ _) (congrArg (World.drewN _) (Nat.add_assoc _ _ _))⟩))); try go_wp2_with (first | ((with_reducible refine gate_dst (N := 2) rfl ?_); refine zE 2 (cs := #[.int .i64 a0_0, .slice A0_1 l0_1.length c0_1]) 40 ?_; intro gb274 hg w21 hbox hb; have BK274 := am (hbox); have GW274 := am ((zq20 : w.heap.size ≤ gb274)); have GE274 := am ((zq20 : w.heap.size ≤ gb274)); replace HB := am (below_step (pBq4 HB) hb); clear hb hbox hg; have hcz22_0 : w21.cell? ⟨gb274, 0, none⟩ = some (.int .i64 a0_0) := (blk_cell BK274.out 0).trans rfl; have hcz22_1 : w21.cell? ⟨gb274, 1, none⟩ = some (.slice A0_1 l0_1.length c0_1) := (blk_cell BK274.out 1).trans rfl; have hfz22_0 := blk_frozen BK274.out 0; have hfz22_1 := blk_frozen BK274.out 1) | (go_at_call 46; (with_reducible refine (impl_between.calls a1 0 (wrap64 ((l0_1.length : Int) - 3)) false _ A3.out).mono ?_); rintro e w' ⟨rfl, ⟨nd, rfl⟩⟩; (try first | exact ⟨rfl, _, World.drewN_drewN _ _ _⟩ | exact ⟨rfl, _, Eq.trans (World.drewN_drewN _ _ _) (congrArg (World.drewN _) (Nat.add_assoc _ _ _))⟩))))
  go_ret
  exact ⟨zq7, zq9⟩
/-! ### slices_Reverse_int_int: function 80 -/
def slices_Reverse_int_int.l0 : Nat → List Int → Int → Int → Option (List Int)
 | 0, _, _, _ => none
 | k + 1, x0, x2, x3 => if x2 < x3 then (if 0 ≤ x3 then (if x3 < (x0.length : Int) then (if 0 ≤ x2 then (if x2 < (x0.length : Int) then (slices_Reverse_int_int.l0 k ((x0.set (x2 : Int).toNat (rd x0 x3)).set (x3 : Int).toNat (rd x0 x2)) (wrap64 (x2 + 1)) (wrap64 (x3 - 1))) else (none)) else (none)) else (none)) else (none)) else (some x0)
def slices_Reverse_int_int.f (k : Nat) (l0 : List Int) : Option (List Int) := slices_Reverse_int_int.l0 k l0 0 (wrap64 ((l0.length : Int) - 1))
theorem slices_Reverse_int_int.mono_l : ∀ k, (∀ y0 y1 y2, LeO (slices_Reverse_int_int.l0 k y0 y1 y2) (slices_Reverse_int_int.l0 (k + 1) y0 y1 y2))
 | 0 => fun _ _ _ r h => by simp [slices_Reverse_int_int.l0] at h
 | k + 1 => by
  have ih0 := slices_Reverse_int_int.mono_l k
  ·intro y0 y1 y2
   unfold slices_Reverse_int_int.l0
   repeat' first | (with_reducible first | exact ih0 _ _ _ | exact LeO.refl _ | exact LeO.none _ | refine LeO.ite ?_ ?_ | refine LeO.bind ?_ (fun _ => ?_))
theorem slices_Reverse_int_int.mono : ∀ a0 k, LeO (slices_Reverse_int_int.f k a0) (slices_Reverse_int_int.f (k + 1) a0) := by
 intro a0 k
 have ih0 := slices_Reverse_int_int.mono_l k
 unfold slices_Reverse_int_int.f
 repeat' first | (with_reducible first | exact ih0 _ _ _ | exact LeO.refl _ | exact LeO.none _ | refine LeO.ite ?_ ?_ | refine LeO.bind ?_ (fun _ => ?_))
def slices_Reverse_int_int.T3 : Bool × List (List Nat × List Nat) := (true, [([], []), ([], []), ([], []), ([], []), ([], []), ([], []), ([4, 5], [4, 5]), ([6], [6]), ([], []), ([], []), ([8, 9], [8, 9]), ([10], [10]), ([0, 1, 0, 1, 4, 5, 6, 7, 11], [0, 1]), ([12, 7, 0, 1, 4, 5, 6, 7, 11], [7, 12]), ([2, 3, 0, 1, 2, 3, 4, 5, 6, 7, 8, 9, 10, 11, 12, 13], [2, 3]), ([14, 11, 13, 0, 1, 2, 3, 4, 5, 6, 7, 8, 9, 10, 11, 12, 13], [11, 14])])
def slices_Reverse_int_int.B3 : List Nat := [0, 0, 0, 0, 0, 0, 48, 112, 0, 0, 768, 1792, 4083, 8179, 16383, 32767]
theorem slices_Reverse_int_int.tab3 : rtab .any (opsOf Try.f80 3) = slices_Reverse_int_int.T3 := by kernel_rfl
theorem slices_Reverse_int_int.bits3 : waitsOk slices_Reverse_int_int.T3.2 slices_Reverse_int_int.B3 = true := by kernel_rfl
theorem slices_Reverse_int_int.calls (k : Nat) (P0_ : Nat → Prop) (u9000_ : Value) (l0 : List Int) (r : List Int) (w0 w : World) (hB : Below w0.heap.size w0 w) (ho0 : Kd.R (Kd.int .i64) 3 w w0.heap.size P0_ u9000_ l0) (h : slices_Reverse_int_int.f k l0 = some r) :
  Calls Try.prog 80 #[u9000_] w fun e w' => e = .returned (.tuple #[]) ∧ Kd.R (Kd.int .i64) 3 w' w0.heap.size (fun k_ => (P0_ k_ ∨ w.heap.size ≤ k_)) u9000_ r ∧ Below w0.heap.size w0 w' ∧ Kept w w' (fun k_ => P0_ k_) := by
 have HO0 := am (show Kd.R (Kd.int .i64) 3 w w0.heap.size (fun k_ => (P0_ k_ ∨ w.heap.size ≤ k_)) u9000_ l0 from Kd.R_mono ho0 (fun k_ hk => (.inl hk)))
 have HK := am (Kept.refl w (fun k_ => P0_ k_))
 have HW0 := am hB.size
 have HB := am hB
 clear hB
 have H : (slices_Reverse_int_int.l0 k l0 0 (wrap64 ((l0.length : Int) - 1))) = some r := h
 clear h
 have H' := am H
 clear H
 obtain ⟨Ao2, co2, eo2⟩ := Kd.R_slice HO0.out
 subst eo2
 go_enter Try.func80, Try.ntmps80
 go_wp2
 go_loopg [2, 3] k (fun kq v2 v3 w' => ∃ (x0_1 : List Int) (x2_1 : Int) (x3_1 : Int), v2 = .int .i64 x2_1 ∧ v3 = .int .i64 x3_1 ∧ Aside0 (slices_Reverse_int_int.l0 kq x0_1 x2_1 x3_1 = some r) ∧ Aside0 (kq ≤ k) ∧ Aside0 (Kd.R (Kd.int .i64) 3 w' w0.heap.size (fun k_ => (P0_ k_ ∨ w.heap.size ≤ k_)) (.slice Ao2 l0.length co2) x0_1) ∧ Aside0 (Kept w w' (fun k_ => P0_ k_)) ∧ Aside0 (Below w0.heap.size w0 w'))
 case atStart => exact ⟨(l0), (0), (wrap64 ((l0.length : Int) - 1)), zq2, zq2, H', ⟨Nat.le_refl _⟩, ⟨by (with_reducible repeat (first | apply Kd.R_alloc | apply Kd.R_drewN | apply Kd.R_drew)); exact HO0.out⟩, ⟨zq14⟩, ⟨zq1⟩⟩
 case round =>
  clear H'
  try clear p2
  obtain ⟨x0_1, x2_1, x3_1, rfl, rfl, HA, HK1, HO_0, HK, HB⟩ := hrel
  have hl0_1 := (Kd.R_reads' HO_0.out).1
  rw [hl0_1] at HO_0
  (try simp only [hl0_1])
  cases gk with
  | zero => exact absurd HA.out (by simp [slices_Reverse_int_int.l0])
  | succ k1 =>
   have H := HA.out
   clear HA
   simp only [slices_Reverse_int_int.l0] at H
   by_cases c3 : x2_1 < x3_1
   ·rw [if_pos c3] at H
    have c3b0 : decide (x2_1 < x3_1) = true := decide_eq_true c3
    clear c3
    by_cases c4 : 0 ≤ x3_1
    ·rw [if_pos c4] at H
     have c4b0 : decide (0 ≤ x3_1) = true := decide_eq_true c4
     clear c4
     by_cases c5 : x3_1 < (x0_1.length : Int)
     ·rw [if_pos c5] at H
      have c5b0 : decide (x3_1 < (x0_1.length : Int)) = true := decide_eq_true c5
      clear c5
      by_cases c6 : 0 ≤ x2_1
      ·rw [if_pos c6] at H
       have c6b0 : decide (0 ≤ x2_1) = true := decide_eq_true c6
       clear c6
       by_cases c7 : x2_1 < (x0_1.length : Int)
       ·rw [if_pos c7] at H
        have c7b0 : decide (x2_1 < (x0_1.length : Int)) = true := decide_eq_true c7
        clear c7
        obtain ⟨y282, hy282⟩ : ∃ y_ : List Int, y_ = (x0_1.set (x2_1 : Int).toNat (rd x0_1 x3_1)) := ⟨_, rfl⟩
        replace H : (slices_Reverse_int_int.l0 k1 (y282.set (x3_1 : Int).toNat (rd x0_1 x2_1)) (wrap64 (x2_1 + 1)) (wrap64 (x3_1 - 1))) = some r := by first | (rw [hy282]; exact zH) | exact zH
        have Ny282 := am hy282
        clear hy282
        obtain ⟨y283, hy283⟩ : ∃ y_ : List Int, y_ = (y282.set (x3_1 : Int).toNat (rd x0_1 x2_1)) := ⟨_, rfl⟩
        replace H : (slices_Reverse_int_int.l0 k1 y283 (wrap64 (x2_1 + 1)) (wrap64 (x3_1 - 1))) = some r := by first | (rw [hy283]; exact zH) | exact zH
        have Ny283 := am hy283
        clear hy283
        have H' := am H
        clear H
        try go_wp2
        replace HO_0 := am (Kd.R_drew HO_0.out)
        replace HK := am (Kept.drew HK.out)
        replace HB := am (below_drew1 HB.out)
        have p280 : 0 ≤ (x3_1 : Int) := of_decide_eq_true zq0
        have q280 : x3_1 < (x0_1.length : Int) := of_decide_eq_true zq0
        obtain ⟨ad280, e280, hx280_0⟩ := Kd.at_int (Kd.R_reads' HO_0.out).2.2 x3_1 p280 q280
        cases e280
        replace p280 := eq_true p280
        replace q280 := eq_true q280
        have p281 : 0 ≤ (x2_1 : Int) := of_decide_eq_true zq0
        have q281 : x2_1 < (x0_1.length : Int) := of_decide_eq_true zq0
        obtain ⟨ad281, e281, hx281_0⟩ := Kd.at_int (Kd.R_reads' HO_0.out).2.2 x2_1 p281 q281
        obtain rfl : ad280 = ad281 := (by injection e281)
        replace p281 := eq_true p281
        replace q281 := eq_true q281
        have p8 : 0 ≤ (x2_1 : Int) := of_decide_eq_true zq0
        have q8 : (x2_1 : Int) < ((x0_1.length : Int) : Int) := of_decide_eq_true zq0
        obtain ⟨go8, co8, eo8, gb8, gl8, cl8, HG8⟩ := Kd.R_form HO_0.out zq11
        (first | cases eo8 | (injection eo8 with ea_ en_ ec_; (first | subst ea_ | (injection ea_ with ea_; subst ea_)); subst ec_; clear en_))
        have GB8 := am gb8
        have GG8 := am HG8
        clear gb8 gl8 HG8
        have HMgo8 := am (show (P0_ go8 ∨ w.heap.size ≤ go8) from (HO_0.out.1 _ rfl))
        (first | simp only [add_plain] at hx280_0 | skip)
        (first | simp only [add_plain] at hx281_0 | skip)
        obtain ⟨hx8_0, hf8_0⟩ := Kd.R_celln 0 HO_0.out (x2_1 : Int) p8 q8
        replace p8 := eq_true p8
        replace q8 := eq_true q8
        have HP11 := Kd.R_putn HO_0.out (x2_1 : Int) (rd x0_1 x3_1)
        rw [← Ny282.out] at HP11
        have HQ11 := am HP11
        clear HP11
        have p9 : 0 ≤ (x3_1 : Int) := of_decide_eq_true zq0
        have q9 : (x3_1 : Int) < ((x0_1.length : Int) : Int) := of_decide_eq_true zq0
        obtain ⟨hx9_0, hf9_0⟩ := Kd.R_celln 0 HQ11.out (x3_1 : Int) p9 q9
        replace p9 := eq_true p9
        replace q9 := eq_true q9
        have HP12 := Kd.R_putn HQ11.out (x3_1 : Int) (rd x0_1 x2_1)
        rw [← Ny283.out] at HP12
        have HQ12 := am HP12
        clear HP12
        refine start_ (n := 16) (S := fun w' => w'.cell? ⟨go8, (x3_1).toNat, none⟩ = some (.int .i64 (rd x0_1 x3_1)) ∧ w'.cell? ⟨go8, (x2_1).toNat, none⟩ = some (.int .i64 (rd x0_1 x2_1))) (ds := [13, 15]) #[false, false, false, false, false, false, false, false, false, false, false, false, false, false, false, false] zq24 rfl rfl ⟨hx280_0, hx281_0⟩ (fun hHeld => ?_); refine with_tabW slices_Reverse_int_int.tab3 slices_Reverse_int_int.bits3 (fun HT_ HW_ => ?_)
        generalize wr.drew = w10 at HO_0 HK HB GG8 HQ11 HQ12 hf8_0 hf9_0 hx280_0 hx281_0 hx8_0 hx9_0 hHeld ⊢
        refine zU 0 14 HT_ ?_
        refine zU 1 15 HT_ ?_
        refine zU 2 16 HT_ ?_
        refine zU 3 17 HT_ ?_
        refine zU 4 18 HT_ ?_
        refine zU 5 19 HT_ ?_
        refine zU 6 20 HT_ ?_
        refine zU 8 22 HT_ ?_
        refine zU 9 23 HT_ ?_
        refine zU 10 24 HT_ ?_
        refine zT 7 21 HT_ HW_ hHeld ?_
        refine zT 11 25 HT_ HW_ hHeld ?_
        refine zU 12 26 HT_ ?_
        refine last_ (i := 13) (N := none) #[true, true, true, true, true, true, true, true, true, true, true, true, true, true, false, false] rfl rfl (one_of HT_.out zq24) zq34 (fun K hK => ?_)
        refine skip_ (w1 := ?_) (by rfl) rfl ?_ ?_
        rotate_left
        ·go_simp
         rfl
        refine hK.out _ _ ?_
        clear hK K
        refine zU 14 27 HT_ ?_
        refine last_ (i := 15) (N := none) #[true, true, true, true, true, true, true, true, true, true, true, true, true, true, true, true] rfl rfl (one_of HT_.out zq24) zq34 (fun K hK => ?_)
        refine skip_ (w1 := ?_) (by rfl) rfl ?_ ?_
        rotate_left
        ·go_simp
         rfl
        refine hK.out _ _ ?_
        clear hK K
        refine done_ (done_of HT_.out zq24) ?_
        try go_wp2
        (try simp only [← hl0_1])
        go_roundg k1
        case measure => have := HK1.out; omega
        case rel => exact ⟨(y283), (wrap64 (x2_1 + 1)), (wrap64 (x3_1 - 1)), zq2, zq2, H', ⟨zq27⟩, ⟨by (try simp only [hl0_1]); (with_reducible repeat (first | apply Kd.R_alloc | apply Kd.R_drewN | apply Kd.R_drew)); exact HQ12.out⟩, ⟨by repeat (first | (with_reducible first | exact HK.out | apply Kept.alloc | apply Kept.drewN | apply Kept.drew | refine Kept.setCell ?_ HMgo8.out _ | refine Kept.setCell ?_ HMgo8.out _) | exact HK.out)⟩, ⟨by repeat (first | (with_reducible first | exact HB.out | apply below_alloc | apply pw_below_drewN | apply below_drew1 | refine below_set ?_ GB8.out | refine below_set ?_ GB8.out) | exact HB.out)⟩⟩
       ·rw [if_neg c7] at H
        exact absurd H zq25
      ·rw [if_neg c6] at H
       exact absurd H zq25
     ·rw [if_neg c5] at H
      exact absurd H zq25
    ·rw [if_neg c4] at H
     exact absurd H zq25
   ·rw [if_neg c3] at H
    have c3b0 : decide (x2_1 < x3_1) = false := decide_eq_false c3
    clear c3
    obtain rfl := Option.some.inj H
    go_wp2
    first | go_end0 | ((try simp only [Exit.inBlock, Exit.then]); refine bodyPost_ret (results_none rfl _ _ _) rfl ?_)
    exact ⟨zq7, (by first | exact (pRq4 HO_0) | (simp only [hl0_1]; exact (pRq4 HO_0))), zq1, zq14⟩
/-! ### slices_Insert_int_int: function 60 -/
def slices_Insert_int_int.f (l0 : List Int) (a1 : Int) (l2 : List Int) : Option (List Int) := if 0 ≤ a1 then (if a1 ≤ (l0.length : Int) then (if 0 < l2.length then (if l0.length + l2.length ≤ 1048576 then (some (l0.take a1.toNat ++ l2 ++ l0.drop a1.toNat)) else (none)) else (none)) else (none)) else (none)
theorem slices_Insert_int_int.encs_map (l : List Int) : encs (Value.int .i64) l = l.map (Value.int .i64) := by simp [encs]
theorem slices_Insert_int_int.put (g : Nat) (cur : Array Value) (e : TypeId) (W : World) (i m k : Nat) (vs zs : List Value) (hvs : vs.length = m) (hzs : zs.length = k) (hh : W.heap[g]? = some (.cells cur e (0, 0))) (hsz : i + m + k ≤ cur.size) :
  (∃ c, ((W.setCells g i vs).setCells g (i + m) zs).heap[g]? = some (.cells c e (0, 0)) ∧ c.size = cur.size ∧ c.toList.take (i + m + k) = cur.toList.take i ++ vs ++ zs) ∧ (∃ c, ((W.setCells g (i + m) zs).setCells g i vs).heap[g]? = some (.cells c e (0, 0)) ∧ c.size = cur.size ∧ c.toList.take (i + m + k) = cur.toList.take i ++ vs ++ zs) := by
 have hl : cur.toList.length = cur.size := Array.length_toList
 constructor
 ·obtain ⟨c1, h1, h2, h3⟩ := setCells_row vs i W cur hh zq11
  obtain ⟨c2, h4, h5, h6⟩ := setCells_row zs (i + m) _ c1 h1 zq11
  refine ⟨c2, h4, zq11, ?_⟩
  have e1 : c1.toList.take (i + m) = cur.toList.take i ++ vs := by
   rw [h3]; exact List.take_left' (by rw [List.length_append, List.length_take]; omega)
  rw [h6, e1]
  exact List.take_left' zq63
 ·obtain ⟨c1, h1, h2, h3⟩ := setCells_row zs (i + m) W cur hh zq11
  obtain ⟨c2, h4, h5, h6⟩ := setCells_row vs i _ c1 h1 zq11
  refine ⟨c2, h4, zq11, ?_⟩
  have e1 : c1.toList.take i = cur.toList.take i := by
   rw [h3, List.append_assoc, List.take_append_of_le_length (by rw [List.length_take]; omega), List.take_take, Nat.min_eq_left zq11]
  have e2 : c1.toList.drop (i + vs.length) = zs ++ cur.toList.drop (i + m + zs.length) := by
   rw [h3, List.append_assoc]
   exact List.drop_left' (by rw [List.length_take]; omega)
  rw [h6, e1, e2, ← List.append_assoc]
  exact List.take_left' zq63
theorem slices_Insert_int_int.fin (g : Nat) (c : Array Value) (W : World) (base n' cap : Nat) (P' : Nat → Prop) (r : List Int) (hh : W.heap[g]? = some (.cells c 3 (0, 0))) (hc : c.size = cap) (hr : r.length = n') (hn : n' ≤ cap) (hcm : cap ≤ maxLen) (hb : base ≤ g) (hP : P' g) (ht : c.toList.take n' = r.map (Value.int .i64)) : Kd.R (Kd.int .i64) 3 W base P' (.slice (some ⟨g, 0, none⟩) n' cap) r := by
 subst hr
 refine Kd.R_of_own (enc := Value.int .i64) (h1 := fun _ => rfl) ?_ (fun k hk => ?_)
 ·refine ⟨by rw [encs_length, Nat.mul_one], .inr ⟨g, cap, c, rfl, hb, hh, hn, hcm, zq11, ?_⟩⟩
  rw [Nat.mul_one, ht, slices_Insert_int_int.encs_map]
 ·simp only [Value.ownBlock] at hk
  obtain rfl : g = k := by simpa using hk
  exact hP
theorem slices_Insert_int_int.world (g : Nat) (w0 w W : World) (base o1 o2 : Nat) (vs zs : List Value) (S : Nat → Prop) (hS : S g ∨ w.heap.size ≤ g) (hb : base ≤ g) (hB : Below base w0 W) (hK : Kept w W S) :
  Below base w0 ((W.setCells g o1 vs).setCells g o2 zs) ∧ Kept w ((W.setCells g o1 vs).setCells g o2 zs) S := by
 obtain ⟨s1, s2, s3, s4⟩ := setCells_same g vs o1 W
 obtain ⟨t1, t2, t3, t4⟩ := setCells_same g zs o2 (W.setCells g o1 vs)
 have hfar : ∀ k, k ≠ g → ((W.setCells g o1 vs).setCells g o2 zs).heap[k]? = W.heap[k]? := fun k hk => (setCells_far zs _ k hk).trans (setCells_far vs _ k hk)
 refine ⟨⟨by rw [t1, s1]; exact hB.os, by rw [t2, s2]; exact hB.tape, by rw [t3, s3]; exact hB.output, by rw [t4, s4]; exact hB.size, fun k hk => (hfar k zq11).trans (hB.block k hk)⟩, ⟨by rw [t4, s4]; exact hK.1, fun k hk hn => (hfar k (fun e => ?_)).trans (hK.2 k hk hn)⟩⟩
 subst e
 rcases hS with h | h
 ·exact hn h
 ·omega
theorem slices_Insert_int_int.cells {g n : Nat} {cur : Array Value} {W : World} {l : List Int} (hh : W.heap[g]? = some (.cells cur 3 (0, 0))) (hl : l.length = n) (ht : cur.toList.take n = l.map (Value.int .i64)) : ∀ j v, (l.map (Value.int .i64))[j]? = some v → W.cell? ⟨g, 0 + j, none⟩ = some v := by
 intro j v hv
 have hj : j < n := by
  have := (List.getElem?_eq_some_iff.1 hv).1
  rwa [List.length_map, hl] at this
 rw [Nat.zero_add, cell_of_row W g j cur 3 (0, 0) hh, ← hv, ← ht, List.getElem?_take, if_pos hj, Array.getElem?_toList]
theorem slices_Insert_int_int.some_cell {g j : Nat} {cur : Array Value} {W : World} (hh : W.heap[g]? = some (.cells cur 3 (0, 0))) (hj : j < cur.size) : (W.cell? ⟨g, j, none⟩).isSome = true := by
 rw [cell_of_row W g j cur 3 (0, 0) hh, Array.getElem?_eq_getElem hj]; rfl
theorem slices_Insert_int_int.one (l : List Int) : ∀ v ∈ l.map (Value.int .i64), v.oneCell' = true := by
 intro v hv
 obtain ⟨x, _, rfl⟩ := List.mem_map.1 hv
 rfl
theorem slices_Insert_int_int.own {w : World} {base : Nat} {P' : Nat → Prop} {v : Value} {l : List Int} (h : Kd.R (Kd.int .i64) 3 w base P' v l) : (v = .slice none 0 0 ∧ l = []) ∨ ∃ g cap cur, v = .slice (some ⟨g, 0, none⟩) l.length cap ∧ base ≤ g ∧ P' g ∧ w.heap[g]? = some (.cells cur 3 (0, 0)) ∧ l.length ≤ cap ∧ cap ≤ maxLen ∧ cur.size = cap ∧ cur.toList.take l.length = l.map (Value.int .i64) := by
 rcases (Kd.own_of_R (enc := Value.int .i64) (h1 := fun _ => rfl) h).2 with ⟨hv, hn⟩ | ⟨g, cap, cur, hv, hb, hh, hnc, hcm, hcs, ht⟩
 ·exact .inl ⟨by rw [hv], List.eq_nil_of_length_eq_zero hn⟩
 ·refine .inr ⟨g, cap, cur, hv, hb, h.1 g (by rw [hv]; simp [Value.ownBlock]), hh, hnc, hcm, zq11, ?_⟩
  rw [Nat.mul_one, slices_Insert_int_int.encs_map] at ht
  exact ht
set_option maxHeartbeats 4000000 in
set_option maxRecDepth 100000 in
theorem slices_Insert_int_int.calls (P0_ : Nat → Prop) (u9000_ : Value) (l0 : List Int) (a1 : Int) (P2_ : Nat → Prop) (u9001_ : Value) (l2 : List Int) (r : List Int) (w0 w : World) (hB : Below w0.heap.size w0 w) (ho0 : Kd.R (Kd.int .i64) 3 w w0.heap.size P0_ u9000_ l0) (hp0_2 : ∀ k_, P0_ k_ → ¬ P2_ k_) (ho2 : Kd.R (Kd.int .i64) 3 w w0.heap.size P2_ u9001_ l2) (hp2_0 : ∀ k_, P2_ k_ → ¬ P0_ k_) (h : slices_Insert_int_int.f l0 a1 l2 = some r) :
  Calls Try.prog 60 #[u9000_, .int .i64 a1, u9001_] w fun e w' => ∃ v0_ : Value, e = .returned (v0_) ∧ Kd.R (Kd.int .i64) 3 w' w0.heap.size (fun k_ => ((P0_ k_ ∨ P2_ k_) ∨ w.heap.size ≤ k_)) v0_ r ∧ Below w0.heap.size w0 w' ∧ Kept w w' (fun k_ => P0_ k_ ∨ P2_ k_) := by
 unfold slices_Insert_int_int.f at h
 by_cases h1 : 0 ≤ a1
 ·rw [if_pos h1] at h
  by_cases h2 : a1 ≤ (l0.length : Int)
  ·rw [if_pos h2] at h
   by_cases h3 : 0 < l2.length
   ·rw [if_pos h3] at h
    by_cases h4 : l0.length + l2.length ≤ 1048576
    ·rw [if_pos h4] at h
     obtain rfl := Option.some.inj h
     clear h
     obtain ⟨i, rfl⟩ := Int.eq_ofNat_of_zero_le h1
     simp only [Int.toNat_natCast]
     have hi : i ≤ l0.length := zq11
     rcases slices_Insert_int_int.own ho2 with ⟨_, e⟩ | ⟨vb, vc, vcur, rfl, hvb, hvP, hvh, hvn, hvm, hvs, hvt⟩
     ·subst e; simp at h3
     have hvcell := slices_Insert_int_int.cells hvh rfl hvt
     have hone := slices_Insert_int_int.one l2
     have hvl : (l2.map (Value.int .i64)).length = l2.length := List.length_map _
     have hml : maxLen = 9223372036854775807 := rfl
     have hrl : (l0.take i ++ l2 ++ l0.drop i).length = l0.length + l2.length := by simp; omega
     have hws := hB.size
     rcases slices_Insert_int_int.own ho0 with ⟨rfl, e⟩ | ⟨g, cap, cur, rfl, hb, hP, hh, hnc, hcm, hcs, ht⟩
     ·subst e
      obtain rfl : i = 0 := by simpa using hi
      refine (Any2.slices_Insert_int_end_grow Try.lays21 none 0 0 vb 0 l2.length vc [] (l2.map (Value.int .i64)) w h3 (Nat.le_refl _) zq11 (by simp at h4; omega) rfl hvl (fun _ => rfl) (fun a h => by cases h) hvcell hone).mono ?_
      rintro e w' ⟨rfl, rfl⟩
      have g1 := grownCap_ge w (0 + l2.length) 0 3
      have g2 := grownCap_le_maxLen w (0 + l2.length) 0 3 (by simp at h4; omega)
      refine ⟨_, rfl, slices_Insert_int_int.fin w.heap.size _ _ _ _ _ _ _ (by show (Array.push w.heap _)[w.heap.size]? = _; exact Array.getElem?_push_size) ?_ zq25 g1 g2 hws (.inr (Nat.le_refl _)) ?_, below_alloc (below_drew1 hB) _, Kept.alloc (Kept.drew (Kept.refl _ _)) _⟩
      ·rw [show Try.lays21_ren.t 3 = 3 from rfl]
       have e : grownCap w l2.length 0 3 = grownCap w (0 + l2.length) 0 3 := by rw [Nat.zero_add]
       simp only [Array.size_append, size_zeroCells, List.size_toArray, List.length_append, List.length_map, List.length_nil, Value.cells]
       simp
       simp at g1
       omega
      ·rw [Array.toList_append, List.nil_append]
       simp [List.take_append_of_le_length]
     ·have hcell := slices_Insert_int_int.cells hh rfl ht
      have hcl : (l0.map (Value.int .i64)).length = l0.length := List.length_map _
      have honec := slices_Insert_int_int.one l0
      have hvg : vb ≠ g := fun e => hp0_2 g hP (e ▸ hvP)
      have hdl : ((l0.map (Value.int .i64)).drop i).length = l0.length - i := zq25
      have hfin : (cur.toList.take i ++ l2.map (Value.int .i64) ++ (l0.map (Value.int .i64)).drop i) = (l0.take i ++ l2 ++ l0.drop i).map (Value.int .i64) := by
       have e1 : cur.toList.take i = (l0.map (Value.int .i64)).take i := by rw [← ht, List.take_take, Nat.min_eq_left hi]
       rw [e1, List.map_append, List.map_append, List.map_take, List.map_drop]
      by_cases hroom : l0.length + l2.length ≤ cap
      ·obtain ⟨⟨c1, p1, p2, p3⟩, ⟨c2, q1, q2, q3⟩⟩ := slices_Insert_int_int.put g cur 3 w i l2.length (l0.length - i) (l2.map (Value.int .i64)) ((l0.map (Value.int .i64)).drop i) hvl hdl hh zq11
       by_cases hin : i = l0.length
       ·subst hin
        refine (Any2.slices_Insert_int_end_room Try.lays21 g 0 l0.length cap vb 0 l2.length vc (l2.map (Value.int .i64)) w h3 hroom zq11 hvl (fun j hj => slices_Insert_int_int.some_cell hh zq11) (fun j hj => blk_frozen hh _) hvcell hone).mono ?_
        rintro e w' ⟨rfl, rfl⟩
        have hd : (l0.map (Value.int .i64)).drop l0.length = [] := List.drop_eq_nil_of_le zq25
        rw [hd] at p1 p3 hfin
        have hW := slices_Insert_int_int.world g w0 w w w0.heap.size l0.length (l0.length + l2.length) (l2.map (Value.int .i64)) [] (fun k_ => P0_ k_ ∨ P2_ k_) (.inl (.inl hP)) hb hB (Kept.refl _ _)
        rw [Nat.zero_add]
        exact ⟨_, rfl, slices_Insert_int_int.fin g c1 _ _ _ _ _ _ p1 zq11 hrl hroom hcm hb (.inl (.inl hP)) (by rw [← hfin, ← p3]; congr 1; omega), hW.1, hW.2⟩
       ·refine (Any2.slices_Insert_int_shift Try.lays21 g 0 l0.length cap i vb 0 l2.length vc (l0.map (Value.int .i64)) (l2.map (Value.int .i64)) w zq11 h3 hroom zq11 hvg hcl hvl hcell (fun j hj => slices_Insert_int_int.some_cell hh zq11) (fun j hj => blk_frozen hh _) hvcell honec hone 3 3 vcur.size cur.size (by simp [World.shape?, hvh]) (by simp [World.shape?, hh]) zq11 (blk_frozen hvh _) (blk_frozen hvh _)).mono ?_
        rintro e w' ⟨rfl, rfl⟩
        have hW := slices_Insert_int_int.world g w0 w w.drew w0.heap.size (i + l2.length) i ((l0.map (Value.int .i64)).drop i) (l2.map (Value.int .i64)) (fun k_ => P0_ k_ ∨ P2_ k_) (.inl (.inl hP)) hb (below_drew1 hB) (Kept.drew (Kept.refl _ _))
        obtain ⟨_, ⟨c3, r1, r2, r3⟩⟩ := slices_Insert_int_int.put g cur 3 w.drew i l2.length (l0.length - i) (l2.map (Value.int .i64)) ((l0.map (Value.int .i64)).drop i) hvl hdl hh zq11
        rw [Nat.zero_add, Nat.zero_add]
        exact ⟨_, rfl, slices_Insert_int_int.fin g c3 _ _ _ _ _ _ r1 zq11 hrl hroom hcm hb (.inl (.inl hP)) (by rw [← hfin, ← r3]; congr 1; omega), hW.1, hW.2⟩
      ·have g1 := grownCap_ge w (l0.length + l2.length) cap 3
       have g2 := grownCap_le_maxLen w (l0.length + l2.length) cap 3 zq11
       by_cases hin : i = l0.length
       ·subst hin
        refine (Any2.slices_Insert_int_end_grow Try.lays21 (some ⟨g, 0, none⟩) l0.length cap vb 0 l2.length vc (l0.map (Value.int .i64)) (l2.map (Value.int .i64)) w h3 hnc zq11 zq11 hcl hvl (fun h => by cases h) (fun a ha j v hv => by cases ha; rw [add_at]; exact hcell j v hv) hvcell hone).mono ?_
        rintro e w' ⟨rfl, rfl⟩
        refine ⟨_, rfl, slices_Insert_int_int.fin w.heap.size _ _ _ _ _ _ _ (by show (Array.push w.heap _)[w.heap.size]? = _; exact Array.getElem?_push_size) ?_ hrl g1 g2 hws (.inr (Nat.le_refl _)) ?_, below_alloc (below_drew1 hB) _, Kept.alloc (Kept.drew (Kept.refl _ _)) _⟩
        ·rw [show Try.lays21_ren.t 3 = 3 from rfl]
         simp only [Array.size_append, size_zeroCells, List.size_toArray, List.length_append, List.length_map, Value.cells]
         simp
         omega
        ·rw [Array.toList_append, List.take_left' zq25]
         simp
       ·refine (Any2.slices_Insert_int_grow Try.lays21 g 0 l0.length cap i vb 0 l2.length vc (l0.map (Value.int .i64)) (l2.map (Value.int .i64)) w zq11 h3 hnc zq11 zq11 hcl hvl hcell hvcell honec hone).mono ?_
        rintro e w' ⟨rfl, rfl⟩
        obtain ⟨arr, harr⟩ : ∃ arr : Array Value, arr = ((l0.map (Value.int .i64)).take i).toArray ++ Builtin.zeroCells (Value.int .i64 0).cells (l0.length + l2.length - i) ++ Builtin.zeroCells (Value.int .i64 0).cells (grownCap w (l0.length + l2.length) cap 3 - (l0.length + l2.length)) := ⟨_, rfl⟩
        have hasz : arr.size = grownCap w (l0.length + l2.length) cap 3 := by
         rw [harr]
         simp only [Array.size_append, size_zeroCells, List.size_toArray, List.length_take, List.length_map, Value.cells]
         simp
         omega
        have hat : arr.toList.take i = cur.toList.take i := by
         have e1 : cur.toList.take i = (l0.map (Value.int .i64)).take i := by rw [← ht, List.take_take, Nat.min_eq_left hi]
         rw [e1, harr, Array.toList_append, Array.toList_append, List.append_assoc]
         exact List.take_left' (by simp; omega)
        have hnew : (w.alloc (.cells arr 3)).drew.drew.heap[w.heap.size]? = some (.cells arr 3 (0, 0)) := by
         show (Array.push w.heap _)[w.heap.size]? = _
         exact Array.getElem?_push_size
        have hW := slices_Insert_int_int.world w.heap.size w0 w (w.alloc (.cells arr 3)).drew.drew w0.heap.size i (i + l2.length) (l2.map (Value.int .i64)) ((l0.map (Value.int .i64)).drop i) (fun k_ => P0_ k_ ∨ P2_ k_) (.inr (Nat.le_refl _)) hws (below_drew1 (below_drew1 (below_alloc hB _))) (Kept.drew (Kept.drew (Kept.alloc (Kept.refl _ _) _)))
        obtain ⟨⟨c3, r1, r2, r3⟩, _⟩ := slices_Insert_int_int.put w.heap.size arr 3 _ i l2.length (l0.length - i) (l2.map (Value.int .i64)) ((l0.map (Value.int .i64)).drop i) hvl hdl hnew zq11
        rw [show Try.lays21_ren.t 3 = 3 from rfl, ← harr, drew_setCells]
        exact ⟨_, rfl, slices_Insert_int_int.fin w.heap.size c3 _ _ _ _ _ _ r1 zq11 hrl g1 g2 hws (.inr (Nat.le_refl _)) (by rw [← hfin, ← hat, ← r3]; congr 1; omega), hW.1, hW.2⟩
    ·rw [if_neg h4] at h; cases h
   ·rw [if_neg h3] at h; cases h
  ·rw [if_neg h2] at h; cases h
 ·rw [if_neg h1] at h; cases h
/-! ### slices_Replace_int_int: function 47 -/
def slices_Replace_int_int.f (l0 : List Int) (a1 : Int) (a2 : Int) (l3 : List Int) : Option (List Int) := if 0 ≤ a1 then (if a2 = a1 + (l3.length : Int) then (if a2 ≤ (l0.length : Int) then (if 0 < l3.length then (if l0.length ≤ 1048576 then (some (l0.take a1.toNat ++ l3 ++ l0.drop a2.toNat)) else (none)) else (none)) else (none)) else (none)) else (none)
theorem slices_Replace_int_int.encs_map (l : List Int) : encs (Value.int .i64) l = l.map (Value.int .i64) := by simp [encs]
theorem slices_Replace_int_int.put (g : Nat) (cur : Array Value) (e : TypeId) (W : World) (i m k : Nat) (vs zs : List Value) (hvs : vs.length = m) (hzs : zs.length = k) (hh : W.heap[g]? = some (.cells cur e (0, 0))) (hsz : i + m + k ≤ cur.size) :
  (∃ c, ((W.setCells g i vs).setCells g (i + m) zs).heap[g]? = some (.cells c e (0, 0)) ∧ c.size = cur.size ∧ c.toList.take (i + m + k) = cur.toList.take i ++ vs ++ zs) ∧ (∃ c, ((W.setCells g (i + m) zs).setCells g i vs).heap[g]? = some (.cells c e (0, 0)) ∧ c.size = cur.size ∧ c.toList.take (i + m + k) = cur.toList.take i ++ vs ++ zs) := by
 have hl : cur.toList.length = cur.size := Array.length_toList
 constructor
 ·obtain ⟨c1, h1, h2, h3⟩ := setCells_row vs i W cur hh zq11
  obtain ⟨c2, h4, h5, h6⟩ := setCells_row zs (i + m) _ c1 h1 zq11
  refine ⟨c2, h4, zq11, ?_⟩
  have e1 : c1.toList.take (i + m) = cur.toList.take i ++ vs := by
   rw [h3]; exact List.take_left' (by rw [List.length_append, List.length_take]; omega)
  rw [h6, e1]
  exact List.take_left' zq63
 ·obtain ⟨c1, h1, h2, h3⟩ := setCells_row zs (i + m) W cur hh zq11
  obtain ⟨c2, h4, h5, h6⟩ := setCells_row vs i _ c1 h1 zq11
  refine ⟨c2, h4, zq11, ?_⟩
  have e1 : c1.toList.take i = cur.toList.take i := by
   rw [h3, List.append_assoc, List.take_append_of_le_length (by rw [List.length_take]; omega), List.take_take, Nat.min_eq_left zq11]
  have e2 : c1.toList.drop (i + vs.length) = zs ++ cur.toList.drop (i + m + zs.length) := by
   rw [h3, List.append_assoc]
   exact List.drop_left' (by rw [List.length_take]; omega)
  rw [h6, e1, e2, ← List.append_assoc]
  exact List.take_left' zq63
theorem slices_Replace_int_int.fin (g : Nat) (c : Array Value) (W : World) (base n' cap : Nat) (P' : Nat → Prop) (r : List Int) (hh : W.heap[g]? = some (.cells c 3 (0, 0))) (hc : c.size = cap) (hr : r.length = n') (hn : n' ≤ cap) (hcm : cap ≤ maxLen) (hb : base ≤ g) (hP : P' g) (ht : c.toList.take n' = r.map (Value.int .i64)) : Kd.R (Kd.int .i64) 3 W base P' (.slice (some ⟨g, 0, none⟩) n' cap) r := by
 subst hr
 refine Kd.R_of_own (enc := Value.int .i64) (h1 := fun _ => rfl) ?_ (fun k hk => ?_)
 ·refine ⟨by rw [encs_length, Nat.mul_one], .inr ⟨g, cap, c, rfl, hb, hh, hn, hcm, zq11, ?_⟩⟩
  rw [Nat.mul_one, ht, slices_Replace_int_int.encs_map]
 ·simp only [Value.ownBlock] at hk
  obtain rfl : g = k := by simpa using hk
  exact hP
theorem slices_Replace_int_int.world (g : Nat) (w0 w W : World) (base o1 o2 : Nat) (vs zs : List Value) (S : Nat → Prop) (hS : S g ∨ w.heap.size ≤ g) (hb : base ≤ g) (hB : Below base w0 W) (hK : Kept w W S) :
  Below base w0 ((W.setCells g o1 vs).setCells g o2 zs) ∧ Kept w ((W.setCells g o1 vs).setCells g o2 zs) S := by
 obtain ⟨s1, s2, s3, s4⟩ := setCells_same g vs o1 W
 obtain ⟨t1, t2, t3, t4⟩ := setCells_same g zs o2 (W.setCells g o1 vs)
 have hfar : ∀ k, k ≠ g → ((W.setCells g o1 vs).setCells g o2 zs).heap[k]? = W.heap[k]? := fun k hk => (setCells_far zs _ k hk).trans (setCells_far vs _ k hk)
 refine ⟨⟨by rw [t1, s1]; exact hB.os, by rw [t2, s2]; exact hB.tape, by rw [t3, s3]; exact hB.output, by rw [t4, s4]; exact hB.size, fun k hk => (hfar k zq11).trans (hB.block k hk)⟩, ⟨by rw [t4, s4]; exact hK.1, fun k hk hn => (hfar k (fun e => ?_)).trans (hK.2 k hk hn)⟩⟩
 subst e
 rcases hS with h | h
 ·exact hn h
 ·omega
theorem slices_Replace_int_int.cells {g n : Nat} {cur : Array Value} {W : World} {l : List Int} (hh : W.heap[g]? = some (.cells cur 3 (0, 0))) (hl : l.length = n) (ht : cur.toList.take n = l.map (Value.int .i64)) : ∀ j v, (l.map (Value.int .i64))[j]? = some v → W.cell? ⟨g, 0 + j, none⟩ = some v := by
 intro j v hv
 have hj : j < n := by
  have := (List.getElem?_eq_some_iff.1 hv).1
  rwa [List.length_map, hl] at this
 rw [Nat.zero_add, cell_of_row W g j cur 3 (0, 0) hh, ← hv, ← ht, List.getElem?_take, if_pos hj, Array.getElem?_toList]
theorem slices_Replace_int_int.some_cell {g j : Nat} {cur : Array Value} {W : World} (hh : W.heap[g]? = some (.cells cur 3 (0, 0))) (hj : j < cur.size) : (W.cell? ⟨g, j, none⟩).isSome = true := by
 rw [cell_of_row W g j cur 3 (0, 0) hh, Array.getElem?_eq_getElem hj]; rfl
theorem slices_Replace_int_int.one (l : List Int) : ∀ v ∈ l.map (Value.int .i64), v.oneCell' = true := by
 intro v hv
 obtain ⟨x, _, rfl⟩ := List.mem_map.1 hv
 rfl
theorem slices_Replace_int_int.own {w : World} {base : Nat} {P' : Nat → Prop} {v : Value} {l : List Int} (h : Kd.R (Kd.int .i64) 3 w base P' v l) : (v = .slice none 0 0 ∧ l = []) ∨ ∃ g cap cur, v = .slice (some ⟨g, 0, none⟩) l.length cap ∧ base ≤ g ∧ P' g ∧ w.heap[g]? = some (.cells cur 3 (0, 0)) ∧ l.length ≤ cap ∧ cap ≤ maxLen ∧ cur.size = cap ∧ cur.toList.take l.length = l.map (Value.int .i64) := by
 rcases (Kd.own_of_R (enc := Value.int .i64) (h1 := fun _ => rfl) h).2 with ⟨hv, hn⟩ | ⟨g, cap, cur, hv, hb, hh, hnc, hcm, hcs, ht⟩
 ·exact .inl ⟨by rw [hv], List.eq_nil_of_length_eq_zero hn⟩
 ·refine .inr ⟨g, cap, cur, hv, hb, h.1 g (by rw [hv]; simp [Value.ownBlock]), hh, hnc, hcm, zq11, ?_⟩
  rw [Nat.mul_one, slices_Replace_int_int.encs_map] at ht
  exact ht
set_option maxHeartbeats 4000000 in
set_option maxRecDepth 100000 in
theorem slices_Replace_int_int.calls (P0_ : Nat → Prop) (u9000_ : Value) (l0 : List Int) (a1 : Int) (a2 : Int) (P3_ : Nat → Prop) (u9001_ : Value) (l3 : List Int) (r : List Int) (w0 w : World) (hB : Below w0.heap.size w0 w) (ho0 : Kd.R (Kd.int .i64) 3 w w0.heap.size P0_ u9000_ l0) (hp0_3 : ∀ k_, P0_ k_ → ¬ P3_ k_) (ho3 : Kd.R (Kd.int .i64) 3 w w0.heap.size P3_ u9001_ l3) (hp3_0 : ∀ k_, P3_ k_ → ¬ P0_ k_) (h : slices_Replace_int_int.f l0 a1 a2 l3 = some r) :
  Calls Try.prog 47 #[u9000_, .int .i64 a1, .int .i64 a2, u9001_] w fun e w' => ∃ v0_ : Value, e = .returned (v0_) ∧ Kd.R (Kd.int .i64) 3 w' w0.heap.size (fun k_ => ((P0_ k_ ∨ P3_ k_) ∨ w.heap.size ≤ k_)) v0_ r ∧ Below w0.heap.size w0 w' ∧ Kept w w' (fun k_ => P0_ k_ ∨ P3_ k_) := by
 unfold slices_Replace_int_int.f at h
 by_cases h1 : 0 ≤ a1
 ·rw [if_pos h1] at h
  by_cases h2 : a2 = a1 + (l3.length : Int)
  ·rw [if_pos h2] at h
   by_cases h3 : a2 ≤ (l0.length : Int)
   ·rw [if_pos h3] at h
    by_cases h4 : 0 < l3.length
    ·rw [if_pos h4] at h
     by_cases h5 : l0.length ≤ 1048576
     ·rw [if_pos h5] at h
      obtain rfl := Option.some.inj h
      clear h
      obtain ⟨i, rfl⟩ := Int.eq_ofNat_of_zero_le h1
      obtain ⟨j, rfl⟩ := Int.eq_ofNat_of_zero_le (show 0 ≤ a2 by omega)
      simp only [Int.toNat_natCast]
      have hj : j = i + l3.length := zq11
      have hjn : j ≤ l0.length := zq11
      have hij : i < j := zq11
      rcases slices_Replace_int_int.own ho3 with ⟨_, e⟩ | ⟨vb, vc, vcur, rfl, hvb, hvP, hvh, hvn, hvm, hvs, hvt⟩
      ·subst e; simp at h4
      rcases slices_Replace_int_int.own ho0 with ⟨_, e⟩ | ⟨g, cap, cur, rfl, hb, hP, hh, hnc, hcm, hcs, ht⟩
      ·subst e; simp at hjn; omega
      have hvcell := slices_Replace_int_int.cells hvh rfl hvt
      have hone := slices_Replace_int_int.one l3
      have hcell := slices_Replace_int_int.cells hh rfl ht
      have hvg : vb ≠ g := fun e => hp0_3 g hP (e ▸ hvP)
      have hml : maxLen = 9223372036854775807 := rfl
      obtain ⟨⟨c1, p1, p2, p3⟩, _⟩ := slices_Replace_int_int.put g cur 3 w i l3.length (l0.length - j) (l3.map (Value.int .i64)) ((l0.drop j).map (Value.int .i64)) zq25 zq25 hh zq11
      have hW := slices_Replace_int_int.world g w0 w w w0.heap.size i (i + l3.length) (l3.map (Value.int .i64)) ((l0.drop j).map (Value.int .i64)) (fun k_ => P0_ k_ ∨ P3_ k_) (.inl (.inl hP)) hb hB (Kept.refl _ _)
      have hvl : (l3.map (Value.int .i64)).length = l3.length := List.length_map _
      have hsrc : Src Try.prog 1 22 (.slice (some ⟨vb, 0, none⟩) l3.length vc) l3.length (l3.map (Value.int .i64)) w := Src.ofSlice w Try.underlying22 ⟨vb, 0, none⟩ l3.length vc (l3.map (Value.int .i64)) zq11 (fun j u hj => by rw [Addr.add_lit]; exact hvcell j u hj) hone
      by_cases hjl : j = l0.length
      ·have hroom : i + l3.length ≤ cap := zq11
       have hsp : ∀ q, q < l3.length → (w.cell? ⟨g, 0 + i + q, none⟩).isSome = true := fun q hq => slices_Replace_int_int.some_cell hh zq11
       have hfz : ∀ q, q < l3.length → w.frozen? ⟨g, 0 + i + q, none⟩ = false := fun q hq => blk_frozen hh _
       go_enter Try.func47, Try.ntmps47
       go_wp2_with (at_builtin; refine wpList_append_room1 _ rfl _ _ 22 22 rfl 3 _ _ Try.underlying22 Try.lays21.i3 g 0 i cap rfl _ rfl l3.length (l3.map (Value.int .i64)) hsrc hroom (by rw [hvl]; exact hsp) (by rw [hvl]; exact hfz) ?_)
       go_ret
       have hd : (l0.drop j).map (Value.int .i64) = [] := by rw [List.drop_eq_nil_of_le zq11]; rfl
       rw [hd] at p1 p3 hW
       have hrl : (l0.take i ++ l3 ++ l0.drop j).length = i + l3.length := by simp; omega
       have hfin : cur.toList.take i ++ l3.map (Value.int .i64) ++ [] = (l0.take i ++ l3 ++ l0.drop j).map (Value.int .i64) := by
        have e1 : cur.toList.take i = (l0.map (Value.int .i64)).take i := by rw [← ht, List.take_take, Nat.min_eq_left zq11]
        rw [e1, ← hd, List.map_append, List.map_append, List.map_take]
       exact ⟨_, rfl, slices_Replace_int_int.fin g c1 _ _ _ _ _ _ p1 zq11 hrl hroom hcm hb (.inl (.inl hP)) (by rw [← hfin, ← p3]; congr 1; omega), hW.1, hW.2⟩
      ·have hsz : (Try.prog.info? 3).map (·.size) = some 1 := by
        obtain ⟨i0, hi0, hz0, hz1, hz2⟩ := info_parts info3
        rw [hi0]; simp [hz1]
       subst hj
       have hjn' : i + l3.length < l0.length := zq11
       have hcp1 : ∀ q L dc ty, l3.length ≤ L → (Builtin.copy_ #[22, 22] ty #[.slice (some ⟨g, i, none⟩) L dc, .slice (some ⟨vb, 0, none⟩) l3.length vc]).run Try.prog (w.drewN q) = .ok (goInt (l3.map (Value.int .i64)).length) ((w.drewN q).setCells g i (l3.map (Value.int .i64))) := fun q L dc ty hL =>
        run_copy_cells (w.drewN q) _ _ ty 3 g i L dc ⟨vb, 0, none⟩ l3.length vc (l3.map (Value.int .i64)) Try.underlying22 hsz (by rw [hvl]; simp only [Nat.min_def]; split <;> omega) (fun j v hj => by rw [Addr.add_lit]; exact hvcell j v hj) (fun q' hq => slices_Replace_int_int.some_cell (W := w.drewN q) hh zq11) (fun q' hq => blk_frozen (w := w.drewN q) hh _) hone
       have hkeep : ∀ q k v, ((l0.drop (i + l3.length)).map (Value.int .i64))[k]? = some v → ((w.drewN q).setCells g i (l3.map (Value.int .i64))).drew.cell? ⟨g, i + l3.length + k, none⟩ = some v := fun q k v hk => by
        show ((w.drewN q).setCells g i (l3.map (Value.int .i64))).cell? ⟨g, i + l3.length + k, none⟩ = some v
        rw [World.cell?_setCells_out g _ i _ ⟨g, i + l3.length + k, none⟩ (fun _ _ => by show i + l3.length + k < i ∨ i + (l3.map (Value.int .i64)).length ≤ i + l3.length + k; rw [hvl]; omega)]
        have := hcell (i + l3.length + k) v (by rw [List.getElem?_map, List.getElem?_drop, ← List.getElem?_map] at hk; exact hk)
        rw [Nat.zero_add] at this
        exact this
       have hcp2 : ∀ q L dc K sc ty, l0.length - (i + l3.length) = L → l0.length - (i + l3.length) = K → (Builtin.copy_ #[22, 22] ty #[.slice (some ⟨g, i + l3.length, none⟩) L dc, .slice (some ⟨g, i + l3.length, none⟩) K sc]).run Try.prog ((w.drewN q).setCells g i (l3.map (Value.int .i64))).drew = .ok (goInt ((l0.drop (i + l3.length)).map (Value.int .i64)).length) (((w.drewN q).setCells g i (l3.map (Value.int .i64))).drew.setCells g (i + l3.length) ((l0.drop (i + l3.length)).map (Value.int .i64))) := fun q L dc K sc ty hL hK => by
        subst hL
        subst hK
        refine run_copy_cells _ _ _ ty 3 g (i + l3.length) _ dc ⟨g, i + l3.length, none⟩ _ sc ((l0.drop (i + l3.length)).map (Value.int .i64)) Try.underlying22 hsz zq25 (fun k v hk => by rw [Addr.add_lit]; exact hkeep q k v hk) (fun k hk => ?_) (fun k hk => ?_) (slices_Replace_int_int.one _)
        ·have hk' : k < ((l0.drop (i + l3.length)).map (Value.int .i64)).length := by simpa using hk
         rw [hkeep q k _ (List.getElem?_eq_getElem hk')]; rfl
        ·show ((w.drewN q).setCells g i (l3.map (Value.int .i64))).frozen? ⟨g, i + l3.length + k, none⟩ = false
         rw [World.frozen?_setCells]
         exact blk_frozen (w := w.drewN q) hh _
       have htot : (i : Int) + (l3.length : Int) + ((l0.length - (i + l3.length) : Nat) : Int) = (l0.length : Int) := zq11
       have hc1 : ¬ (cap = i + l3.length) := zq11
       have hclr : ∀ a k W ty, (Builtin.clear_ #[22] ty #[.slice (some a) 0 k]).run Try.prog W = .ok (.tuple #[]) W := fun a k W ty => by
        simp [Builtin.clear_]
       have mixed : Try.prog.follows .mixedOrders = true := Try.lays21.mixed
       have hw1 : IntKind.i64.wrap ((i : Int) + (l3.length : Int)) = (i : Int) + (l3.length : Int) := by rw [IntKind.wrap_i64]; omega
       have hb1 : (0 : Int) ≤ (i : Int) + (l3.length : Int) := zq11
       have htn : ((i : Int) + (l3.length : Int)).toNat = i + l3.length := zq11
       have hb3 : (i : Int) + (l3.length : Int) ≤ (l0.length : Int) := zq11
       go_enter Try.func47, Try.ntmps47
       go_wp2_with fail
       go_quiet (fail)
       go_wp2_with (first | rw [hcp1 _ _ _ _ zq11])
       go_region_law_o (refine step_copy_runI rfl _ _ 22 22 rfl _ _ (by simp [Act.eval, Act.put]) (by simp [Act.eval, Act.put]) (hcp2 _ _ _ _ _ _ zq11 zq11) ?_)
       go_wp2_with (first | rw [hclr])
       all_goals
        go_ret
        have hX := slices_Replace_int_int.put g cur 3 (w.drewN nq).drew i l3.length (l0.length - (i + l3.length)) (l3.map (Value.int .i64)) ((l0.drop (i + l3.length)).map (Value.int .i64)) zq25 zq25 hh zq11
        have hW2 := slices_Replace_int_int.world g w0 w (w.drewN nq).drew w0.heap.size i (i + l3.length) (l3.map (Value.int .i64)) ((l0.drop (i + l3.length)).map (Value.int .i64)) (fun k_ => P0_ k_ ∨ P3_ k_) (.inl (.inl hP)) hb (below_drew1 (pw_below_drewN hB nq)) (Kept.drew (Kept.drewN (Kept.refl _ _) nq))
        obtain ⟨⟨c3, r1, r2, r3⟩, _⟩ := hX
        have hrl : (l0.take i ++ l3 ++ l0.drop (i + l3.length)).length = l0.length := by simp; omega
        have hfin : cur.toList.take i ++ l3.map (Value.int .i64) ++ (l0.drop (i + l3.length)).map (Value.int .i64) = (l0.take i ++ l3 ++ l0.drop (i + l3.length)).map (Value.int .i64) := by
         have e1 : cur.toList.take i = (l0.map (Value.int .i64)).take i := by rw [← ht, List.take_take, Nat.min_eq_left zq11]
         rw [e1, List.map_append, List.map_append, List.map_take]
        have hd : List.drop (i + l3.length) (l0.map (Value.int .i64)) = (l0.drop (i + l3.length)).map (Value.int .i64) := (List.map_drop ..).symm
        rw [drew_setCells]
        exact ⟨_, rfl, slices_Replace_int_int.fin g c3 _ _ _ _ _ _ (by rw [hd]; exact r1) zq11 hrl zq11 zq11 hb (.inl (.inl hP)) (by rw [← hfin, ← r3]; congr 1; omega), by rw [hd]; exact hW2.1, by rw [hd]; exact hW2.2⟩
     ·rw [if_neg h5] at h; cases h
    ·rw [if_neg h4] at h; cases h
   ·rw [if_neg h3] at h; cases h
  ·rw [if_neg h2] at h; cases h
 ·rw [if_neg h1] at h; cases h
end
end Go.Proofs.Ytlmiiijjjcddkaa.PKa
