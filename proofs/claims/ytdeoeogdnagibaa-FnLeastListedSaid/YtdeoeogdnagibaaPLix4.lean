-- Written for this claim by a program of this session (myprint.py) over the kit's printer.
import Derived.Test.YtdeoeogdnagibaaPLix0
import Derived.Test.YtdeoeogdnagibaaPLix1
import Derived.Test.YtdeoeogdnagibaaPLix2
namespace Go.Proofs.Ytdeoeogdnagibaa.PLi
noncomputable section
open Go.RowKit Go.Proofs.YtdeoeogdnagibaaW.PrintWords Go.Proofs.YtdeoeogdnagibaaW.PrintLast Go.Proofs.YtdeoeogdnagibaaW.PrintMore
attribute [local go_sem] max2_int min2_int max_two min_two max_three min_three max_four min_four   -- for this text's walks alone
open List (setIfInBounds_toArray set_cons_zero set_cons_succ)
set_option maxHeartbeats 8000000
set_option maxRecDepth 100000
set_option linter.unusedVariables false
set_option linter.unusedSimpArgs false
theorem pRq4 {α : Type} {d : Kd α} {e base : Nat} {ok : Nat → Prop} {v : Value} {xs : List α} {w W : World} (h0 : Aside0 (Kd.R d e w base ok v xs)) (hp : Kd.R d e W base ok v xs := by (with_reducible repeat (first | apply Kd.R_alloc | apply Kd.R_drewN | apply Kd.R_drew)); exact Aside0.out (by with_reducible assumption)) : Kd.R d e W base ok v xs := hp
theorem pKq4 {g : Nat} {o : Obj} {w W : World} (h0 : Aside0 (w.heap[g]? = some o)) (hp : W.heap[g]? = some o := by (with_reducible repeat (first | refine blk_drewN ?_ _ | refine blk_drew ?_ | refine blk_alloc ?_ _)); exact Aside0.out (by with_reducible assumption)) : W.heap[g]? = some o := hp
theorem pBq4 {b : Nat} {w0 w W : World} (h0 : Aside0 (Below b w0 w)) (hp : Below b w0 W := by repeat (first | (with_reducible first | exact Aside0.out (by assumption) | apply below_alloc | apply pw_below_drewN | apply below_drew1 | refine below_set ?_ (Aside0.out (by assumption))))) : Below b w0 W := hp
/-! ### impl_CountFirst: function 11 -/
open Classical in
noncomputable def impl_CountFirst.ev {α : Type} (g : Nat → Option α) : Option α := if h : ∃ k r, g k = some r then g h.choose else none
theorem impl_CountFirst.ev_some {α : Type} {g : Nat → Option α} {r : α} (h : impl_CountFirst.ev g = some r) : ∃ k, g k = some r := by
 unfold impl_CountFirst.ev at h
 split at h
 ·exact ⟨_, h⟩
 ·cases h
noncomputable def impl_CountFirst.f (l0 : List Int) (a1 : Int) : Option (Int × Bool) := (impl_CountFirst.ev fun k => impl_isCounted.f k l0).bind fun t => if t = true then (impl_between.f a1 0 (wrap64 ((l0.length : Int) - 2))).bind fun u => (if u = true then (if l0.length ≤ 8 ∧ 0 ≤ a1 ∧ a1 + 1 < (l0.length : Int) then (if rd l0 a1 < rd l0 (a1 + 1) then some (0, true) else (impl_exchanged.f l0 a1).bind fun q => (impl_counter_count.f q).bind fun r => some (r, true)) else none) else some (0, false)) else some (0, false)
theorem impl_CountFirst.calls (A0 : Option Addr) (c0 : Nat) (l0 : List Int) (a1 : Int) (r1 : Int) (r2 : Bool) (w : World) (hr0 : Kd.C (Kd.int .i64) w A0 l0.length l0) (hc0 : l0.length ≤ c0) (h : impl_CountFirst.f l0 a1 = some (r1, r2)) :
  Calls Try.prog 11 #[.slice A0 l0.length c0, .int .i64 a1] w fun e w' => e = .returned (.tuple #[.int .i64 r1, .bool r2]) ∧ Below w.heap.size w w' := by
 have HR0 := am hr0
 have HC0 := am hc0
 clear hr0 hc0
 unfold impl_CountFirst.f at h
 obtain ⟨t, ht, h⟩ := Option.bind_eq_some_iff.1 h
 obtain ⟨kt, ht⟩ := impl_CountFirst.ev_some ht
 have HT := am ht
 clear ht
 cases t with
 | false =>
  rw [if_neg zq36] at h
  simp only [Option.some.injEq, Prod.mk.injEq] at h
  obtain ⟨rfl, rfl⟩ := h
  go_enter Try.func11, Try.ntmps11
  go_wp2_with (first | (go_at_call 31; (with_reducible refine (impl_isCounted.calls kt _ _ l0 false _ ?side1 HC0.out HT.out).mono ?_); (case side1 => exact HR0.out); rintro e w' ⟨rfl, ⟨nd, rfl⟩⟩))
  go_ret2
  exact ⟨rfl, pw_below_drewN (Below.refl _ _) nd⟩
 | true =>
  rw [if_pos rfl] at h
  obtain ⟨u, hu, h⟩ := Option.bind_eq_some_iff.1 h
  have HUU := am hu
  clear hu
  cases u with
  | false =>
   rw [if_neg zq36] at h
   simp only [Option.some.injEq, Prod.mk.injEq] at h
   obtain ⟨rfl, rfl⟩ := h
   go_enter Try.func11, Try.ntmps11
   go_wp2_with (first | (go_at_call 31; (with_reducible refine (impl_isCounted.calls kt _ _ l0 true _ ?side1 HC0.out HT.out).mono ?_); (case side1 => exact HR0.out); rintro e w' ⟨rfl, ⟨nd, rfl⟩⟩) | (go_at_call 36; (with_reducible refine (impl_between.calls a1 0 (wrap64 ((l0.length : Int) - 2)) false _ HUU.out).mono ?_); rintro e w' ⟨rfl, ⟨nd2, rfl⟩⟩))
   go_ret2
   exact ⟨rfl, zq56⟩
  | true =>
   rw [if_pos rfl] at h
   split at h
   ·rename_i hb
    obtain ⟨h8, p171, q0⟩ := hb
    have q171 : a1 < (l0.length : Int) := zq62
    obtain ⟨ji, hji⟩ : ∃ j_ : Int, wrap64 (a1 + 1) = j_ := ⟨_, rfl⟩
    have hjv : ji = a1 + 1 := by rw [← hji]; unfold wrap64; omega
    have hjiw : (IntKind.i64.wrap (a1 + 1)) = ji := (i64_w _).trans hji
    rw [← hjv] at h q0
    have p172 : 0 ≤ ji := zq62
    have q172 : ji < (l0.length : Int) := q0
    obtain ⟨ad, ead, hx0⟩ := Kd.at_int HR0.out a1 p171 q171
    cases ead
    obtain ⟨ad2, ead2, hy0⟩ := Kd.at_int HR0.out ji p172 q172
    obtain rfl : ad = ad2 := (by injection ead2)
    obtain ⟨x, hx⟩ : ∃ x, x = rd l0 a1 := ⟨_, rfl⟩
    obtain ⟨y, hy⟩ : ∃ y, y = rd l0 ji := ⟨_, rfl⟩
    rw [← hx] at hx0
    rw [← hy] at hy0
    rw [← hx, ← hy] at h
    have H8 := am h8
    clear hx hy ead2 h8 q0 hjv
    replace p171 := eq_true p171
    replace q171 := eq_true q171
    replace p172 := eq_true p172
    replace q172 := eq_true q172
    by_cases hc : x < y
    ·rw [if_pos hc] at h
     simp only [Option.some.injEq, Prod.mk.injEq] at h
     obtain ⟨rfl, rfl⟩ := h
     have hcd : decide (x < y) = true := decide_eq_true hc
     clear hc
     go_enter Try.func11, Try.ntmps11
     go_wp2_with (first | (go_at_call 31; (with_reducible refine (impl_isCounted.calls kt _ _ l0 true _ ?side1 HC0.out HT.out).mono ?_); (case side1 => exact HR0.out); rintro e w' ⟨rfl, ⟨nd, rfl⟩⟩) | (go_at_call 36; (with_reducible refine (impl_between.calls a1 0 (wrap64 ((l0.length : Int) - 2)) true _ HUU.out).mono ?_); rintro e w' ⟨rfl, ⟨nd2, rfl⟩⟩))
     repeat (go_quiet (fail); try go_wp2)
     go_ret2
     exact ⟨rfl, zq56⟩
    ·rw [if_neg hc] at h
     obtain ⟨q, hq, h⟩ := Option.bind_eq_some_iff.1 h
     obtain ⟨r, hr, h⟩ := Option.bind_eq_some_iff.1 h
     simp only [Option.some.injEq, Prod.mk.injEq] at h
     obtain ⟨rfl, rfl⟩ := h
     have hcd : decide (x < y) = false := decide_eq_false hc
     have HQ := am hq
     have HRR := am hr
     clear hc hq hr
     have hmm := @run_makeMap Try.prog
     go_enter Try.func11, Try.ntmps11
     go_wp2_with (first | (go_at_call 31; (with_reducible refine (impl_isCounted.calls kt _ _ l0 true _ ?side1 HC0.out HT.out).mono ?_); (case side1 => exact HR0.out); rintro e w' ⟨rfl, ⟨nd, rfl⟩⟩) | (go_at_call 36; (with_reducible refine (impl_between.calls a1 0 (wrap64 ((l0.length : Int) - 2)) true _ HUU.out).mono ?_); rintro e w' ⟨rfl, ⟨nd2, rfl⟩⟩))
     repeat (go_quiet (fail); try go_wp2_with (first | (go_at_call 37; (with_reducible refine (impl_exchanged.calls _ _ l0 a1 q _ ?side1 HC0.out HQ.out).mono ?_); (case side1 => exact zq25); rintro e w4 ⟨v4, rfl, ho4, hb4⟩; have HQR := am (Kd.R_mono (Kd.R_bound ho4) (fun k_ h_ => (show k_ ≠ w.heap.size from fun e_ => by have h2_ := h_.2.1; simp at h2_; omega))); have HB4 := am (below_step (w := w) zq22 hb4); have HM4 := am ((impl_counter_count.Mem.made _).below hb4); clear hb4 ho4; obtain ⟨A4, c4, e4⟩ := Kd.R_slice HQR.out; subst e4) | (go_at_call 32; (with_reducible refine (impl_counter_count.calls w.heap.size 0 _ _ q r w _ ?side1 (Nat.le_refl _) ?side2 zq36 ?side3 ?side4 HRR.out).mono ?_); (case side1 => exact HB4.out); (case side2 => exact HM4.out); (case side3 => exact zq113); (case side4 => exact zq152); rintro e w3 ⟨rfl, hm3, hb3, hk3⟩; have HB3 := am hb3; clear hm3 hb3 hk3)))
     go_ret2
     exact ⟨rfl, HB3.out⟩
   ·cases h
/-! ### impl_inverted: function 64 -/
mutual
def impl_inverted.l0 : Nat → List Int → List (List Int) → Int → Int → Option ((List (List Int)))
 | 0, _, _, _, _ => none
 | k + 1, x0, x3, x8, x9 => if x9 < x8 then (impl_inverted.l1 k x0 x3 x9 (wrap64 (x9 + 1)) x8 x9) else (some x3)
def impl_inverted.l1 : Nat → List Int → List (List Int) → Int → Int → Int → Int → Option ((List (List Int)))
 | 0, _, _, _, _, _, _ => none
 | k + 1, x0, x3, x4, x5, x8, x9 => if x5 < (x0.length : Int) then (if 0 ≤ x4 then (if x4 < (x0.length : Int) then (if 0 ≤ x5 then (if (rd x0 x4) > (rd x0 x5) then (if x3.length < 5864062014805 then (impl_inverted.l1 k x0 (x3 ++ [(([x4, x5] : List Int))]) x4 (wrap64 (x5 + 1)) x8 x9) else (none)) else (impl_inverted.l1 k x0 x3 x4 (wrap64 (x5 + 1)) x8 x9)) else (none)) else (none)) else (none)) else (impl_inverted.l0 k x0 x3 x8 (wrap64 (x9 + 1)))
end
def impl_inverted.f (k : Nat) (l0 : List Int) : Option ((List (List Int))) := impl_inverted.l0 k l0 (([] : List (List Int))) (l0.length : Int) 0
theorem impl_inverted.mono_l : ∀ k, (∀ y0 y1 y2 y3, LeO (impl_inverted.l0 k y0 y1 y2 y3) (impl_inverted.l0 (k + 1) y0 y1 y2 y3)) ∧ (∀ y0 y1 y2 y3 y4 y5, LeO (impl_inverted.l1 k y0 y1 y2 y3 y4 y5) (impl_inverted.l1 (k + 1) y0 y1 y2 y3 y4 y5))
 | 0 => ⟨fun _ _ _ _ r h => by simp [impl_inverted.l0] at h, fun _ _ _ _ _ _ r h => by simp [impl_inverted.l1] at h⟩
 | k + 1 => by
  obtain ⟨ih0, ih1⟩ := impl_inverted.mono_l k
  refine ⟨?_, ?_⟩
  ·intro y0 y1 y2 y3
   unfold impl_inverted.l0
   repeat' first | (with_reducible first | exact ih0 _ _ _ _ | exact ih1 _ _ _ _ _ _ | exact LeO.refl _ | exact LeO.none _ | refine LeO.ite ?_ ?_ | refine LeO.bind ?_ (fun _ => ?_))
  ·intro y0 y1 y2 y3 y4 y5
   unfold impl_inverted.l1
   repeat' first | (with_reducible first | exact ih0 _ _ _ _ | exact ih1 _ _ _ _ _ _ | exact LeO.refl _ | exact LeO.none _ | refine LeO.ite ?_ ?_ | refine LeO.bind ?_ (fun _ => ?_))
theorem impl_inverted.mono : ∀ a0 k, LeO (impl_inverted.f k a0) (impl_inverted.f (k + 1) a0) := by
 intro a0 k
 obtain ⟨ih0, ih1⟩ := impl_inverted.mono_l k
 unfold impl_inverted.f
 repeat' first | (with_reducible first | exact ih0 _ _ _ _ | exact ih1 _ _ _ _ _ _ | exact LeO.refl _ | exact LeO.none _ | refine LeO.ite ?_ ?_ | refine LeO.bind ?_ (fun _ => ?_))
theorem impl_inverted.calls (k : Nat) (A0 : Option Addr) (c0 : Nat) (l0 : List Int) (r : List (List Int)) (w : World) (hr0 : Kd.C (Kd.int .i64) w A0 l0.length l0) (hc0 : l0.length ≤ c0) (h : impl_inverted.f k l0 = some r) :
  Calls Try.prog 64 #[.slice A0 l0.length c0] w fun e w' => ∃ v0_ : Value, e = .returned (v0_) ∧ Kd.S (Kd.slice 3 (Kd.int .i64)) 24 w' w.heap.size (fun _ => True) v0_ r ∧ Below w.heap.size w w' := by
 have HR0 := am hr0
 have HC0 := am hc0
 clear hr0 hc0
 have HB := am (Below.refl w.heap.size w)
 have H : (impl_inverted.l0 k l0 (([] : List (List Int))) (l0.length : Int) 0) = some r := h
 clear h
 obtain ⟨y298, hy298⟩ : ∃ y_ : List (List Int), y_ = (([] : List (List Int))) := ⟨_, rfl⟩
 replace H : (impl_inverted.l0 k l0 y298 (l0.length : Int) 0) = some r := by first | (rw [hy298]; exact zH) | exact zH
 have Ny298 := am hy298
 clear hy298
 have H' := am H
 clear H
 go_enter Try.func64, Try.ntmps64
 go_wp2_with (first | ((with_reducible refine gate_dst (N := 6) rfl ?_); refine Kd.S_lit (Kd.slice 3 (Kd.int .i64)) _ 24 ?hg (N := 6) ?hd (xs := ([] : List (List Int))) (inner := []) (ok := fun _ => True) (okp := fun _ => True) ?hr ?hp (fun _ hk => hk) trivial (Below.refl _ _) (Nat.le_refl _) zq66 ?_; (case hd => rfl); (case hg => rfl); (case hr => exact zq53); (case hp => exact (Reps.none _ _)); intro v299 w2 ho3 hb hg_ hnew_; clear hg_ hnew_; (first | rw [← Ny298.out] at ho3 | (simp only [Int.reduceToNat] at ho3; rw [← Ny298.out] at ho3)); have HO300 := am (Kd.S_lower ho3 (below_size (pBq4 HB))); replace HB := am (below_step (pBq4 HB) hb); clear hb ho3))
 repeat (go_quiet (first | ((with_reducible refine gate_dst (N := 6) rfl ?_); refine Kd.S_lit (Kd.slice 3 (Kd.int .i64)) _ 24 ?hg (N := 6) ?hd (xs := ([] : List (List Int))) (inner := []) (ok := fun _ => True) (okp := fun _ => True) ?hr ?hp (fun _ hk => hk) trivial (Below.refl _ _) (Nat.le_refl _) zq66 ?_; (case hd => rfl); (case hg => rfl); (case hr => exact zq53); (case hp => exact (Reps.none _ _)); intro v299 w2 ho3 hb hg_ hnew_; clear hg_ hnew_; (first | rw [← Ny298.out] at ho3 | (simp only [Int.reduceToNat] at ho3; rw [← Ny298.out] at ho3)); have HO300 := am (Kd.S_lower ho3 (below_size (pBq4 HB))); replace HB := am (below_step (pBq4 HB) hb); clear hb ho3)); try go_wp2_with (first | ((with_reducible refine gate_dst (N := 6) rfl ?_); refine Kd.S_lit (Kd.slice 3 (Kd.int .i64)) _ 24 ?hg (N := 6) ?hd (xs := ([] : List (List Int))) (inner := []) (ok := fun _ => True) (okp := fun _ => True) ?hr ?hp (fun _ hk => hk) trivial (Below.refl _ _) (Nat.le_refl _) zq66 ?_; (case hd => rfl); (case hg => rfl); (case hr => exact zq53); (case hp => exact (Reps.none _ _)); intro v299 w2 ho3 hb hg_ hnew_; clear hg_ hnew_; (first | rw [← Ny298.out] at ho3 | (simp only [Int.reduceToNat] at ho3; rw [← Ny298.out] at ho3)); have HO300 := am (Kd.S_lower ho3 (below_size (pBq4 HB))); replace HB := am (below_step (pBq4 HB) hb); clear hb ho3)))
 go_loopg [3, 9] k (fun kq v3 v9 w' => ∃ (x3_1 : List (List Int)) (x9_1 : Int), v9 = .int .i64 x9_1 ∧ Aside0 (impl_inverted.l0 kq l0 x3_1 (l0.length : Int) x9_1 = some r) ∧ Aside0 (kq ≤ k) ∧ Aside0 (Kd.S (Kd.slice 3 (Kd.int .i64)) 24 w' w.heap.size (fun _ => True) v3 x3_1) ∧ Aside0 (Below w.heap.size w w'))
 case atStart => exact ⟨(y298), (0), zq13, H', ⟨Nat.le_refl _⟩, ⟨by (with_reducible repeat (first | apply Kd.S_alloc | apply Kd.S_drewN | apply Kd.S_drew)); exact HO300.out⟩, ⟨zq12⟩⟩
 case round =>
  clear H'
  try clear p2
  obtain ⟨x3_1, x9_1, rfl, HA, HK1, HO_3, HB⟩ := hrel
  cases gk with
  | zero => exact absurd HA.out (by simp [impl_inverted.l0])
  | succ k1 =>
   have H := HA.out
   clear HA
   simp only [impl_inverted.l0] at H
   by_cases c4 : x9_1 < (l0.length : Int)
   ·rw [if_pos c4] at H
    have c4b0 : decide (x9_1 < (l0.length : Int)) = true := decide_eq_true c4
    clear c4
    have H' := am H
    clear H
    go_wp2
    repeat (go_quiet (fail); try go_wp2)
    go_loopg [3, 5] k1 (fun kq v3 v5 w' => ∃ (x3_2 : List (List Int)) (x5_2 : Int), v5 = .int .i64 x5_2 ∧ Aside0 (impl_inverted.l1 kq l0 x3_2 x9_1 x5_2 (l0.length : Int) x9_1 = some r) ∧ Aside0 (kq ≤ k1) ∧ Aside0 (Kd.S (Kd.slice 3 (Kd.int .i64)) 24 w' w.heap.size (fun _ => True) v3 x3_2) ∧ Aside0 (Below w.heap.size w w'))
    case atStart => exact ⟨(x3_1), (wrap64 (x9_1 + 1)), zq13, H', ⟨Nat.le_refl _⟩, ⟨zq18⟩, ⟨zq12⟩⟩
    case round =>
     clear H'
     try clear p2
     try clear c4
     try clear c4b0
     try clear p2
     obtain ⟨x3_2, x5_2, rfl, HA, HK2, HO_3, HB⟩ := hrel
     cases gk with
     | zero => exact absurd HA.out (by simp [impl_inverted.l1])
     | succ k2 =>
      have H := HA.out
      clear HA
      simp only [impl_inverted.l1] at H
      by_cases c5 : x5_2 < (l0.length : Int)
      ·rw [if_pos c5] at H
       have c5b0 : decide (x5_2 < (l0.length : Int)) = true := decide_eq_true c5
       clear c5
       by_cases c6 : 0 ≤ x9_1
       ·rw [if_pos c6] at H
        have c6b0 : decide (0 ≤ x9_1) = true := decide_eq_true c6
        clear c6
        by_cases c7 : x9_1 < (l0.length : Int)
        ·rw [if_pos c7] at H
         have c7b0 : decide (x9_1 < (l0.length : Int)) = true := decide_eq_true c7
         clear c7
         by_cases c8 : 0 ≤ x5_2
         ·rw [if_pos c8] at H
          have c8b0 : decide (0 ≤ x5_2) = true := decide_eq_true c8
          clear c8
          by_cases c9 : (rd l0 x9_1) > (rd l0 x5_2)
          ·rw [if_pos c9] at H
           have c9b0 : decide ((rd l0 x5_2) < (rd l0 x9_1)) = true := decide_eq_true c9
           clear c9
           obtain ⟨y303, hy303⟩ : ∃ y_ : List Int, y_ = (([x9_1, x5_2] : List Int)) := ⟨_, rfl⟩
           replace H : (if x3_2.length < 5864062014805 then (impl_inverted.l1 k2 l0 (x3_2 ++ [y303]) x9_1 (wrap64 (x5_2 + 1)) (l0.length : Int) x9_1) else (none)) = some r := by first | (rw [hy303]; exact zH) | exact zH
           have Ny303 := am hy303
           clear hy303
           by_cases c10 : x3_2.length < 5864062014805
           ·rw [if_pos c10] at H
            have LMc10 := am c10
            clear c10
            obtain ⟨y306, hy306⟩ : ∃ y_ : List (List Int), y_ = (x3_2 ++ [y303]) := ⟨_, rfl⟩
            replace H : (impl_inverted.l1 k2 l0 y306 x9_1 (wrap64 (x5_2 + 1)) (l0.length : Int) x9_1) = some r := by first | (rw [hy306]; exact zH) | exact zH
            have Ny306 := am hy306
            clear hy306
            have H' := am H
            clear H
            have p301 : 0 ≤ (x9_1 : Int) := of_decide_eq_true zq9
            have q301 : x9_1 < (l0.length : Int) := of_decide_eq_true zq9
            obtain ⟨ad301, e301, hx301_0⟩ := Kd.at_int HR0.out x9_1 p301 q301
            cases e301
            replace hx301_0 := (HB.out.cell (World.block_lt_of_cell? w _ hx301_0)).trans hx301_0
            replace p301 := eq_true p301
            replace q301 := eq_true q301
            have p302 : 0 ≤ (x5_2 : Int) := of_decide_eq_true zq9
            have q302 : x5_2 < (l0.length : Int) := of_decide_eq_true zq9
            obtain ⟨ad302, e302, hx302_0⟩ := Kd.at_int HR0.out x5_2 p302 q302
            obtain rfl : ad301 = ad302 := (by injection e302)
            replace hx302_0 := (HB.out.cell (World.block_lt_of_cell? w _ hx302_0)).trans hx302_0
            replace p302 := eq_true p302
            replace q302 := eq_true q302
            go_wp2_with (first | ((with_reducible refine gate_dst (N := 32) rfl ?_); refine Kd.R_lit (Kd.int .i64) _ 3 ?hg (N := 32) ?hd (xs := ([x9_1, x5_2] : List Int)) (inner := [.int .i64 x9_1, .int .i64 x5_2]) (ok := fun _ => True) (okp := fun _ => True) ?hr ?hp (fun _ hk => hk) trivial (Below.refl _ _) (Nat.le_refl _) zq66 ?_; (case hd => rfl); (case hg => rfl); (case hr => exact zq53); (case hp => exact zq123); intro v304 w11 ho12 hb hg_ hnew_; clear hg_ hnew_; (first | rw [← Ny303.out] at ho12 | (simp only [Int.reduceToNat] at ho12; rw [← Ny303.out] at ho12)); have HO305 := am (Kd.R_lower ho12 (below_size (pBq4 HB))); replace HO_3 := am (Kd.S_elder' zq18 (Kd.R_base ho12) hb); replace HB := am (below_step (pBq4 HB) hb); clear hb ho12; obtain ⟨Ao14, co14, eo14⟩ := Kd.R_slice HO305.out; subst eo14) | ((with_reducible refine gate_builtin (b := .append) (xs := #[.tmp 29, .tmp 33]) rfl ?_); at_builtin; refine Kd.S_append (Kd.slice 3 (Kd.int .i64)) (w0 := w) w.heap.size rfl (.tmp 29) (.tmp 33) 53 24 (.slice none 0 0) 24 rfl Try.underlying53 info24 rfl zq36 zq62 u3 x3_2 y303 [.slice Ao14 y303.length co14] (fun _ => True) (fun k_ => some k_ = (.slice Ao14 y303.length co14 : Value).ownBlock) rfl rfl ?aP (fun k_ hk_ => ((Kd.R_mono (ok' := fun k_ => ((fun _ => True)) k_ ∧ some k_ ≠ (u3 : Value).ownBlock) (Kd.R_apart' (HO305.out) (Kd.S_typed HO_3.out) zq36) (fun k_ hk => ⟨trivial, hk.2⟩))).1 k_ hk_.symm) ?aF ?aO ?aB ?aS ?aL ?_; (case aP => exact zq104); (case aB => exact (pBq4 HB)); (case aF => exact zq145); (case aO => exact zq63); (case aS => exact (below_size (pBq4 HB))); (case aL => have := LMc10.out; omega); intro v307 w13 ho hb hg hat; rw [← Ny306.out] at ho; have HO308 := am (ho); replace HB := am (hb); clear HO_3 HO305; clear ho hb hg hat))
            repeat (go_quiet (first | ((with_reducible refine gate_dst (N := 32) rfl ?_); refine Kd.R_lit (Kd.int .i64) _ 3 ?hg (N := 32) ?hd (xs := ([x9_1, x5_2] : List Int)) (inner := [.int .i64 x9_1, .int .i64 x5_2]) (ok := fun _ => True) (okp := fun _ => True) ?hr ?hp (fun _ hk => hk) trivial (Below.refl _ _) (Nat.le_refl _) zq66 ?_; (case hd => rfl); (case hg => rfl); (case hr => exact zq53); (case hp => exact zq123); intro v304 w11 ho12 hb hg_ hnew_; clear hg_ hnew_; (first | rw [← Ny303.out] at ho12 | (simp only [Int.reduceToNat] at ho12; rw [← Ny303.out] at ho12)); have HO305 := am (Kd.R_lower ho12 (below_size (pBq4 HB))); replace HO_3 := am (Kd.S_elder' zq18 (Kd.R_base ho12) hb); replace HB := am (below_step (pBq4 HB) hb); clear hb ho12; obtain ⟨Ao14, co14, eo14⟩ := Kd.R_slice HO305.out; subst eo14) | ((with_reducible refine gate_builtin (b := .append) (xs := #[.tmp 29, .tmp 33]) rfl ?_); at_builtin; refine Kd.S_append (Kd.slice 3 (Kd.int .i64)) (w0 := w) w.heap.size rfl (.tmp 29) (.tmp 33) 53 24 (.slice none 0 0) 24 rfl Try.underlying53 info24 rfl zq36 zq62 u3 x3_2 y303 [.slice Ao14 y303.length co14] (fun _ => True) (fun k_ => some k_ = (.slice Ao14 y303.length co14 : Value).ownBlock) rfl rfl ?aP (fun k_ hk_ => ((Kd.R_mono (ok' := fun k_ => ((fun _ => True)) k_ ∧ some k_ ≠ (u3 : Value).ownBlock) (Kd.R_apart' (HO305.out) (Kd.S_typed HO_3.out) zq36) (fun k_ hk => ⟨trivial, hk.2⟩))).1 k_ hk_.symm) ?aF ?aO ?aB ?aS ?aL ?_; (case aP => exact zq104); (case aB => exact (pBq4 HB)); (case aF => exact zq145); (case aO => exact zq63); (case aS => exact (below_size (pBq4 HB))); (case aL => have := LMc10.out; omega); intro v307 w13 ho hb hg hat; rw [← Ny306.out] at ho; have HO308 := am (ho); replace HB := am (hb); clear HO_3 HO305; clear ho hb hg hat)); try go_wp2_with (first | ((with_reducible refine gate_dst (N := 32) rfl ?_); refine Kd.R_lit (Kd.int .i64) _ 3 ?hg (N := 32) ?hd (xs := ([x9_1, x5_2] : List Int)) (inner := [.int .i64 x9_1, .int .i64 x5_2]) (ok := fun _ => True) (okp := fun _ => True) ?hr ?hp (fun _ hk => hk) trivial (Below.refl _ _) (Nat.le_refl _) zq66 ?_; (case hd => rfl); (case hg => rfl); (case hr => exact zq53); (case hp => exact zq123); intro v304 w11 ho12 hb hg_ hnew_; clear hg_ hnew_; (first | rw [← Ny303.out] at ho12 | (simp only [Int.reduceToNat] at ho12; rw [← Ny303.out] at ho12)); have HO305 := am (Kd.R_lower ho12 (below_size (pBq4 HB))); replace HO_3 := am (Kd.S_elder' zq18 (Kd.R_base ho12) hb); replace HB := am (below_step (pBq4 HB) hb); clear hb ho12; obtain ⟨Ao14, co14, eo14⟩ := Kd.R_slice HO305.out; subst eo14) | ((with_reducible refine gate_builtin (b := .append) (xs := #[.tmp 29, .tmp 33]) rfl ?_); at_builtin; refine Kd.S_append (Kd.slice 3 (Kd.int .i64)) (w0 := w) w.heap.size rfl (.tmp 29) (.tmp 33) 53 24 (.slice none 0 0) 24 rfl Try.underlying53 info24 rfl zq36 zq62 u3 x3_2 y303 [.slice Ao14 y303.length co14] (fun _ => True) (fun k_ => some k_ = (.slice Ao14 y303.length co14 : Value).ownBlock) rfl rfl ?aP (fun k_ hk_ => ((Kd.R_mono (ok' := fun k_ => ((fun _ => True)) k_ ∧ some k_ ≠ (u3 : Value).ownBlock) (Kd.R_apart' (HO305.out) (Kd.S_typed HO_3.out) zq36) (fun k_ hk => ⟨trivial, hk.2⟩))).1 k_ hk_.symm) ?aF ?aO ?aB ?aS ?aL ?_; (case aP => exact zq104); (case aB => exact (pBq4 HB)); (case aF => exact zq145); (case aO => exact zq63); (case aS => exact (below_size (pBq4 HB))); (case aL => have := LMc10.out; omega); intro v307 w13 ho hb hg hat; rw [← Ny306.out] at ho; have HO308 := am (ho); replace HB := am (hb); clear HO_3 HO305; clear ho hb hg hat)))
            go_roundg k2
            case measure => have := HK1.out; have := HK2.out; omega
            case rel => exact ⟨(y306), (wrap64 (x5_2 + 1)), zq13, H', ⟨zq76⟩, ⟨by (with_reducible repeat (first | apply Kd.S_alloc | apply Kd.S_drewN | apply Kd.S_drew)); exact HO308.out⟩, ⟨zq12⟩⟩
           ·rw [if_neg c10] at H
            exact absurd H zq66
          ·rw [if_neg c9] at H
           have c9b0 : decide ((rd l0 x5_2) < (rd l0 x9_1)) = false := decide_eq_false c9
           clear c9
           have H' := am H
           clear H
           have p301 : 0 ≤ (x9_1 : Int) := of_decide_eq_true zq9
           have q301 : x9_1 < (l0.length : Int) := of_decide_eq_true zq9
           obtain ⟨ad301, e301, hx301_0⟩ := Kd.at_int HR0.out x9_1 p301 q301
           cases e301
           replace hx301_0 := (HB.out.cell (World.block_lt_of_cell? w _ hx301_0)).trans hx301_0
           replace p301 := eq_true p301
           replace q301 := eq_true q301
           have p302 : 0 ≤ (x5_2 : Int) := of_decide_eq_true zq9
           have q302 : x5_2 < (l0.length : Int) := of_decide_eq_true zq9
           obtain ⟨ad302, e302, hx302_0⟩ := Kd.at_int HR0.out x5_2 p302 q302
           obtain rfl : ad301 = ad302 := (by injection e302)
           replace hx302_0 := (HB.out.cell (World.block_lt_of_cell? w _ hx302_0)).trans hx302_0
           replace p302 := eq_true p302
           replace q302 := eq_true q302
           go_wp2
           repeat (go_quiet (fail); try go_wp2)
           go_roundg k2
           case measure => have := HK1.out; have := HK2.out; omega
           case rel => exact ⟨(x3_2), (wrap64 (x5_2 + 1)), zq13, H', ⟨zq76⟩, ⟨zq18⟩, ⟨zq12⟩⟩
         ·rw [if_neg c8] at H
          exact absurd H zq66
        ·rw [if_neg c7] at H
         exact absurd H zq66
       ·rw [if_neg c6] at H
        exact absurd H zq66
      ·rw [if_neg c5] at H
       have c5b0 : decide (x5_2 < (l0.length : Int)) = false := decide_eq_false c5
       clear c5
       have H' := am H
       clear H
       go_wp2
       repeat (go_quiet (fail); try go_wp2)
       go_roundg k2
       case measure => have := HK1.out; have := HK2.out; omega
       case rel => exact ⟨(x3_2), (wrap64 (x9_1 + 1)), zq13, H', ⟨zq76⟩, ⟨zq18⟩, ⟨zq12⟩⟩
   ·rw [if_neg c4] at H
    have c4b0 : decide (x9_1 < (l0.length : Int)) = false := decide_eq_false c4
    clear c4
    obtain rfl := Option.some.inj H
    go_wp2
    repeat (go_quiet (fail); try go_wp2)
    go_ret
    exact ⟨_, zq11, zq18, zq12⟩
/-! ### impl_inversions: function 39 -/
def impl_inversions.f (k : Nat) (l0 : List Int) : Option (Int) := (impl_inverted.f k l0).bind fun t309 => (some (t309.length : Int))
theorem impl_inversions.mono : ∀ a0 k, LeO (impl_inversions.f k a0) (impl_inversions.f (k + 1) a0) := by
 intro a0 k
 unfold impl_inversions.f
 repeat' first | (with_reducible first | exact impl_inverted.mono _ _ | exact LeO.refl _ | exact LeO.none _ | refine LeO.ite ?_ ?_ | refine LeO.bind ?_ (fun _ => ?_))
theorem impl_inversions.calls (k : Nat) (A0 : Option Addr) (c0 : Nat) (l0 : List Int) (r : Int) (w : World) (hr0 : Kd.C (Kd.int .i64) w A0 l0.length l0) (hc0 : l0.length ≤ c0) (h : impl_inversions.f k l0 = some r) :
  Calls Try.prog 39 #[.slice A0 l0.length c0] w fun e w' => e = .returned (.int .i64 r) ∧ Below w.heap.size w w' := by
 have HR0 := am hr0
 have HC0 := am hc0
 clear hr0 hc0
 have HB := am (Below.refl w.heap.size w)
 have H : ((impl_inverted.f k l0).bind fun t309 => (some (t309.length : Int))) = some r := h
 clear h
 obtain ⟨t309, A2, H⟩ := zS H
 (try dsimp only at H)
 obtain rfl := Option.some.inj H
 go_enter Try.func39, Try.ntmps39
 go_wp2_with (first | ((with_reducible refine gate_callee (f := 64) rfl ?_); refine goesL_ (some 4) rfl rfl Try.func64 zq26 rfl #[.slice A0 l0.length c0] rfl zq1 ?_; (with_reducible refine (impl_inverted.calls k _ _ l0 t309 _ ?side1 ?side2 A2.out).mono ?_); (case side1 => exact zq25); (case side2 => exact HC0.out); rintro e w3 ⟨v310, rfl, ho0, hb⟩; refine ⟨_, rfl, ?_⟩; have HO311 := am (Kd.S_lower ho0 (below_size (pBq4 HB))); replace HB := am (below_step (pBq4 HB) hb); (try clear hb ho0); obtain ⟨Ao4, co4, eo4⟩ := Kd.S_slice HO311.out; subst eo4))
 go_ret
 exact ⟨zq11, zq12⟩
/-! ### impl_InversionsOf: function 12 -/
def impl_InversionsOf.f (k : Nat) (l0 : List Int) : Option (Int × Bool) := (impl_isOrder.f k l0).bind fun t312 => (if t312 = true then ((impl_inversions.f k l0).bind fun t313 => (some (t313, true))) else (some (0, false)))
theorem impl_InversionsOf.mono : ∀ a0 k, LeO (impl_InversionsOf.f k a0) (impl_InversionsOf.f (k + 1) a0) := by
 intro a0 k
 unfold impl_InversionsOf.f
 repeat' first | (with_reducible first | exact impl_inversions.mono _ _ | exact impl_isOrder.mono _ _ | exact LeO.refl _ | exact LeO.none _ | refine LeO.ite ?_ ?_ | refine LeO.bind ?_ (fun _ => ?_))
theorem impl_InversionsOf.calls (k : Nat) (A0 : Option Addr) (c0 : Nat) (l0 : List Int) (r1 : Int) (r2 : Bool) (w : World) (hr0 : Kd.C (Kd.int .i64) w A0 l0.length l0) (hc0 : l0.length ≤ c0) (h : impl_InversionsOf.f k l0 = some (r1, r2)) :
  Calls Try.prog 12 #[.slice A0 l0.length c0] w fun e w' => e = .returned (.tuple #[.int .i64 r1, .bool r2]) ∧ Below w.heap.size w w' := by
 have HR0 := am hr0
 have HC0 := am hc0
 clear hr0 hc0
 have HB := am (Below.refl w.heap.size w)
 have H : ((impl_isOrder.f k l0).bind fun t312 => (if t312 = true then ((impl_inversions.f k l0).bind fun t313 => (some (t313, true))) else (some (0, false)))) = some (r1, r2) := h
 clear h
 obtain ⟨t312, A2, H⟩ := zS H
 (try dsimp only at H)
 by_cases c3 : t312 = true
 ·subst c3
  rw [if_pos rfl] at H
  obtain ⟨t313, A4, H⟩ := zS H
  (try dsimp only at H)
  simp only [Option.some.injEq, Prod.mk.injEq] at H
  obtain ⟨rfl, rfl⟩ := H
  go_enter Try.func12, Try.ntmps12
  go_wp2_with (first | ((with_reducible refine gate_callee (f := 38) rfl ?_); refine goesL_ (some 5) rfl rfl Try.func38 zq26 rfl #[.slice A0 l0.length c0] rfl zq1 ?_; (with_reducible refine (impl_isOrder.calls k _ _ l0 true _ ?side1 ?side2 A2.out).mono ?_); (case side1 => exact zq25); (case side2 => exact HC0.out); rintro e w' ⟨rfl, ⟨nd, rfl⟩⟩; refine ⟨_, rfl, ?_⟩) | ((with_reducible refine gate_callee (f := 39) rfl ?_); refine goesL_ (some 8) rfl rfl Try.func39 zq26 rfl #[.slice A0 l0.length c0] rfl zq1 ?_; (with_reducible refine (impl_inversions.calls k _ _ l0 t313 _ ?side1 ?side2 A4.out).mono ?_); (case side1 => exact zq25); (case side2 => exact HC0.out); rintro e w5 ⟨rfl, hb⟩; refine ⟨_, rfl, ?_⟩; replace HB := am (below_step (pBq4 HB) hb); (try clear hb)))
  go_ret2
  exact ⟨zq11, zq12⟩
 ·replace c3 := Bool.eq_false_iff.mpr c3
  subst c3
  rw [if_neg (show ¬ (false = true) by decide)] at H
  simp only [Option.some.injEq, Prod.mk.injEq] at H
  obtain ⟨rfl, rfl⟩ := H
  go_enter Try.func12, Try.ntmps12
  go_wp2_with (first | ((with_reducible refine gate_callee (f := 38) rfl ?_); refine goesL_ (some 5) rfl rfl Try.func38 zq26 rfl #[.slice A0 l0.length c0] rfl zq1 ?_; (with_reducible refine (impl_isOrder.calls k _ _ l0 false _ ?side1 ?side2 A2.out).mono ?_); (case side1 => exact zq25); (case side2 => exact HC0.out); rintro e w' ⟨rfl, ⟨nd, rfl⟩⟩; refine ⟨_, rfl, ?_⟩))
  go_ret2
  exact ⟨zq11, zq12⟩
/-! ### impl_isLadder: function 40 -/
def impl_isLadder.bad (n : Int) (x : Int) : Bool := !(decide (0 ≤ x) && decide (x ≤ n - 2))
def impl_isLadder.idx (p : Int → Bool) (l : List Int) : Int := if l.any p then ((l.findIdx p : Nat) : Int) else -1
def impl_isLadder.f (a0_0 : Int) (l0_1 : List Int) : Option Bool := some (decide (2 ≤ a0_0) && decide (a0_0 ≤ 8) && decide (l0_1.length ≤ 60) && !(l0_1.any (impl_isLadder.bad a0_0)))
theorem impl_isLadder.idx_hit (p : Int → Bool) (l : List Int) (i : Nat) (hi : i < l.length) (hp : p (rd l i) = true) (hb : ∀ j, j < i → p (rd l j) = false) : impl_isLadder.idx p l = (i : Int) := by
 have hg : ∀ j : Nat, ∀ h : j < l.length, rd l j = l[j] := fun j h => by
  show l.getD ((j : Int)).toNat 0 = _
  rw [Int.toNat_natCast, List.getD_eq_getElem?_getD, List.getElem?_eq_getElem h]; rfl
 have h1 : l.any p = true := List.any_eq_true.2 ⟨rd l i, by rw [hg i hi]; exact List.getElem_mem hi, hp⟩
 unfold impl_isLadder.idx
 rw [if_pos h1]
 congr 1
 refine (List.findIdx_eq hi).2 ⟨by rw [← hg i hi]; exact hp, fun j hj => ?_⟩
 have := hb j hj
 rw [hg j zq62] at this
 simpa using this
theorem impl_isLadder.idx_miss (p : Int → Bool) (l : List Int) (hb : ∀ j, j < l.length → p (rd l j) = false) : impl_isLadder.idx p l = -1 := by
 have h1 : ¬ l.any p = true := fun h => by
  obtain ⟨x, hx, hp⟩ := List.any_eq_true.1 h
  obtain ⟨j, hj, rfl⟩ := List.getElem_of_mem hx
  have h2 := hb j hj
  have hg : rd l j = l[j] := by
   show l.getD ((j : Int)).toNat 0 = _
   rw [Int.toNat_natCast, List.getD_eq_getElem?_getD, List.getElem?_eq_getElem hj]; rfl
  rw [hg, hp] at h2
  cases h2
 unfold impl_isLadder.idx
 rw [if_neg h1]
theorem impl_isLadder.idx_any (p : Int → Bool) (l : List Int) : decide (0 ≤ impl_isLadder.idx p l) = l.any p := by
 unfold impl_isLadder.idx
 cases h : l.any p
 ·simp
 ·simp [Int.natCast_nonneg]
set_option maxHeartbeats 400000 in
/-- The closure: is the number out of its bounds? -/
theorem impl_isLadder.clos (x n : Int) (g : Nat) (w : World) (h0 : 2 ≤ n) (h1 : n ≤ 8) (hc : w.cell? ⟨g, 0, none⟩ = some (.int .i64 n)) :
  Calls Try.prog 66 #[.int .i64 x, .pointer (some ⟨g, 0, none⟩)] w fun e w' => e = .returned (.bool (impl_isLadder.bad n x)) ∧ Drawn0 w w' := by
 have hb : impl_between.f x 0 (n - 2) = some (decide (0 ≤ x) && decide (x ≤ n - 2)) := by
  unfold impl_between.f
  by_cases h : x ≥ 0
  ·rw [if_pos h]; simp [h]
  ·rw [if_neg h]; simp [h]
 have HB := am hb
 clear hb
 go_enter Try.func66, Try.ntmps66
 go_wp2_with (go_at_call 36; (with_reducible refine (impl_between.calls _ _ _ _ _ HB.out).mono ?_); rintro e w' ⟨rfl, ⟨nd, rfl⟩⟩)
 go_ret
 exact ⟨by simp [impl_isLadder.bad], zq20⟩
def impl_isLadder.Gives (n : Int) (g : Nat) (w : World) : Prop := ∀ (x : Int) (q : Nat), Calls Try.prog 66 #[.int .i64 x, .pointer (some ⟨g, 0, none⟩)] (w.drewN q) fun e w' => e = .returned (.bool (impl_isLadder.bad n x)) ∧ Drawn0 (w.drewN q) w'
set_option maxHeartbeats 1000000 in
set_option maxRecDepth 100000 in
theorem impl_isLadder.index (A0 : Option Addr) (c0 : Nat) (l0 : List Int) (n : Int) (g : Nat) (w : World) (hr0 : Kd.C (Kd.int .i64) w A0 l0.length l0) (hc0 : l0.length ≤ c0) (hG : impl_isLadder.Gives n g w) :
  Calls Try.prog 76 #[.slice A0 l0.length c0, .func (.func 66) #[] #[.pointer (some ⟨g, 0, none⟩)]] w fun e w' => e = .returned (.int .i64 (impl_isLadder.idx (impl_isLadder.bad n) l0)) ∧ Drawn0 w w' := by
 have HR0 := am hr0
 have HG := am hG
 have HN : l0.length ≤ 9223372036854775807 := hr0.2.1
 clear hr0 hc0 hG
 go_enter Try.func76, Try.ntmps76
 go_wp2
 go_loopg [5, 8] l0.length (fun gg _ s8 wr => ∃ kk q : Nat, kk ≤ l0.length ∧ l0.length - kk ≤ gg ∧ s8 = .int .i64 kk ∧ wr = w.drewN q ∧ Aside0 (∀ j : Nat, j < kk → impl_isLadder.bad n (rd l0 (j : Int)) = false))
 case atStart => exact ⟨0, 0, Nat.zero_le _, zq62, rfl, rfl, ⟨fun j hj => absurd hj (Nat.not_lt_zero _)⟩⟩
 case round =>
  obtain ⟨kk, q, hkk, hg, rfl, rfl, A⟩ := hrel
  by_cases hlt : kk < l0.length
  ·have hltz : (kk : Int) < (l0.length : Int) := zq62
   obtain ⟨ad1, e1, hx0⟩ := Kd.at_int HR0.out (kk : Int) (Int.natCast_nonneg kk) hltz
   cases e1
   have hx : w.cell? (ad1.add kk) = some (.int .i64 (rd l0 (kk : Int))) := by rw [Int.toNat_natCast] at hx0; exact hx0
   clear hx0
   cases hq : impl_isLadder.bad n (rd l0 (kk : Int)) with
   | true =>
    have hcall := fun q => HG.out (rd l0 (kk : Int)) q
    rw [hq] at hcall
    have HC := am hcall
    have HQ := am hq
    clear hcall hq
    go_wp2_with (go_at_call 66; refine (HC.out _).mono ?_; rintro e w' ⟨rfl, ⟨q', rfl⟩⟩)
    go_ret
    refine ⟨?_, zq20⟩
    rw [impl_isLadder.idx_hit _ l0 kk hlt HQ.out A.out]; rfl
   | false =>
    have hcall := fun q => HG.out (rd l0 (kk : Int)) q
    rw [hq] at hcall
    have HC := am hcall
    have HQ := am hq
    clear hcall hq
    go_wp2_with (go_at_call 66; refine (HC.out _).mono ?_; rintro e w' ⟨rfl, ⟨q', rfl⟩⟩)
    go_roundg (l0.length - (kk + 1))
    case measure => omega
    case rel =>
     refine ⟨kk + 1, _, zq62, zq62, by go_num, rfl, ⟨fun j hj => ?_⟩⟩
     by_cases e : j = kk
     ·subst e; exact HQ.out
     ·exact A.out j zq62
  ·have hltz : ¬ (kk : Int) < (l0.length : Int) := zq62
   have hk : kk = l0.length := zq62
   subst hk
   go_wp2
   go_ret
   refine ⟨?_, zq20⟩
   rw [impl_isLadder.idx_miss _ l0 A.out]; rfl
set_option maxHeartbeats 1000000 in
theorem impl_isLadder.contains (A0 : Option Addr) (c0 : Nat) (l0 : List Int) (n : Int) (g : Nat) (r : Bool) (w : World) (hr0 : Kd.C (Kd.int .i64) w A0 l0.length l0) (hc0 : l0.length ≤ c0) (hG : impl_isLadder.Gives n g w) (h : l0.any (impl_isLadder.bad n) = r) :
  Calls Try.prog 65 #[.slice A0 l0.length c0, .func (.func 66) #[] #[.pointer (some ⟨g, 0, none⟩)]] w fun e w' => e = .returned (.bool r) ∧ Drawn0 w w' := by
 have HI := am (impl_isLadder.index A0 c0 l0 n g w hr0 hc0 hG)
 have HA := am (impl_isLadder.idx_any (impl_isLadder.bad n) l0)
 have HH := am h
 clear hr0 hG h
 go_enter Try.func65, Try.ntmps65
 go_wp2_with (go_at_call 76; (with_reducible refine HI.out.mono ?_); rintro e w' ⟨rfl, ⟨nd, rfl⟩⟩)
 go_ret
 exact ⟨by rw [HA.out, HH.out]; rfl, zq20⟩
set_option maxHeartbeats 2000000 in
set_option maxRecDepth 100000 in
theorem impl_isLadder.calls (a0_0 : Int) (A0_1 : Option Addr) (c0_1 : Nat) (l0_1 : List Int) (r : Bool) (w : World) (hr0_1 : Kd.C (Kd.int .i64) w A0_1 l0_1.length l0_1) (hc0_1 : l0_1.length ≤ c0_1) (h : impl_isLadder.f a0_0 l0_1 = some r) :
  Calls Try.prog 40 #[.agg #[.int .i64 a0_0, .slice A0_1 l0_1.length c0_1]] w fun e w' => e = .returned (.bool r) ∧ Below w.heap.size w w' := by
 have h' : (decide (2 ≤ a0_0) && decide (a0_0 ≤ 8) && decide (l0_1.length ≤ 60) && !(l0_1.any (impl_isLadder.bad a0_0))) = r := Option.some.inj h
 clear h
 by_cases hn : 2 ≤ a0_0 ∧ a0_0 ≤ 8
 ·have hb : impl_between.f a0_0 2 8 = some true := by
   unfold impl_between.f
   rw [if_pos hn.1, decide_eq_true hn.2]
  have HB := am hb
  have HN := am hn
  by_cases hl : l0_1.length ≤ 60
  ·have HR := am hr0_1
   have HC := am hc0_1
   have hlz : (l0_1.length : Int) ≤ 60 := zq62
   have hl0 : decide ((l0_1.length : Int) ≤ 60) = true := decide_eq_true hlz
   have hl1 : decide (l0_1.length ≤ 60) = true := decide_eq_true hl
   have hr : r = !(l0_1.any (impl_isLadder.bad a0_0)) := by rw [← h', decide_eq_true hn.1, decide_eq_true hn.2, decide_eq_true hl]; simp
   have HRR := am hr
   clear h' hb hn hr0_1 hc0_1 hr hl hlz
   go_enter Try.func40, Try.ntmps40
   go_wp2_with (first | (go_at_call 36; (with_reducible refine (impl_between.calls _ _ _ _ _ HB.out).mono ?_); rintro e w' ⟨rfl, ⟨nd, rfl⟩⟩) | (go_at_call 65; (with_reducible refine (impl_isLadder.contains A0_1 c0_1 l0_1 a0_0 w.heap.size _ _ ?side1 HC.out ?side2 rfl).mono ?_); (case side1 => exact Kd.C_drewN (Kd.C_alloc HR.out _) _); (case side2 => exact fun x q => impl_isLadder.clos x a0_0 w.heap.size _ HN.out.1 HN.out.2 (by simp [World.cell?_alloc_new])); rintro e w' ⟨rfl, ⟨nd2, rfl⟩⟩))
   go_ret
   exact ⟨by rw [HRR.out]; rfl, zq164⟩
  ·have hl0 : decide ((l0_1.length : Int) ≤ 60) = false := decide_eq_false zq62
   have hl1 : decide (l0_1.length ≤ 60) = false := decide_eq_false hl
   have hr : r = false := by rw [← h', decide_eq_false hl]; simp
   have HRR := am hr
   clear h' hb hn hr0_1 hc0_1 hr hl
   go_enter Try.func40, Try.ntmps40
   go_wp2_with (go_at_call 36; (with_reducible refine (impl_between.calls _ _ _ _ _ HB.out).mono ?_); rintro e w' ⟨rfl, ⟨nd, rfl⟩⟩)
   go_ret
   exact ⟨by rw [HRR.out]; rfl, zq164⟩
 ·have hb : impl_between.f a0_0 2 8 = some false := by
   unfold impl_between.f
   by_cases h1 : a0_0 ≥ 2
   ·rw [if_pos h1, decide_eq_false zq62]
   ·rw [if_neg h1]
  have HB := am hb
  have hr : r = false := by
   rw [← h']
   by_cases h1 : 2 ≤ a0_0
   ·have h2 : ¬ a0_0 ≤ 8 := fun h2 => hn ⟨h1, h2⟩
    simp [h2]
   ·simp [h1]
  have HRR := am hr
  clear h' hb hn hr0_1 hc0_1 hr
  go_enter Try.func40, Try.ntmps40
  go_wp2_with (go_at_call 36; (with_reducible refine (impl_between.calls _ _ _ _ _ HB.out).mono ?_); rintro e w' ⟨rfl, ⟨nd, rfl⟩⟩)
  go_ret
  exact ⟨by rw [HRR.out]; rfl, zq164⟩
/-! ### impl_over: function 77 -/
def impl_over.f (a0 : Int) (a1 : Int) : Option (Int) := if a0 = a1 then (some (wrap64 (a1 + 1))) else (if a0 = (wrap64 (a1 + 1)) then (some a1) else (some a0))
theorem impl_over.calls (a0 : Int) (a1 : Int) (r : Int) (w : World) (h : impl_over.f a0 a1 = some r) :
  Calls Try.prog 77 #[.int .i64 a0, .int .i64 a1] w fun e w' => e = .returned (.int .i64 r) ∧ Drawn0 w w' := by
 have H : (if a0 = a1 then (some (wrap64 (a1 + 1))) else (if a0 = (wrap64 (a1 + 1)) then (some a1) else (some a0))) = some r := h
 clear h
 by_cases c3 : a0 = a1
 ·rw [if_pos c3] at H
  have c3b0 : (a0 == a1) = true := beq_iff_eq.mpr c3
  have c3b1 : (a0 != a1) = false := bne_eq_false_iff_eq.mpr c3
  clear c3
  obtain rfl := Option.some.inj H
  go_enter Try.func77, Try.ntmps77
  go_wp2
  go_ret
  exact ⟨zq13, zq20⟩
 ·rw [if_neg c3] at H
  have c3b0 : (a0 == a1) = false := beq_eq_false_iff_ne.mpr c3
  have c3b1 : (a0 != a1) = true := bne_iff_ne.mpr c3
  by_cases c4 : a0 = (wrap64 (a1 + 1))
  ·rw [if_pos c4] at H
   have c4b0 : (a0 == (wrap64 (a1 + 1))) = true := beq_iff_eq.mpr c4
   have c4b1 : (a0 != (wrap64 (a1 + 1))) = false := bne_eq_false_iff_eq.mpr c4
   clear c4
   obtain rfl := Option.some.inj H
   go_enter Try.func77, Try.ntmps77
   go_wp2
   go_ret
   exact ⟨zq13, zq20⟩
  ·rw [if_neg c4] at H
   have c4b0 : (a0 == (wrap64 (a1 + 1))) = false := beq_eq_false_iff_ne.mpr c4
   have c4b1 : (a0 != (wrap64 (a1 + 1))) = true := bne_iff_ne.mpr c4
   obtain rfl := Option.some.inj H
   go_enter Try.func77, Try.ntmps77
   go_wp2
   go_ret
   exact ⟨zq13, zq20⟩
/-! ### impl_way: function 67 -/
def impl_way.l0 : Nat → Int → List Int → List Int → Int → Int → Option (List Int)
 | 0, _, _, _, _, _ => none
 | k + 1, x1, x5, x11, x12, x13 => if x13 < x12 then (if 0 ≤ x13 then (if x13 < (x11.length : Int) then ((impl_over.f x1 (rd x11 x13)).bind fun t319 => (if x5.length < 17592186044416 then (impl_way.l0 k t319 (x5 ++ [t319]) x11 x12 (wrap64 (x13 + 1))) else (none))) else (none)) else (none)) else (some x5)
def impl_way.f (k : Nat) (a0_0 : Int) (l0_1 : List Int) (a1 : Int) : Option (List Int) := impl_way.l0 k a1 (([a1] : List Int)) l0_1 (l0_1.length : Int) 0
theorem impl_way.mono_l : ∀ k, (∀ y0 y1 y2 y3 y4, LeO (impl_way.l0 k y0 y1 y2 y3 y4) (impl_way.l0 (k + 1) y0 y1 y2 y3 y4))
 | 0 => fun _ _ _ _ _ r h => by simp [impl_way.l0] at h
 | k + 1 => by
  have ih0 := impl_way.mono_l k
  ·intro y0 y1 y2 y3 y4
   unfold impl_way.l0
   repeat' first | (with_reducible first | exact ih0 _ _ _ _ _ | exact LeO.refl _ | exact LeO.none _ | refine LeO.ite ?_ ?_ | refine LeO.bind ?_ (fun _ => ?_))
theorem impl_way.mono : ∀ a0 a1 a2 k, LeO (impl_way.f k a0 a1 a2) (impl_way.f (k + 1) a0 a1 a2) := by
 intro a0 a1 a2 k
 have ih0 := impl_way.mono_l k
 unfold impl_way.f
 repeat' first | (with_reducible first | exact ih0 _ _ _ _ _ | exact LeO.refl _ | exact LeO.none _ | refine LeO.ite ?_ ?_ | refine LeO.bind ?_ (fun _ => ?_))
theorem impl_way.calls (k : Nat) (a0_0 : Int) (A0_1 : Option Addr) (c0_1 : Nat) (l0_1 : List Int) (a1 : Int) (r : List Int) (w : World) (hr0_1 : Kd.C (Kd.int .i64) w A0_1 l0_1.length l0_1) (hc0_1 : l0_1.length ≤ c0_1) (h : impl_way.f k a0_0 l0_1 a1 = some r) :
  Calls Try.prog 67 #[.agg #[.int .i64 a0_0, .slice A0_1 l0_1.length c0_1], .int .i64 a1] w fun e w' => ∃ v0_ : Value, e = .returned (v0_) ∧ Kd.R (Kd.int .i64) 3 w' w.heap.size (fun _ => True) v0_ r ∧ Below w.heap.size w w' := by
 have hu34 := Try.underlying34
 have HR0_1 := am hr0_1
 have HC0_1 := am hc0_1
 clear hr0_1 hc0_1
 have HB := am (Below.refl w.heap.size w)
 have H : (impl_way.l0 k a1 (([a1] : List Int)) l0_1 (l0_1.length : Int) 0) = some r := h
 clear h
 obtain ⟨y315, hy315⟩ : ∃ y_ : List Int, y_ = (([a1] : List Int)) := ⟨_, rfl⟩
 replace H : (impl_way.l0 k a1 y315 l0_1 (l0_1.length : Int) 0) = some r := by first | (rw [hy315]; exact zH) | exact zH
 have Ny315 := am hy315
 clear hy315
 have H' := am H
 clear H
 go_enter Try.func67, Try.ntmps67
 go_wp2_with (first | ((with_reducible refine gate_dst (N := 2) rfl ?_); refine zE 2 (cs := #[.int .i64 a0_0, .slice A0_1 l0_1.length c0_1]) 34 ?_; intro gb314 hg w3 hbox hb; have BK314 := am (hbox); have GW314 := am ((zq100 : w.heap.size ≤ gb314)); have GE314 := am ((zq100 : w.heap.size ≤ gb314)); replace HB := am (below_step (pBq4 HB) hb); clear hb hbox hg) | ((with_reducible refine gate_dst (N := 9) rfl ?_); refine Kd.R_lit (Kd.int .i64) _ 3 ?hg (N := 9) ?hd (xs := ([a1] : List Int)) (inner := [.int .i64 a1]) (ok := fun _ => True) (okp := fun _ => True) ?hr ?hp (fun _ hk => hk) trivial (Below.refl _ _) (Nat.le_refl _) zq66 ?_; (case hd => rfl); (case hg => rfl); (case hr => exact zq53); (case hp => exact (Reps.one (show Kd.M (Kd.int .i64) _ _ _ a1 [.int .i64 a1] from rfl) (Reps.none _ _))); intro v316 w4 ho5 hb hg_ hnew_; clear hg_ hnew_; (first | rw [← Ny315.out] at ho5 | (simp only [Int.reduceToNat] at ho5; rw [← Ny315.out] at ho5)); have HO317 := am (Kd.R_lower ho5 (below_size (pBq4 HB))); replace BK314 := am (blk_below (pKq4 BK314) hb); replace HB := am (below_step (pBq4 HB) hb); clear hb ho5; have hcz6_0 : w4.cell? ⟨gb314, 0, none⟩ = some (.int .i64 a0_0) := (blk_cell BK314.out 0).trans rfl; have hcz6_1 : w4.cell? ⟨gb314, 1, none⟩ = some (.slice A0_1 l0_1.length c0_1) := (blk_cell BK314.out 1).trans rfl; have hfz6_0 := blk_frozen BK314.out 0; have hfz6_1 := blk_frozen BK314.out 1))
 go_loopg [1, 5, 13] k (fun kq v1 v5 v13 w' => ∃ (x1_1 : Int) (x5_1 : List Int) (x13_1 : Int), v1 = .int .i64 x1_1 ∧ v13 = .int .i64 x13_1 ∧ Aside0 (impl_way.l0 kq x1_1 x5_1 l0_1 (l0_1.length : Int) x13_1 = some r) ∧ Aside0 (kq ≤ k) ∧ Aside0 (Kd.R (Kd.int .i64) 3 w' w.heap.size (fun _ => True) v5 x5_1) ∧ Aside0 (w'.heap[gb314]? = some (.cells #[.int .i64 a0_0, (.slice A0_1 l0_1.length c0_1)] 34 (0, 0))) ∧ Aside0 (Below w.heap.size w w'))
 case atStart => exact ⟨(a1), (y315), (0), zq13, zq13, H', ⟨Nat.le_refl _⟩, ⟨by (with_reducible repeat (first | apply Kd.R_alloc | apply Kd.R_drewN | apply Kd.R_drew)); exact HO317.out⟩, ⟨by (with_reducible repeat (first | refine blk_drewN ?_ _ | refine blk_drew ?_ | refine blk_alloc ?_ _)); exact BK314.out⟩, ⟨zq10⟩⟩
 case round =>
  clear H'
  try clear p2
  try clear c6
  try clear hcz6_0
  try clear hcz6_1
  try clear hfz6_0
  try clear hfz6_1
  obtain ⟨x1_1, x5_1, x13_1, rfl, rfl, HA, HK1, HO_5, BK314, HB⟩ := hrel
  cases gk with
  | zero => exact absurd HA.out (by simp [impl_way.l0])
  | succ k1 =>
   have H := HA.out
   clear HA
   simp only [impl_way.l0] at H
   by_cases c7 : x13_1 < (l0_1.length : Int)
   ·rw [if_pos c7] at H
    have c7b0 : decide (x13_1 < (l0_1.length : Int)) = true := decide_eq_true c7
    clear c7
    by_cases c8 : 0 ≤ x13_1
    ·rw [if_pos c8] at H
     have c8b0 : decide (0 ≤ x13_1) = true := decide_eq_true c8
     clear c8
     by_cases c9 : x13_1 < (l0_1.length : Int)
     ·rw [if_pos c9] at H
      have c9b0 : decide (x13_1 < (l0_1.length : Int)) = true := decide_eq_true c9
      clear c9
      obtain ⟨t319, A10, H⟩ := zS H
      (try dsimp only at H)
      by_cases c11 : x5_1.length < 17592186044416
      ·rw [if_pos c11] at H
       have LMc11 := am c11
       clear c11
       obtain ⟨y320, hy320⟩ : ∃ y_ : List Int, y_ = (x5_1 ++ [t319]) := ⟨_, rfl⟩
       replace H : (impl_way.l0 k1 t319 y320 l0_1 (l0_1.length : Int) (wrap64 (x13_1 + 1))) = some r := by first | (rw [hy320]; exact zH) | exact zH
       have Ny320 := am hy320
       clear hy320
       have H' := am H
       clear H
       have p318 : 0 ≤ (x13_1 : Int) := of_decide_eq_true zq9
       have q318 : x13_1 < (l0_1.length : Int) := of_decide_eq_true zq9
       obtain ⟨ad318, e318, hx318_0⟩ := Kd.at_int HR0_1.out x13_1 p318 q318
       cases e318
       replace hx318_0 := (HB.out.cell (World.block_lt_of_cell? w _ hx318_0)).trans hx318_0
       replace p318 := eq_true p318
       replace q318 := eq_true q318
       go_wp2_with (first | ((with_reducible refine gate_callee (f := 77) rfl ?_); refine goesL_ (some 19) rfl rfl Try.func77 zq26 rfl #[.int .i64 x1_1, .int .i64 (rd l0_1 x13_1)] rfl zq1 ?_; (with_reducible refine (impl_over.calls x1_1 (rd l0_1 x13_1) t319 _ A10.out).mono ?_); rintro e w' ⟨rfl, ⟨nd, rfl⟩⟩; refine ⟨_, rfl, ?_⟩) | ((with_reducible refine gate_builtin (b := .append) (xs := #[.tmp 20, .tmp 22]) rfl ?_); at_builtin; refine Kd.R_append (Kd.int .i64) (w0 := w) w.heap.size rfl (.tmp 20) (.tmp 22) 24 3 (.int .i64 0) 8 rfl Try.underlying24 info3 rfl zq36 zq62 u5 x5_1 t319 [.int .i64 t319] (fun _ => True) (fun _ => False) rfl rfl ?aP (fun _ hk => hk.elim) ?aF ?aO ?aB ?aS ?aL ?_; (case aP => exact rfl); (case aB => exact (pBq4 HB)); (case aF => exact zq145); (case aO => exact (pRq4 HO_5)); (case aS => exact (below_size (pBq4 HB))); (case aL => have := LMc11.out; omega); intro v321 w12 ho hb hg hat; rw [← Ny320.out] at ho; have HO322 := am (ho); replace BK314 := am (blk_grown (g := gb314) (o := .cells #[.int .i64 a0_0, .slice (some ad318) l0_1.length c0_1] 34 (0, 0)) (pKq4 BK314) hg (Kd.R_ne HO_5.out BK314.out zq36)); replace HB := am (hb); clear HO_5; clear ho hb hg hat))
       go_roundg k1
       case measure => have := HK1.out; omega
       case rel => exact ⟨(t319), (y320), (wrap64 (x13_1 + 1)), zq13, zq13, H', ⟨zq101⟩, ⟨by (with_reducible repeat (first | apply Kd.R_alloc | apply Kd.R_drewN | apply Kd.R_drew)); exact HO322.out⟩, ⟨by (with_reducible repeat (first | refine blk_drewN ?_ _ | refine blk_drew ?_ | refine blk_alloc ?_ _)); exact BK314.out⟩, ⟨zq10⟩⟩
      ·rw [if_neg c11] at H
       exact absurd H zq66
     ·rw [if_neg c9] at H
      exact absurd H zq66
    ·rw [if_neg c8] at H
     exact absurd H zq66
   ·rw [if_neg c7] at H
    have c7b0 : decide (x13_1 < (l0_1.length : Int)) = false := decide_eq_false c7
    clear c7
    obtain rfl := Option.some.inj H
    go_wp2
    go_ret
    exact ⟨_, zq11, zq108, zq10⟩
/-! ### impl_result: function 41 -/
def impl_result.l0 : Nat → Int → List Int → List Int → Int → Int → Option (List Int)
 | 0, _, _, _, _, _ => none
 | k + 1, x0, x1, x5, x9, x10 => if x10 < x9 then ((impl_way.f k x0 x1 x10).bind fun t326 => (if 0 ≤ (wrap64 ((t326.length : Int) - 1)) then (if (wrap64 ((t326.length : Int) - 1)) < (t326.length : Int) then (if x5.length < 17592186044416 then (impl_result.l0 k x0 x1 (x5 ++ [rd t326 (wrap64 ((t326.length : Int) - 1))]) x9 (wrap64 (x10 + 1))) else (none)) else (none)) else (none))) else (some x5)
def impl_result.f (k : Nat) (a0 : Int) (l1 : List Int) : Option (List Int) := impl_result.l0 k a0 l1 (([] : List Int)) a0 0
theorem impl_result.mono_l : ∀ k, (∀ y0 y1 y2 y3 y4, LeO (impl_result.l0 k y0 y1 y2 y3 y4) (impl_result.l0 (k + 1) y0 y1 y2 y3 y4))
 | 0 => fun _ _ _ _ _ r h => by simp [impl_result.l0] at h
 | k + 1 => by
  have ih0 := impl_result.mono_l k
  ·intro y0 y1 y2 y3 y4
   unfold impl_result.l0
   repeat' first | (with_reducible first | exact ih0 _ _ _ _ _ | exact impl_way.mono _ _ _ _ | exact LeO.refl _ | exact LeO.none _ | refine LeO.ite ?_ ?_ | refine LeO.bind ?_ (fun _ => ?_))
theorem impl_result.mono : ∀ a0 a1 k, LeO (impl_result.f k a0 a1) (impl_result.f (k + 1) a0 a1) := by
 intro a0 a1 k
 have ih0 := impl_result.mono_l k
 unfold impl_result.f
 repeat' first | (with_reducible first | exact ih0 _ _ _ _ _ | exact impl_way.mono _ _ _ _ | exact LeO.refl _ | exact LeO.none _ | refine LeO.ite ?_ ?_ | refine LeO.bind ?_ (fun _ => ?_))
theorem impl_result.calls (k : Nat) (a0 : Int) (A1 : Option Addr) (c1 : Nat) (l1 : List Int) (r : List Int) (w : World) (hr1 : Kd.C (Kd.int .i64) w A1 l1.length l1) (hc1 : l1.length ≤ c1) (h : impl_result.f k a0 l1 = some r) :
  Calls Try.prog 41 #[.int .i64 a0, .slice A1 l1.length c1] w fun e w' => ∃ v0_ : Value, e = .returned (v0_) ∧ Kd.R (Kd.int .i64) 3 w' w.heap.size (fun _ => True) v0_ r ∧ Below w.heap.size w w' := by
 have hu34 := Try.underlying34
 have HR1 := am hr1
 have HC1 := am hc1
 clear hr1 hc1
 have HB := am (Below.refl w.heap.size w)
 have H : (impl_result.l0 k a0 l1 (([] : List Int)) a0 0) = some r := h
 clear h
 obtain ⟨y323, hy323⟩ : ∃ y_ : List Int, y_ = (([] : List Int)) := ⟨_, rfl⟩
 replace H : (impl_result.l0 k a0 l1 y323 a0 0) = some r := by first | (rw [hy323]; exact zH) | exact zH
 have Ny323 := am hy323
 clear hy323
 have H' := am H
 clear H
 go_enter Try.func41, Try.ntmps41
 go_wp2_with (first | ((with_reducible refine gate_dst (N := 8) rfl ?_); refine Kd.R_lit (Kd.int .i64) _ 3 ?hg (N := 8) ?hd (xs := ([] : List Int)) (inner := []) (ok := fun _ => True) (okp := fun _ => True) ?hr ?hp (fun _ hk => hk) trivial (Below.refl _ _) (Nat.le_refl _) zq66 ?_; (case hd => rfl); (case hg => rfl); (case hr => exact zq53); (case hp => exact (Reps.none _ _)); intro v324 w3 ho4 hb hg_ hnew_; clear hg_ hnew_; (first | rw [← Ny323.out] at ho4 | (simp only [Int.reduceToNat] at ho4; rw [← Ny323.out] at ho4)); have HO325 := am (Kd.R_lower ho4 (below_size (pBq4 HB))); replace HB := am (below_step (pBq4 HB) hb); clear hb ho4))
 go_loopg [5, 10] k (fun kq v5 v10 w' => ∃ (x5_1 : List Int) (x10_1 : Int), v10 = .int .i64 x10_1 ∧ Aside0 (impl_result.l0 kq a0 l1 x5_1 a0 x10_1 = some r) ∧ Aside0 (kq ≤ k) ∧ Aside0 (Kd.R (Kd.int .i64) 3 w' w.heap.size (fun _ => True) v5 x5_1) ∧ Aside0 (Below w.heap.size w w'))
 case atStart => exact ⟨(y323), (0), zq13, H', ⟨Nat.le_refl _⟩, ⟨by (with_reducible repeat (first | apply Kd.R_alloc | apply Kd.R_drewN | apply Kd.R_drew)); exact HO325.out⟩, ⟨zq12⟩⟩
 case round =>
  clear H'
  try clear c1
  try clear p2
  try clear c4
  obtain ⟨x5_1, x10_1, rfl, HA, HK1, HO_5, HB⟩ := hrel
  cases gk with
  | zero => exact absurd HA.out (by simp [impl_result.l0])
  | succ k1 =>
   have H := HA.out
   clear HA
   simp only [impl_result.l0] at H
   by_cases c5 : x10_1 < a0
   ·rw [if_pos c5] at H
    have c5b0 : decide (x10_1 < a0) = true := decide_eq_true c5
    clear c5
    obtain ⟨t326, A6, H⟩ := zS H
    (try dsimp only at H)
    obtain ⟨ji7, hji7⟩ : ∃ j_ : Int, (wrap64 ((t326.length : Int) - 1)) = j_ := ⟨_, rfl⟩
    replace H : (if 0 ≤ (ji7) then (if (ji7) < (t326.length : Int) then (if x5_1.length < 17592186044416 then (impl_result.l0 k1 a0 l1 (x5_1 ++ [rd t326 (ji7)]) a0 (wrap64 (x10_1 + 1))) else (none)) else (none)) else (none)) = some r := by first | (rw [hji7] at H; exact H) | (simp only [hji7] at H ⊢; exact H)
    (try rw [hji7] at A6)
    have hji7w : (IntKind.i64.wrap ((t326.length : Int) - 1)) = ji7 := (i64_w _).trans hji7
    by_cases c8 : 0 ≤ (ji7)
    ·rw [if_pos c8] at H
     have c8b0 : decide (0 ≤ (ji7)) = true := decide_eq_true c8
     clear c8
     by_cases c9 : (ji7) < (t326.length : Int)
     ·rw [if_pos c9] at H
      have c9b0 : decide ((ji7) < (t326.length : Int)) = true := decide_eq_true c9
      clear c9
      by_cases c10 : x5_1.length < 17592186044416
      ·rw [if_pos c10] at H
       have LMc10 := am c10
       clear c10
       obtain ⟨y330, hy330⟩ : ∃ y_ : List Int, y_ = (x5_1 ++ [rd t326 (ji7)]) := ⟨_, rfl⟩
       replace H : (impl_result.l0 k1 a0 l1 y330 a0 (wrap64 (x10_1 + 1))) = some r := by first | (rw [hy330]; exact zH) | exact zH
       have Ny330 := am hy330
       clear hy330
       have H' := am H
       clear H
       go_wp2_with (first | ((with_reducible refine gate_callee (f := 67) rfl ?_); refine goesL_ (some 17) rfl rfl Try.func67 zq26 rfl #[.agg #[.int .i64 a0, .slice A1 l1.length c1], .int .i64 x10_1] rfl zq1 ?_; (with_reducible refine (impl_way.calls k1 a0 _ _ l1 x10_1 t326 _ ?side1 ?side2 A6.out).mono ?_); (case side1 => exact zq166); (case side2 => exact HC1.out); rintro e w11 ⟨v327, rfl, ho0, hb⟩; refine ⟨_, rfl, ?_⟩; have HO328 := am (Kd.R_lower (Kd.R_new' ho0 (Kd.R_lt (pRq4 HO_5))) (below_size (pBq4 HB))); replace HO_5 := am (Kd.R_elder' (pRq4 HO_5) (Kd.R_base ho0) hb); replace HB := am (below_step (pBq4 HB) hb); (try clear hb ho0); obtain ⟨Ao12, co12, eo12⟩ := Kd.R_slice HO328.out; subst eo12; have p329 : 0 ≤ ((ji7) : Int) := of_decide_eq_true zq9; have q329 : (ji7) < (t326.length : Int) := of_decide_eq_true zq9; obtain ⟨ad329, e329, hx329_0⟩ := Kd.at_int (Kd.R_reads' HO328.out).2.2 (ji7) p329 q329; cases e329; replace p329 := eq_true p329; replace q329 := eq_true q329) | ((with_reducible refine gate_builtin (b := .append) (xs := #[.tmp 18, .tmp 25]) rfl ?_); at_builtin; refine Kd.R_append (Kd.int .i64) (w0 := w) w.heap.size rfl (.tmp 18) (.tmp 25) 24 3 (.int .i64 0) 8 rfl Try.underlying24 info3 rfl zq36 zq62 u5 x5_1 (rd t326 (ji7)) [.int .i64 (rd t326 (ji7))] (fun k_ => some k_ ≠ (.slice (some ad329) t326.length co12 : Value).ownBlock) (fun _ => False) rfl rfl ?aP (fun _ hk => hk.elim) ?aF ?aO ?aB ?aS ?aL ?_; (case aP => exact rfl); (case aB => exact (pBq4 HB)); (case aF => exact (fun k_ hk => Kd.fresh' (Kd.R_lt (pRq4 HO328)) k_ hk)); (case aO => exact zq174); (case aS => exact (below_size (pBq4 HB))); (case aL => have := LMc10.out; omega); intro v331 w13 ho hb hg hat; rw [← Ny330.out] at ho; have HO332 := am (ho); replace HO328 := am (Kd.R_after (ok := (fun _ => True)) (pRq4 HO328) hg hat); replace HB := am (hb); clear HO_5; clear ho hb hg hat))
       go_roundg k1
       case measure => have := HK1.out; omega
       case rel => exact ⟨(y330), (wrap64 (x10_1 + 1)), zq13, H', ⟨zq101⟩, ⟨by (with_reducible repeat (first | apply Kd.R_alloc | apply Kd.R_drewN | apply Kd.R_drew)); exact Kd.R_mono HO332.out (fun _ hk => trivial)⟩, ⟨zq12⟩⟩
      ·rw [if_neg c10] at H
       exact absurd H zq66
     ·rw [if_neg c9] at H
      exact absurd H zq66
    ·rw [if_neg c8] at H
     exact absurd H zq66
   ·rw [if_neg c5] at H
    have c5b0 : decide (x10_1 < a0) = false := decide_eq_false c5
    clear c5
    obtain rfl := Option.some.inj H
    go_wp2
    go_ret
    exact ⟨_, zq11, zq108, zq12⟩
/-! ### impl_ResultOf: function 13 -/
def impl_ResultOf.f (k : Nat) (a0_0 : Int) (l0_1 : List Int) : Option (List Int × Bool) := (impl_isLadder.f a0_0 l0_1).bind fun t334 => (if t334 = true then ((impl_result.f k a0_0 l0_1).bind fun t335 => (some (t335, true))) else (some (([] : List Int), false)))
theorem impl_ResultOf.mono : ∀ a0 a1 k, LeO (impl_ResultOf.f k a0 a1) (impl_ResultOf.f (k + 1) a0 a1) := by
 intro a0 a1 k
 unfold impl_ResultOf.f
 repeat' first | (with_reducible first | exact impl_result.mono _ _ _ | exact LeO.refl _ | exact LeO.none _ | refine LeO.ite ?_ ?_ | refine LeO.bind ?_ (fun _ => ?_))
theorem impl_ResultOf.calls (k : Nat) (a0_0 : Int) (A0_1 : Option Addr) (c0_1 : Nat) (l0_1 : List Int) (r1 : List Int) (r2 : Bool) (w : World) (hr0_1 : Kd.C (Kd.int .i64) w A0_1 l0_1.length l0_1) (hc0_1 : l0_1.length ≤ c0_1) (h : impl_ResultOf.f k a0_0 l0_1 = some (r1, r2)) :
  Calls Try.prog 13 #[.agg #[.int .i64 a0_0, .slice A0_1 l0_1.length c0_1]] w fun e w' => ∃ v0_ : Value, e = .returned (.tuple #[v0_, .bool r2]) ∧ Kd.R (Kd.int .i64) 3 w' w.heap.size (fun _ => True) v0_ r1 ∧ Below w.heap.size w w' := by
 have hu34 := Try.underlying34
 have HR0_1 := am hr0_1
 have HC0_1 := am hc0_1
 clear hr0_1 hc0_1
 have HB := am (Below.refl w.heap.size w)
 have H : ((impl_isLadder.f a0_0 l0_1).bind fun t334 => (if t334 = true then ((impl_result.f k a0_0 l0_1).bind fun t335 => (some (t335, true))) else (some (([] : List Int), false)))) = some (r1, r2) := h
 clear h
 obtain ⟨t334, A2, H⟩ := zS H
 (try dsimp only at H)
 by_cases c3 : t334 = true
 ·subst c3
  rw [if_pos rfl] at H
  obtain ⟨t335, A4, H⟩ := zS H
  (try dsimp only at H)
  simp only [Option.some.injEq, Prod.mk.injEq] at H
  obtain ⟨rfl, rfl⟩ := H
  go_enter Try.func13, Try.ntmps13
  go_wp2_with (first | ((with_reducible refine gate_dst (N := 1) rfl ?_); refine zE 1 (cs := #[.int .i64 a0_0, .slice A0_1 l0_1.length c0_1]) 34 ?_; intro gb333 hg w5 hbox hb; have BK333 := am (hbox); have GW333 := am ((zq100 : w.heap.size ≤ gb333)); have GE333 := am ((zq100 : w.heap.size ≤ gb333)); replace HB := am (below_step (pBq4 HB) hb); clear hb hbox hg; have hcz6_0 : w5.cell? ⟨gb333, 0, none⟩ = some (.int .i64 a0_0) := (blk_cell BK333.out 0).trans rfl; have hcz6_1 : w5.cell? ⟨gb333, 1, none⟩ = some (.slice A0_1 l0_1.length c0_1) := (blk_cell BK333.out 1).trans rfl; have hfz6_0 := blk_frozen BK333.out 0; have hfz6_1 := blk_frozen BK333.out 1) | ((with_reducible refine gate_callee (f := 40) rfl ?_); refine goesL_ (some 5) rfl rfl Try.func40 zq26 rfl #[.agg #[.int .i64 a0_0, .slice A0_1 l0_1.length c0_1]] rfl zq1 ?_; (with_reducible refine (impl_isLadder.calls a0_0 _ _ l0_1 true _ ?side1 ?side2 A2.out).mono ?_); (case side1 => exact zq21); (case side2 => exact HC0_1.out); rintro e w7 ⟨rfl, hb⟩; refine ⟨_, rfl, ?_⟩; replace BK333 := am (blk_below (pKq4 BK333) hb); replace HB := am (below_step (pBq4 HB) hb); (try clear hb); have hcz8_0 : w7.cell? ⟨gb333, 0, none⟩ = some (.int .i64 a0_0) := (blk_cell BK333.out 0).trans rfl; have hcz8_1 : w7.cell? ⟨gb333, 1, none⟩ = some (.slice A0_1 l0_1.length c0_1) := (blk_cell BK333.out 1).trans rfl; have hfz8_0 := blk_frozen BK333.out 0; have hfz8_1 := blk_frozen BK333.out 1) | ((with_reducible refine gate_callee (f := 41) rfl ?_); refine goesL_ (some 11) rfl rfl Try.func41 zq26 rfl #[.int .i64 a0_0, .slice A0_1 l0_1.length c0_1] rfl zq1 ?_; (with_reducible refine (impl_result.calls k a0_0 _ _ l0_1 t335 _ ?side1 ?side2 A4.out).mono ?_); (case side1 => exact zq21); (case side2 => exact HC0_1.out); rintro e w9 ⟨v336, rfl, ho0, hb⟩; refine ⟨_, rfl, ?_⟩; have HO337 := am (Kd.R_lower ho0 (below_size (pBq4 HB))); replace BK333 := am (blk_below (pKq4 BK333) hb); replace HB := am (below_step (pBq4 HB) hb); (try clear hb ho0)))
  go_ret2
  exact ⟨_, zq11, by (with_reducible repeat (first | apply Kd.R_alloc | apply Kd.R_drewN | apply Kd.R_drew)); exact HO337.out, zq10⟩
 ·replace c3 := Bool.eq_false_iff.mpr c3
  subst c3
  rw [if_neg (show ¬ (false = true) by decide)] at H
  simp only [Option.some.injEq, Prod.mk.injEq] at H
  obtain ⟨rfl, rfl⟩ := H
  go_enter Try.func13, Try.ntmps13
  go_wp2_with (first | ((with_reducible refine gate_dst (N := 1) rfl ?_); refine zE 1 (cs := #[.int .i64 a0_0, .slice A0_1 l0_1.length c0_1]) 34 ?_; intro gb333 hg w10 hbox hb; have BK333 := am (hbox); have GW333 := am ((zq100 : w.heap.size ≤ gb333)); have GE333 := am ((zq100 : w.heap.size ≤ gb333)); replace HB := am (below_step (pBq4 HB) hb); clear hb hbox hg; have hcz11_0 : w10.cell? ⟨gb333, 0, none⟩ = some (.int .i64 a0_0) := (blk_cell BK333.out 0).trans rfl; have hcz11_1 : w10.cell? ⟨gb333, 1, none⟩ = some (.slice A0_1 l0_1.length c0_1) := (blk_cell BK333.out 1).trans rfl; have hfz11_0 := blk_frozen BK333.out 0; have hfz11_1 := blk_frozen BK333.out 1) | ((with_reducible refine gate_callee (f := 40) rfl ?_); refine goesL_ (some 5) rfl rfl Try.func40 zq26 rfl #[.agg #[.int .i64 a0_0, .slice A0_1 l0_1.length c0_1]] rfl zq1 ?_; (with_reducible refine (impl_isLadder.calls a0_0 _ _ l0_1 false _ ?side1 ?side2 A2.out).mono ?_); (case side1 => exact zq21); (case side2 => exact HC0_1.out); rintro e w12 ⟨rfl, hb⟩; refine ⟨_, rfl, ?_⟩; replace BK333 := am (blk_below (pKq4 BK333) hb); replace HB := am (below_step (pBq4 HB) hb); (try clear hb)))
  go_ret2
  exact ⟨_, zq11, zq24, zq10⟩
/-! ### laws_nLess: function 15 -/
def laws_nLess.l0 : Nat → List Int → List Int → Int → Int → Option (Bool)
 | 0, _, _, _, _ => none
 | k + 1, x0, x1, x7, x8 => if x8 < x7 then (if x8 ≥ (x1.length : Int) then (some false) else (if 0 ≤ x8 then (if x8 < (x0.length : Int) then (if x8 < (x1.length : Int) then (if (rd x0 x8) = (rd x1 x8) then (laws_nLess.l0 k x0 x1 x7 (wrap64 (x8 + 1))) else (some (decide ((rd x0 x8) < (rd x1 x8))))) else (none)) else (none)) else (none))) else (some (decide ((x0.length : Int) < (x1.length : Int))))
def laws_nLess.f (k : Nat) (l0 : List Int) (l1 : List Int) : Option (Bool) := laws_nLess.l0 k l0 l1 (l0.length : Int) 0
theorem laws_nLess.mono_l : ∀ k, (∀ y0 y1 y2 y3, LeO (laws_nLess.l0 k y0 y1 y2 y3) (laws_nLess.l0 (k + 1) y0 y1 y2 y3))
 | 0 => fun _ _ _ _ r h => by simp [laws_nLess.l0] at h
 | k + 1 => by
  have ih0 := laws_nLess.mono_l k
  ·intro y0 y1 y2 y3
   unfold laws_nLess.l0
   repeat' first | (with_reducible first | exact ih0 _ _ _ _ | exact LeO.refl _ | exact LeO.none _ | refine LeO.ite ?_ ?_ | refine LeO.bind ?_ (fun _ => ?_))
theorem laws_nLess.mono : ∀ a0 a1 k, LeO (laws_nLess.f k a0 a1) (laws_nLess.f (k + 1) a0 a1) := by
 intro a0 a1 k
 have ih0 := laws_nLess.mono_l k
 unfold laws_nLess.f
 repeat' first | (with_reducible first | exact ih0 _ _ _ _ | exact LeO.refl _ | exact LeO.none _ | refine LeO.ite ?_ ?_ | refine LeO.bind ?_ (fun _ => ?_))
theorem laws_nLess.calls (k : Nat) (A0 : Option Addr) (c0 : Nat) (l0 : List Int) (A1 : Option Addr) (c1 : Nat) (l1 : List Int) (r : Bool) (w : World) (hr0 : Kd.C (Kd.int .i64) w A0 l0.length l0) (hc0 : l0.length ≤ c0) (hr1 : Kd.C (Kd.int .i64) w A1 l1.length l1) (hc1 : l1.length ≤ c1) (h : laws_nLess.f k l0 l1 = some r) :
  Calls Try.prog 15 #[.slice A0 l0.length c0, .slice A1 l1.length c1] w fun e w' => e = .returned (.bool r) ∧ Drawn0 w w' := by
 have HR0 := am hr0
 have HC0 := am hc0
 clear hr0 hc0
 have HR1 := am hr1
 have HC1 := am hc1
 clear hr1 hc1
 have H : (laws_nLess.l0 k l0 l1 (l0.length : Int) 0) = some r := h
 clear h
 have H' := am H
 clear H
 go_enter Try.func15, Try.ntmps15
 go_wp2
 repeat (go_quiet (fail); try go_wp2)
 go_loopg [8] k (fun kq v8 w' => ∃ (x8_1 : Int), v8 = .int .i64 x8_1 ∧ Aside0 (laws_nLess.l0 kq l0 l1 (l0.length : Int) x8_1 = some r) ∧ Aside0 (kq ≤ k) ∧ Drawn0 w w')
 case atStart => exact ⟨(0), zq13, H', ⟨Nat.le_refl _⟩, zq20⟩
 case round =>
  clear H'
  try clear c1
  try clear p2
  obtain ⟨x8_1, rfl, HA, HK1, ⟨m1, rfl⟩⟩ := hrel
  cases gk with
  | zero => exact absurd HA.out (by simp [laws_nLess.l0])
  | succ k1 =>
   have H := HA.out
   clear HA
   simp only [laws_nLess.l0] at H
   by_cases c3 : x8_1 < (l0.length : Int)
   ·rw [if_pos c3] at H
    have c3b0 : decide (x8_1 < (l0.length : Int)) = true := decide_eq_true c3
    clear c3
    by_cases c4 : x8_1 ≥ (l1.length : Int)
    ·rw [if_pos c4] at H
     have c4b0 : decide ((l1.length : Int) ≤ x8_1) = true := decide_eq_true c4
     clear c4
     obtain rfl := Option.some.inj H
     go_wp2
     repeat (go_quiet (fail); try go_wp2)
     go_ret
     exact ⟨zq13, zq20⟩
    ·rw [if_neg c4] at H
     have c4b0 : decide ((l1.length : Int) ≤ x8_1) = false := decide_eq_false c4
     clear c4
     by_cases c5 : 0 ≤ x8_1
     ·rw [if_pos c5] at H
      have c5b0 : decide (0 ≤ x8_1) = true := decide_eq_true c5
      clear c5
      by_cases c6 : x8_1 < (l0.length : Int)
      ·rw [if_pos c6] at H
       have c6b0 : decide (x8_1 < (l0.length : Int)) = true := decide_eq_true c6
       clear c6
       by_cases c7 : x8_1 < (l1.length : Int)
       ·rw [if_pos c7] at H
        have c7b0 : decide (x8_1 < (l1.length : Int)) = true := decide_eq_true c7
        clear c7
        by_cases c8 : (rd l0 x8_1) = (rd l1 x8_1)
        ·rw [if_pos c8] at H
         have c8b0 : ((rd l0 x8_1) == (rd l1 x8_1)) = true := beq_iff_eq.mpr c8
         have c8b1 : ((rd l0 x8_1) != (rd l1 x8_1)) = false := bne_eq_false_iff_eq.mpr c8
         clear c8
         have H' := am H
         clear H
         have p338 : 0 ≤ (x8_1 : Int) := of_decide_eq_true zq9
         have q338 : x8_1 < (l0.length : Int) := of_decide_eq_true zq9
         obtain ⟨ad338, e338, hx338_0⟩ := Kd.at_int HR0.out x8_1 p338 q338
         cases e338
         replace p338 := eq_true p338
         replace q338 := eq_true q338
         have p339 : 0 ≤ (x8_1 : Int) := of_decide_eq_true zq9
         have q339 : x8_1 < (l1.length : Int) := of_decide_eq_true zq9
         obtain ⟨ad339, e339, hx339_0⟩ := Kd.at_int HR1.out x8_1 p339 q339
         cases e339
         replace p339 := eq_true p339
         replace q339 := eq_true q339
         go_wp2
         repeat (go_quiet (fail); try go_wp2)
         go_roundg k1
         case measure => have := HK1.out; omega
         case rel => exact ⟨(wrap64 (x8_1 + 1)), zq13, H', ⟨zq101⟩, zq20⟩
        ·rw [if_neg c8] at H
         have c8b0 : ((rd l0 x8_1) == (rd l1 x8_1)) = false := beq_eq_false_iff_ne.mpr c8
         have c8b1 : ((rd l0 x8_1) != (rd l1 x8_1)) = true := bne_iff_ne.mpr c8
         obtain rfl := Option.some.inj H
         have p338 : 0 ≤ (x8_1 : Int) := of_decide_eq_true zq9
         have q338 : x8_1 < (l0.length : Int) := of_decide_eq_true zq9
         obtain ⟨ad338, e338, hx338_0⟩ := Kd.at_int HR0.out x8_1 p338 q338
         cases e338
         replace p338 := eq_true p338
         replace q338 := eq_true q338
         have p339 : 0 ≤ (x8_1 : Int) := of_decide_eq_true zq9
         have q339 : x8_1 < (l1.length : Int) := of_decide_eq_true zq9
         obtain ⟨ad339, e339, hx339_0⟩ := Kd.at_int HR1.out x8_1 p339 q339
         cases e339
         replace p339 := eq_true p339
         replace q339 := eq_true q339
         have p340 : 0 ≤ (x8_1 : Int) := of_decide_eq_true zq9
         have q340 : x8_1 < (l0.length : Int) := of_decide_eq_true zq9
         obtain ⟨ad340, e340, hx340_0⟩ := Kd.at_int HR0.out x8_1 p340 q340
         obtain rfl : ad338 = ad340 := (by injection e340)
         replace p340 := eq_true p340
         replace q340 := eq_true q340
         have p341 : 0 ≤ (x8_1 : Int) := of_decide_eq_true zq9
         have q341 : x8_1 < (l1.length : Int) := of_decide_eq_true zq9
         obtain ⟨ad341, e341, hx341_0⟩ := Kd.at_int HR1.out x8_1 p341 q341
         obtain rfl : ad339 = ad341 := (by injection e341)
         replace p341 := eq_true p341
         replace q341 := eq_true q341
         go_wp2
         repeat (go_quiet (fail); try go_wp2)
         go_ret
         exact ⟨zq13, zq20⟩
       ·rw [if_neg c7] at H
        exact absurd H zq66
      ·rw [if_neg c6] at H
       exact absurd H zq66
     ·rw [if_neg c5] at H
      exact absurd H zq66
   ·rw [if_neg c3] at H
    have c3b0 : decide (x8_1 < (l0.length : Int)) = false := decide_eq_false c3
    clear c3
    obtain rfl := Option.some.inj H
    go_wp2
    repeat (go_quiet (fail); try go_wp2)
    go_ret
    exact ⟨zq13, zq20⟩
/-! ### impl_needless: function 53 -/
def impl_needless.f (k : Nat) (a0_0 : Int) (l0_1 : List Int) : Option (Int) := (impl_result.f k a0_0 l0_1).bind fun t343 => ((impl_inversions.f k t343).bind fun t346 => (some (wrap64 ((l0_1.length : Int) - t346))))
theorem impl_needless.mono : ∀ a0 a1 k, LeO (impl_needless.f k a0 a1) (impl_needless.f (k + 1) a0 a1) := by
 intro a0 a1 k
 unfold impl_needless.f
 repeat' first | (with_reducible first | exact impl_inversions.mono _ _ | exact impl_result.mono _ _ _ | exact LeO.refl _ | exact LeO.none _ | refine LeO.ite ?_ ?_ | refine LeO.bind ?_ (fun _ => ?_))
def impl_needless.T1 : Bool × List (List Nat × List Nat) := (true, [([], []), ([0], [0]), ([1], [1]), ([], []), ([3], [3]), ([], []), ([5], [5]), ([4, 6], [4, 6]), ([7, 7], [7]), ([2, 8], [2, 8]), ([9, 8, 0, 1, 2, 3, 4, 5, 6, 7, 8, 9], [9])])
def impl_needless.B1 : List Nat := [0, 1, 3, 0, 8, 0, 32, 120, 248, 511, 1023]
theorem impl_needless.tab1 : rtab .any (opsOf Try.f53 1) = impl_needless.T1 := by kernel_rfl
theorem impl_needless.bits1 : waitsOk impl_needless.T1.2 impl_needless.B1 = true := by kernel_rfl
theorem impl_needless.calls (k : Nat) (a0_0 : Int) (A0_1 : Option Addr) (c0_1 : Nat) (l0_1 : List Int) (r : Int) (w : World) (hr0_1 : Kd.C (Kd.int .i64) w A0_1 l0_1.length l0_1) (hc0_1 : l0_1.length ≤ c0_1) (h : impl_needless.f k a0_0 l0_1 = some r) :
  Calls Try.prog 53 #[.agg #[.int .i64 a0_0, .slice A0_1 l0_1.length c0_1]] w fun e w' => e = .returned (.int .i64 r) ∧ Below w.heap.size w w' := by
 have hu34 := Try.underlying34
 have HR0_1 := am hr0_1
 have HC0_1 := am hc0_1
 clear hr0_1 hc0_1
 have HB := am (Below.refl w.heap.size w)
 have H : ((impl_result.f k a0_0 l0_1).bind fun t343 => ((impl_inversions.f k t343).bind fun t346 => (some (wrap64 ((l0_1.length : Int) - t346))))) = some r := h
 clear h
 obtain ⟨t343, A2, H⟩ := zS H
 (try dsimp only at H)
 obtain ⟨t346, A3, H⟩ := zS H
 (try dsimp only at H)
 obtain rfl := Option.some.inj H
 go_enter Try.func53, Try.ntmps53
 try go_wp2_with (first | ((with_reducible refine gate_dst (N := 1) rfl ?_); refine zE 1 (cs := #[.int .i64 a0_0, .slice A0_1 l0_1.length c0_1]) 34 ?_; intro gb342 hg w4 hbox hb; have BK342 := am (hbox); have GW342 := am ((zq100 : w.heap.size ≤ gb342)); have GE342 := am ((zq100 : w.heap.size ≤ gb342)); replace HB := am (below_step (pBq4 HB) hb); clear hb hbox hg))
 replace BK342 := am (blk_drew BK342.out)
 replace HB := am (below_drew1 HB.out)
 refine start_ (n := 11) (S := fun w' => w'.cell? ⟨gb342, 0, none⟩ = some (.int .i64 a0_0) ∧ w'.cell? ⟨gb342, 1, none⟩ = some (.slice A0_1 l0_1.length c0_1)) (ds := []) #[false, false, false, false, false, false, false, false, false, false, false] zq26 rfl rfl ⟨(blk_cell BK342.out 0).trans rfl, (blk_cell BK342.out 1).trans rfl⟩ (fun hHeld => ?_); refine with_tabW impl_needless.tab1 impl_needless.bits1 (fun HT_ HW_ => ?_)
 generalize w4.drew = w5 at BK342 HB hHeld ⊢
 refine zU 0 3 HT_ ?_
 refine zU 3 6 HT_ ?_
 refine zU 5 8 HT_ ?_
 refine zT 1 4 HT_ HW_ hHeld ?_
 refine zU 2 5 HT_ ?_
 refine zT 4 7 HT_ HW_ hHeld ?_
 refine zT 6 9 HT_ HW_ hHeld ?_
 refine zO 7 10 HT_ fun K hK => ?_
 refine goes_ Try.func41 zq26 rfl #[.int .i64 a0_0, .slice A0_1 l0_1.length c0_1] (by rfl) rfl rfl zq1 ?_
 with_reducible refine (impl_result.calls k a0_0 _ _ l0_1 t343 _ ?side1 ?side2 A2.out).mono ?_
 (case side1 => exact zq21)
 (case side2 => exact HC0_1.out)
 rintro e w6 ⟨v344, rfl, ho0, hb⟩
 refine ⟨_, rfl, ?_⟩
 have HO345 := am (Kd.R_lower ho0 (below_size (pBq4 HB)))
 replace BK342 := am (blk_below (pKq4 BK342) hb)
 replace HB := am (below_step (pBq4 HB) hb)
 (try clear hb)
 (try clear hb2)
 (try clear hk)
 (try clear hi)
 (try clear ho0)
 obtain ⟨Ao7, co7, eo7⟩ := Kd.R_slice HO345.out
 (first | subst eo7 | (injection eo7 with f1_ f2_ f3_; have f4_ := f1_.symm; have f5_ := f3_.symm; clear f1_ f2_ f3_; subst f4_; subst f5_))
 refine hK.out _ _ ⟨(blk_cell BK342.out 0).trans rfl, (blk_cell BK342.out 1).trans rfl⟩ (fun hHeld => ?_)
 clear hK K
 refine zN 10 ?_
 refine zO 8 11 HT_ fun K hK => ?_
 refine goes_ Try.func39 zq26 rfl #[.slice Ao7 t343.length co7] (by rfl) rfl rfl zq1 ?_
 with_reducible refine (impl_inversions.calls k _ _ t343 t346 _ ?side1 ?side2 A3.out).mono ?_
 (case side1 => repeat (first | exact (Kd.R_reads' HO345.out).2.2 | (with_reducible refine Kd.C_alloc ?_ _) | (with_reducible refine Kd.C_drewN ?_ _) | (with_reducible refine Kd.C_drew ?_)))
 (case side2 => exact (Kd.R_reads' HO345.out).2.1)
 rintro e w8 ⟨rfl, hb⟩
 refine ⟨_, rfl, ?_⟩
 replace HO345 := am (Kd.R_below (pRq4 HO345) hb)
 replace BK342 := am (blk_below (pKq4 BK342) hb)
 replace HB := am (below_step (pBq4 HB) hb)
 (try clear hb)
 (try clear hb2)
 (try clear hk)
 (try clear hi)
 refine hK.out _ _ ⟨(blk_cell BK342.out 0).trans rfl, (blk_cell BK342.out 1).trans rfl⟩ (fun hHeld => ?_)
 clear hK K
 refine zN 11 ?_
 refine zU 9 12 HT_ ?_
 refine zU 10 2 HT_ ?_
 refine done_ (done_of HT_.out zq26) ?_
 try go_wp2
 go_ret
 exact ⟨zq11, zq10⟩
/-! ### impl_isCountedLadder: function 42 -/
def impl_isCountedLadder.f (k : Nat) (a0_0 : Int) (l0_1 : List Int) : Option (Bool) := (impl_isLadder.f a0_0 l0_1).bind fun t348 => (if t348 = true then (if a0_0 ≤ 6 then ((impl_needless.f k a0_0 l0_1).bind fun t349 => (some (t349 == 0))) else (some false)) else (some false))
theorem impl_isCountedLadder.mono : ∀ a0 a1 k, LeO (impl_isCountedLadder.f k a0 a1) (impl_isCountedLadder.f (k + 1) a0 a1) := by
 intro a0 a1 k
 unfold impl_isCountedLadder.f
 repeat' first | (with_reducible first | exact impl_needless.mono _ _ _ | exact LeO.refl _ | exact LeO.none _ | refine LeO.ite ?_ ?_ | refine LeO.bind ?_ (fun _ => ?_))
theorem impl_isCountedLadder.calls (k : Nat) (a0_0 : Int) (A0_1 : Option Addr) (c0_1 : Nat) (l0_1 : List Int) (r : Bool) (w : World) (hr0_1 : Kd.C (Kd.int .i64) w A0_1 l0_1.length l0_1) (hc0_1 : l0_1.length ≤ c0_1) (h : impl_isCountedLadder.f k a0_0 l0_1 = some r) :
  Calls Try.prog 42 #[.agg #[.int .i64 a0_0, .slice A0_1 l0_1.length c0_1]] w fun e w' => e = .returned (.bool r) ∧ Below w.heap.size w w' := by
 have hu34 := Try.underlying34
 have HR0_1 := am hr0_1
 have HC0_1 := am hc0_1
 clear hr0_1 hc0_1
 have HB := am (Below.refl w.heap.size w)
 have H : ((impl_isLadder.f a0_0 l0_1).bind fun t348 => (if t348 = true then (if a0_0 ≤ 6 then ((impl_needless.f k a0_0 l0_1).bind fun t349 => (some (t349 == 0))) else (some false)) else (some false))) = some r := h
 clear h
 obtain ⟨t348, A2, H⟩ := zS H
 (try dsimp only at H)
 by_cases c3 : t348 = true
 ·subst c3
  rw [if_pos rfl] at H
  by_cases c4 : a0_0 ≤ 6
  ·rw [if_pos c4] at H
   have c4b0 : decide (a0_0 ≤ 6) = true := decide_eq_true c4
   clear c4
   obtain ⟨t349, A5, H⟩ := zS H
   (try dsimp only at H)
   obtain rfl := Option.some.inj H
   go_enter Try.func42, Try.ntmps42
   go_wp2_with (first | ((with_reducible refine gate_dst (N := 1) rfl ?_); refine zE 1 (cs := #[.int .i64 a0_0, .slice A0_1 l0_1.length c0_1]) 34 ?_; intro gb347 hg w6 hbox hb; have BK347 := am (hbox); have GW347 := am ((zq100 : w.heap.size ≤ gb347)); have GE347 := am ((zq100 : w.heap.size ≤ gb347)); replace HB := am (below_step (pBq4 HB) hb); clear hb hbox hg; have hcz7_0 : w6.cell? ⟨gb347, 0, none⟩ = some (.int .i64 a0_0) := (blk_cell BK347.out 0).trans rfl; have hcz7_1 : w6.cell? ⟨gb347, 1, none⟩ = some (.slice A0_1 l0_1.length c0_1) := (blk_cell BK347.out 1).trans rfl; have hfz7_0 := blk_frozen BK347.out 0; have hfz7_1 := blk_frozen BK347.out 1) | ((with_reducible refine gate_callee (f := 40) rfl ?_); refine goesL_ (some 4) rfl rfl Try.func40 zq26 rfl #[.agg #[.int .i64 a0_0, .slice A0_1 l0_1.length c0_1]] rfl zq1 ?_; (with_reducible refine (impl_isLadder.calls a0_0 _ _ l0_1 true _ ?side1 ?side2 A2.out).mono ?_); (case side1 => exact zq21); (case side2 => exact HC0_1.out); rintro e w8 ⟨rfl, hb⟩; refine ⟨_, rfl, ?_⟩; replace BK347 := am (blk_below (pKq4 BK347) hb); replace HB := am (below_step (pBq4 HB) hb); (try clear hb); have hcz9_0 : w8.cell? ⟨gb347, 0, none⟩ = some (.int .i64 a0_0) := (blk_cell BK347.out 0).trans rfl; have hcz9_1 : w8.cell? ⟨gb347, 1, none⟩ = some (.slice A0_1 l0_1.length c0_1) := (blk_cell BK347.out 1).trans rfl; have hfz9_0 := blk_frozen BK347.out 0; have hfz9_1 := blk_frozen BK347.out 1) | (go_at_call 53; (with_reducible refine (impl_needless.calls k a0_0 _ _ l0_1 t349 _ ?side1 ?side2 A5.out).mono ?_); (case side1 => exact zq21); (case side2 => exact HC0_1.out); rintro e w10 ⟨rfl, hb⟩; replace BK347 := am (blk_below (pKq4 BK347) hb); replace HB := am (below_step (pBq4 HB) hb); (try clear hb)))
   go_ret
   exact ⟨zq11, zq10⟩
  ·rw [if_neg c4] at H
   have c4b0 : decide (a0_0 ≤ 6) = false := decide_eq_false c4
   clear c4
   obtain rfl := Option.some.inj H
   go_enter Try.func42, Try.ntmps42
   go_wp2_with (first | ((with_reducible refine gate_dst (N := 1) rfl ?_); refine zE 1 (cs := #[.int .i64 a0_0, .slice A0_1 l0_1.length c0_1]) 34 ?_; intro gb347 hg w11 hbox hb; have BK347 := am (hbox); have GW347 := am ((zq100 : w.heap.size ≤ gb347)); have GE347 := am ((zq100 : w.heap.size ≤ gb347)); replace HB := am (below_step (pBq4 HB) hb); clear hb hbox hg; have hcz12_0 : w11.cell? ⟨gb347, 0, none⟩ = some (.int .i64 a0_0) := (blk_cell BK347.out 0).trans rfl; have hcz12_1 : w11.cell? ⟨gb347, 1, none⟩ = some (.slice A0_1 l0_1.length c0_1) := (blk_cell BK347.out 1).trans rfl; have hfz12_0 := blk_frozen BK347.out 0; have hfz12_1 := blk_frozen BK347.out 1) | ((with_reducible refine gate_callee (f := 40) rfl ?_); refine goesL_ (some 4) rfl rfl Try.func40 zq26 rfl #[.agg #[.int .i64 a0_0, .slice A0_1 l0_1.length c0_1]] rfl zq1 ?_; (with_reducible refine (impl_isLadder.calls a0_0 _ _ l0_1 true _ ?side1 ?side2 A2.out).mono ?_); (case side1 => exact zq21); (case side2 => exact HC0_1.out); rintro e w13 ⟨rfl, hb⟩; refine ⟨_, rfl, ?_⟩; replace BK347 := am (blk_below (pKq4 BK347) hb); replace HB := am (below_step (pBq4 HB) hb); (try clear hb); have hcz14_0 : w13.cell? ⟨gb347, 0, none⟩ = some (.int .i64 a0_0) := (blk_cell BK347.out 0).trans rfl; have hcz14_1 : w13.cell? ⟨gb347, 1, none⟩ = some (.slice A0_1 l0_1.length c0_1) := (blk_cell BK347.out 1).trans rfl; have hfz14_0 := blk_frozen BK347.out 0; have hfz14_1 := blk_frozen BK347.out 1))
   go_ret
   exact ⟨zq11, zq10⟩
 ·replace c3 := Bool.eq_false_iff.mpr c3
  subst c3
  rw [if_neg (show ¬ (false = true) by decide)] at H
  obtain rfl := Option.some.inj H
  go_enter Try.func42, Try.ntmps42
  go_wp2_with (first | ((with_reducible refine gate_dst (N := 1) rfl ?_); refine zE 1 (cs := #[.int .i64 a0_0, .slice A0_1 l0_1.length c0_1]) 34 ?_; intro gb347 hg w15 hbox hb; have BK347 := am (hbox); have GW347 := am ((zq100 : w.heap.size ≤ gb347)); have GE347 := am ((zq100 : w.heap.size ≤ gb347)); replace HB := am (below_step (pBq4 HB) hb); clear hb hbox hg; have hcz16_0 : w15.cell? ⟨gb347, 0, none⟩ = some (.int .i64 a0_0) := (blk_cell BK347.out 0).trans rfl; have hcz16_1 : w15.cell? ⟨gb347, 1, none⟩ = some (.slice A0_1 l0_1.length c0_1) := (blk_cell BK347.out 1).trans rfl; have hfz16_0 := blk_frozen BK347.out 0; have hfz16_1 := blk_frozen BK347.out 1) | ((with_reducible refine gate_callee (f := 40) rfl ?_); refine goesL_ (some 4) rfl rfl Try.func40 zq26 rfl #[.agg #[.int .i64 a0_0, .slice A0_1 l0_1.length c0_1]] rfl zq1 ?_; (with_reducible refine (impl_isLadder.calls a0_0 _ _ l0_1 false _ ?side1 ?side2 A2.out).mono ?_); (case side1 => exact zq21); (case side2 => exact HC0_1.out); rintro e w17 ⟨rfl, hb⟩; refine ⟨_, rfl, ?_⟩; replace BK347 := am (blk_below (pKq4 BK347) hb); replace HB := am (below_step (pBq4 HB) hb); (try clear hb)))
  go_ret
  exact ⟨zq11, zq10⟩
/-! ### impl_RankOfLeast: function 16 -/
open Classical in
noncomputable def impl_RankOfLeast.ev {α : Type} (g : Nat → Option α) : Option α := if h : ∃ k r, g k = some r then g h.choose else none
theorem impl_RankOfLeast.ev_some {α : Type} {g : Nat → Option α} {r : α} (h : impl_RankOfLeast.ev g = some r) : ∃ k, g k = some r := by
 unfold impl_RankOfLeast.ev at h
 split at h
 ·exact ⟨_, h⟩
 ·cases h
theorem impl_RankOfLeast.b1 {N i : Nat} (h : N ≤ i * 14824161510814728) : N ≤ i * 14824161510814728 + 0 * 1853020188851841 := Nat.le_trans h (Nat.le_add_right _ _)
theorem impl_RankOfLeast.b2 {M i m : Nat} (h : M ≤ i * 14824161510814728 + m * 1853020188851841) : M ≤ i * 14824161510814728 + (m + 1) * 1853020188851841 := Nat.le_trans h (Nat.add_le_add_left (Nat.mul_le_mul_right _ (Nat.le_succ m)) _)
theorem impl_RankOfLeast.b3 {M i m : Nat} (hi : i < 60) (hm : m < 8) (h : M ≤ i * 14824161510814728 + m * 1853020188851841) : M + 1853020188851841 ≤ 4611686018427387904 ∧ M + 1853020188851841 ≤ i * 14824161510814728 + (m + 1) * 1853020188851841 :=
 ⟨Nat.le_trans (Nat.add_le_add_right (Nat.le_trans h (Nat.add_le_add (Nat.mul_le_mul_right _ (show i ≤ 59 by omega)) (Nat.mul_le_mul_right _ (show m ≤ 7 by omega)))) _) zq36,
 Nat.le_trans (Nat.add_le_add_right h _) (Nat.le_of_eq ((Nat.add_assoc _ _ _).trans (congrArg _ (Nat.succ_mul m _).symm)))⟩
theorem impl_RankOfLeast.b4 {M i m : Nat} (hm : m ≤ 8) (h : M ≤ i * 14824161510814728 + m * 1853020188851841) : M ≤ (i + 1) * 14824161510814728 :=
 Nat.le_trans h (Nat.le_trans (Nat.add_le_add_left (Nat.le_trans (Nat.mul_le_mul_right _ hm) (show 8 * 1853020188851841 ≤ 14824161510814728 by decide)) _) (Nat.le_of_eq (Nat.succ_mul i _).symm))
theorem impl_RankOfLeast.b0 : 0 ≤ 0 * 14824161510814728 := Nat.zero_le _
def impl_RankOfLeast.di (g : List Int → Option Int) (p : List Int) (r : Int) : List Int → Int → Option Int
 | [], s => some s
 | x :: ds, s => if x < r then (impl_exchanged.f p x).bind fun q => (g q).bind fun v => impl_RankOfLeast.di g p r ds (wrap64 (s + v)) else impl_RankOfLeast.di g p r ds s
noncomputable def impl_RankOfLeast.ro (g : List Int → Option Int) : List Int → List Int → Int → Option Int
 | [], _, s => some s
 | r :: rs, p, s => (impl_RankOfLeast.ev fun k => impl_descents.f k p).bind fun ds => if ds.length ≤ 8 then (impl_RankOfLeast.di g p r ds s).bind fun s' => (impl_exchanged.f p r).bind fun q => impl_RankOfLeast.ro g rs q s' else none
noncomputable def impl_RankOfLeast.f (a0 : Int) (l0 : List Int) : Option (Int × Bool) := (impl_RankOfLeast.ev fun k => impl_isCountedLadder.f k a0 l0).bind fun t => if t = true then (if l0.length ≤ 60 then (impl_RankOfLeast.ev fun k => impl_result.f k a0 l0).bind fun p => (impl_RankOfLeast.ro impl_counter_count.f l0 p 0).bind fun s => some (s, true) else none) else some (0, false)
theorem impl_RankOfLeast.calls (a0_0 : Int) (A0_1 : Option Addr) (c0_1 : Nat) (l0_1 : List Int) (r1 : Int) (r2 : Bool) (w : World) (hr0_1 : Kd.C (Kd.int .i64) w A0_1 l0_1.length l0_1) (hc0_1 : l0_1.length ≤ c0_1) (h : impl_RankOfLeast.f a0_0 l0_1 = some (r1, r2)) :
  Calls Try.prog 16 #[.agg #[.int .i64 a0_0, .slice A0_1 l0_1.length c0_1]] w fun e w' => e = .returned (.tuple #[.int .i64 r1, .bool r2]) ∧ Below w.heap.size w w' := by
 have HR := am hr0_1
 have HC := am hc0_1
 have hu26 := Try.underlying34
 clear hr0_1 hc0_1
 unfold impl_RankOfLeast.f at h
 obtain ⟨t, ht, h⟩ := Option.bind_eq_some_iff.1 h
 obtain ⟨kt, ht⟩ := impl_RankOfLeast.ev_some ht
 have HT := am ht
 clear ht
 cases t with
 | false =>
  rw [if_neg zq36] at h
  simp only [Option.some.injEq, Prod.mk.injEq] at h
  obtain ⟨rfl, rfl⟩ := h
  go_enter Try.func16, Try.ntmps16
  go_wp2_with (go_at_call 42; (with_reducible refine (impl_isCountedLadder.calls kt a0_0 A0_1 c0_1 l0_1 false _ ?side1 HC.out HT.out).mono ?_); (case side1 => exact zq106); rintro e w1 ⟨rfl, hb⟩; have HB := am (below_step (w := w) zq22 hb); clear hb)
  go_ret2
  exact ⟨rfl, HB.out⟩
 | true =>
  rw [if_pos rfl] at h
  split at h
  ·rename_i hn
   obtain ⟨p0, hp0, h⟩ := Option.bind_eq_some_iff.1 h
   obtain ⟨kp, hp0⟩ := impl_RankOfLeast.ev_some hp0
   obtain ⟨s1, hro, h⟩ := Option.bind_eq_some_iff.1 h
   simp only [Option.some.injEq, Prod.mk.injEq] at h
   obtain ⟨rfl, rfl⟩ := h
   have HP0 := am hp0
   have HRO := am hro
   have H60 := am hn
   clear hp0 hro hn
   have hmm := @run_makeMap Try.prog
   go_enter Try.func16, Try.ntmps16
   go_wp2_with (first | (go_at_call 42; (with_reducible refine (impl_isCountedLadder.calls kt a0_0 A0_1 c0_1 l0_1 true _ ?side1 HC.out HT.out).mono ?_); (case side1 => exact zq106); rintro e w1 ⟨rfl, hb⟩; have hcell0 : w1.cell? ⟨w.heap.size, 0, none⟩ = some (.int .i64 a0_0) := (hb.cell (p := ⟨w.heap.size, 0, none⟩) zq66).trans zq66; have hcell1 : w1.cell? ⟨w.heap.size, 1, none⟩ = some (.slice A0_1 l0_1.length c0_1) := (hb.cell (p := ⟨w.heap.size, 1, none⟩) zq66).trans zq66; have HB := am (below_step (w := w) zq22 hb); clear hb) | (go_at_call 41; (with_reducible refine (impl_result.calls kp a0_0 A0_1 c0_1 l0_1 p0 _ ?side1 HC.out HP0.out).mono ?_); (case side1 => exact zq165); rintro e w2 ⟨v2, rfl, ho, hb_⟩; have hb := below_step (w := w1) zq22 hb_; have hd1 : w2.cell? ⟨w.heap.size, 1, none⟩ = some (.slice A0_1 l0_1.length c0_1) := (hb.cell (p := ⟨w.heap.size, 1, none⟩) (World.block_lt_of_cell? _ _ hcell1)).trans hcell1; have hd2 : (w2.alloc (.map #[] 0)).cell? ⟨w.heap.size, 1, none⟩ = some (.slice A0_1 l0_1.length c0_1) := ((below_alloc (Below.refl w2.heap.size w2) _).cell (p := ⟨w.heap.size, 1, none⟩) (World.block_lt_of_cell? _ _ hd1)).trans hd1; have HB2 := am (below_step HB.out hb); have HP := am (Kd.R_lower (Kd.R_mono (Kd.R_bound ho) (fun k_ h_ => h_.2.2.1)) (below_size (w := w) (show Below w.heap.size w _ from zq80))); clear hb hb_ ho hcell0 hcell1; obtain ⟨A2, c2, e2⟩ := Kd.R_slice HP.out; subst e2))
   have HLEN := am (show l0_1.length ≤ 9223372036854775807 from HR.out.2.1)
   have HBB := am (show w.heap.size ≤ w2.heap.size from HB2.out.size)
   have HP3 := am (Kd.R_mono (Kd.R_alloc HP.out (.map #[] 0)) (fun k_ h_ => (show k_ ≠ w2.heap.size from fun e_ => by omega)))
   have HM3 := am (impl_counter_count.Mem.made w2)
   have HB3 := am (below_alloc HB2.out (.map #[] 0))
   clear hd2 hd1 HB HB2 HP
   generalize w2.heap.size = B at HBB HP3 HM3 ⊢
   go_loopg [4, 6, 23] l0_1.length (fun gg v4 v6 v24 w' => ∃ (i N : Nat) (s : Int) (p : List Int) (A : Option Addr) (c : Nat), v4 = .slice A p.length c ∧ v6 = .int .i64 s ∧ v24 = .int .i64 i ∧ i ≤ l0_1.length ∧ l0_1.length - i ≤ gg ∧ Aside0 (impl_RankOfLeast.ro impl_counter_count.f (l0_1.drop i) p s = some s1) ∧ Aside0 (Kd.R (Kd.int .i64) 3 w' w.heap.size (fun k_ => k_ ≠ B) (.slice A p.length c) p) ∧ Aside0 (impl_counter_count.Mem w' B N) ∧ Aside0 (N ≤ i * 14824161510814728) ∧ Aside0 (Below w.heap.size w w'))
   case atStart => exact ⟨0, 0, 0, p0, A2, c2, rfl, rfl, rfl, Nat.zero_le _, zq62, ⟨by rw [List.drop_zero]; exact HRO.out⟩, HP3, HM3, ⟨impl_RankOfLeast.b0⟩, HB3⟩
   case round =>
    clear HRO HP3 HM3 HB3
    obtain ⟨i, N, s, p, A, c, rfl, rfl, rfl, hi, hgk, HRO, HP, HM, HNN, HB⟩ := hrel
    by_cases hlt : i < l0_1.length
    ·have hltz : (i : Int) < (l0_1.length : Int) := zq62
     have hro := HRO.out
     have hdr : l0_1.drop i = rd l0_1 (i : Int) :: l0_1.drop (i + 1) := by
      have hr_ : rd l0_1 (i : Int) = l0_1[i] := by
       show l0_1.getD ((i : Int)).toNat 0 = _
       rw [Int.toNat_natCast, List.getD_eq_getElem?_getD, List.getElem?_eq_getElem hlt]; rfl
      rw [hr_]; exact List.drop_eq_getElem_cons hlt
     rw [hdr, impl_RankOfLeast.ro] at hro
     obtain ⟨ad, ead, hx0⟩ := Kd.at_int (Kd.C_below HR.out HB.out) (i : Int) (Int.natCast_nonneg i) hltz
     cases ead
     obtain ⟨x, hx⟩ : ∃ x, x = rd l0_1 (i : Int) := ⟨_, rfl⟩
     rw [← hx] at hx0 hro
     rw [Int.toNat_natCast] at hx0
     obtain ⟨ds, hds, hro⟩ := Option.bind_eq_some_iff.1 hro
     obtain ⟨kd, hds⟩ := impl_RankOfLeast.ev_some hds
     split at hro
     ·rename_i hd8
      obtain ⟨s', hri, hro⟩ := Option.bind_eq_some_iff.1 hro
      obtain ⟨q, hq, hro⟩ := Option.bind_eq_some_iff.1 hro
      have HRI := am hri
      have HQ := am hq
      have HRO2 := am hro
      have HD8 := am hd8
      have HDS := am hds
      clear HRO hro hri hq hdr hx hds
      go_wp2_with (go_at_call 43; (with_reducible refine (impl_descents.calls kd _ _ p ds _ ?side1 ?side2 HDS.out).mono ?_); (case side1 => exact zq52); (case side2 => exact (Kd.R_reads' HP.out).2.1); rintro e w3 ⟨v3, rfl, ho3, hb3_⟩; have hb3 := below_step (w := wr) zq22 hb3_; clear hb3_; have HL := am (Kd.R_lower (Kd.R_mono (Kd.R_bound ho3) (fun k_ h_ => (show k_ ≠ B from fun e_ => by have h1_ := HM.out.lt; have h2_ := h_.2.1; exact absurd (Nat.lt_of_lt_of_le h1_ h2_) (by rw [e_]; exact Nat.lt_irrefl B)))) (show w.heap.size ≤ _ from HB.out.size)); have HB3 := am (below_step HB.out hb3); have HM3 := am (HM.out.below hb3); have HP3 := am (Kd.R_below HP.out hb3); clear hb3 ho3; obtain ⟨A3, c3, e3⟩ := Kd.R_slice HL.out; subst e3)
      clear hx0 HP HM HB
      go_loopg [6, 30] ds.length (fun gg v6 v9 w' => ∃ (m M : Nat) (s : Int), v6 = .int .i64 s ∧ v9 = .int .i64 m ∧ m ≤ ds.length ∧ ds.length - m ≤ gg ∧ Aside0 (impl_RankOfLeast.di impl_counter_count.f p x (ds.drop m) s = some s') ∧ Aside0 (Kd.R (Kd.int .i64) 3 w' w.heap.size (fun k_ => k_ ≠ B) (.slice A p.length c) p) ∧ Aside0 (Kd.R (Kd.int .i64) 3 w' w.heap.size (fun k_ => k_ ≠ B) (.slice A3 ds.length c3) ds) ∧ Aside0 (impl_counter_count.Mem w' B M) ∧ Aside0 (M ≤ i * 14824161510814728 + m * 1853020188851841) ∧ Aside0 (Below w.heap.size w w'))
      case atStart => exact ⟨0, N, s, rfl, rfl, Nat.zero_le _, zq62, ⟨by rw [List.drop_zero]; exact HRI.out⟩, HP3, HL, HM3, ⟨impl_RankOfLeast.b1 HNN.out⟩, HB3⟩
      case round =>
       clear HRI HP3 HM3 HB3 HL HNN
       obtain ⟨m, M, s2, rfl, rfl, hm, hgk2, HRI, HP, HL, HM, HNN, HB⟩ := hrel
       by_cases hlt2 : m < ds.length
       ·have hltz2 : (m : Int) < (ds.length : Int) := zq62
        have hri := HRI.out
        have hdr : ds.drop m = rd ds (m : Int) :: ds.drop (m + 1) := by
         have hr_ : rd ds (m : Int) = ds[m] := by
          show ds.getD ((m : Int)).toNat 0 = _
          rw [Int.toNat_natCast, List.getD_eq_getElem?_getD, List.getElem?_eq_getElem hlt2]; rfl
         rw [hr_]; exact List.drop_eq_getElem_cons hlt2
        rw [hdr, impl_RankOfLeast.di] at hri
        obtain ⟨ad1, ead1, hx0⟩ := Kd.at_int (Kd.R_reads' HL.out).2.2 (m : Int) (Int.natCast_nonneg m) hltz2
        cases ead1
        obtain ⟨z, hz⟩ : ∃ z, z = rd ds (m : Int) := ⟨_, rfl⟩
        rw [← hz] at hx0 hri
        rw [Int.toNat_natCast] at hx0
        clear hz HRI hdr
        have hd8_ := HD8.out
        by_cases hc : z < x
        ·rw [if_pos hc] at hri
         obtain ⟨q2, hq2, hri⟩ := Option.bind_eq_some_iff.1 hri
         obtain ⟨v2, hv2, hri⟩ := Option.bind_eq_some_iff.1 hri
         have HQ2 := am hq2
         have HV2 := am hv2
         have HRI := am hri
         have hc0 : decide (z < x) = true := decide_eq_true hc
         have HLIM := am (impl_RankOfLeast.b3 (M := M) (i := i) (m := m) (by have := H60.out; omega) zq62 HNN.out)
         clear hq2 hv2 hri hc
         go_wp2_with (first | (go_at_call 37; (with_reducible refine (impl_exchanged.calls _ _ p z q2 _ ?side1 ?side2 HQ2.out).mono ?_); (case side1 => exact zq52); (case side2 => exact (Kd.R_reads' HP.out).2.1); rintro e w4 ⟨v4, rfl, ho4, hb4_⟩; have hb4 := below_step (w := wr) zq22 hb4_; clear hb4_; have HQR := am (Kd.R_mono (Kd.R_bound ho4) (fun k_ h_ => (show k_ ≠ B from fun e_ => by have h1_ := HM.out.lt; have h2_ := h_.2.1; exact absurd (Nat.lt_of_lt_of_le h1_ h2_) (by rw [e_]; exact Nat.lt_irrefl B)))); have HB4 := am (below_step HB.out hb4); have HM4 := am (HM.out.below hb4); have HP4 := am (Kd.R_below HP.out hb4); have HL4 := am (Kd.R_below HL.out hb4); clear hb4 ho4; obtain ⟨A4, c4, e4⟩ := Kd.R_slice HQR.out; subst e4) | (go_at_call 32; (with_reducible refine (impl_counter_count.callsN B M _ _ q2 v2 w _ ?side1 HBB.out ?side2 HLIM.out.1 ?side3 ?side4 HV2.out).mono ?_); (case side1 => exact HB4.out); (case side2 => exact HM4.out); (case side3 => exact zq113); (case side4 => exact zq152); rintro e w5 ⟨rfl, hm5, hb5, hk5⟩; have HM5 := am hm5; have HB5 := am hb5; have HP5 := am (Kd.R_kept HP4.out hk5 (fun _ h1_ h2_ => h1_ h2_)); have HL5 := am (Kd.R_kept HL4.out hk5 (fun _ h1_ h2_ => h1_ h2_)); clear hm5 hb5 hk5))
         go_roundg (ds.length - (m + 1))
         case measure => omega
         case rel => exact ⟨m + 1, M + 1853020188851841, wrap64 (s2 + v2), zq177, zq168, zq62, zq62, HRI, HP5, HL5, HM5, ⟨HLIM.out.2⟩, HB5⟩
        ·rw [if_neg hc] at hri
         have HRI := am hri
         have hc0 : decide (z < x) = false := decide_eq_false hc
         clear hri hc
         go_wp2
         go_roundg (ds.length - (m + 1))
         case measure => omega
         case rel => exact ⟨m + 1, M, s2, rfl, zq168, zq62, zq62, HRI, ⟨zq148⟩, ⟨(by (with_reducible repeat (first | apply Kd.R_alloc | apply Kd.R_drewN | apply Kd.R_drew)); exact HL.out)⟩, ⟨HM.out.below zq22⟩, ⟨impl_RankOfLeast.b2 HNN.out⟩, ⟨zq80⟩⟩
       ·have hltz2 : ¬ (m : Int) < (ds.length : Int) := zq62
        have hri := HRI.out
        rw [List.drop_eq_nil_of_le zq62, impl_RankOfLeast.di] at hri
        obtain rfl := Option.some.inj hri
        clear hri HRI
        go_wp2_with (go_at_call 37; (with_reducible refine (impl_exchanged.calls _ _ p x q _ ?side1 ?side2 HQ.out).mono ?_); (case side1 => exact zq52); (case side2 => exact (Kd.R_reads' HP.out).2.1); rintro e w6 ⟨v6, rfl, ho6, hb6_⟩; have hb6 := below_step (w := wr) zq22 hb6_; clear hb6_; have HP6 := am (Kd.R_lower (Kd.R_mono (Kd.R_bound ho6) (fun k_ h_ => (show k_ ≠ B from fun e_ => by have h1_ := HM.out.lt; have h2_ := h_.2.1; exact absurd (Nat.lt_of_lt_of_le h1_ h2_) (by rw [e_]; exact Nat.lt_irrefl B)))) (show w.heap.size ≤ _ from HB.out.size)); have HB6 := am (below_step HB.out hb6); have HM6 := am (HM.out.below hb6); clear hb6 ho6; obtain ⟨A6, c6, e6⟩ := Kd.R_slice HP6.out; subst e6)
        go_roundg (l0_1.length - (i + 1))
        case measure => omega
        case rel => exact ⟨i + 1, M, s2, q, A6, c6, rfl, rfl, (by have := HLEN.out; first | go_num | (congr 1; unfold wrap64; omega)), zq62, zq62, HRO2, HP6, HM6, ⟨impl_RankOfLeast.b4 (by have := HD8.out; omega) HNN.out⟩, HB6⟩
     ·cases hro
    ·have hltz : ¬ (i : Int) < (l0_1.length : Int) := zq62
     have hro := HRO.out
     rw [List.drop_eq_nil_of_le zq62, impl_RankOfLeast.ro] at hro
     obtain rfl := Option.some.inj hro
     clear hro HRO
     go_wp2
     go_ret2
     exact ⟨rfl, zq80⟩
  ·cases h
end
end Go.Proofs.Ytdeoeogdnagibaa.PLi
