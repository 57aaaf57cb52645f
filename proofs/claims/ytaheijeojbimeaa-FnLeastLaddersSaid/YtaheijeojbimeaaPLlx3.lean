-- Written for this claim by a program of this session (myprint.py) over the kit's printer.
import Derived.Test.YtaheijeojbimeaaPLlx0
import Derived.Test.YtaheijeojbimeaaPLlx1
import Derived.Test.YtaheijeojbimeaaPLlx2
namespace Go.Proofs.Ytaheijeojbimeaa.PLl
noncomputable section
open Go.RowKit Go.Proofs.YtaheijeojbimeaaW.PrintWords Go.Proofs.YtaheijeojbimeaaW.PrintLast Go.Proofs.YtaheijeojbimeaaW.PrintMore
attribute [local go_sem] max2_int min2_int max_two min_two max_three min_three max_four min_four   -- for this text's walks alone
set_option linter.unusedVariables false
set_option linter.unusedSimpArgs false
theorem pRq3 {α : Type} {d : Kd α} {e base : Nat} {ok : Nat → Prop} {v : Value} {xs : List α} {w W : World} (h0 : Aside0 (Kd.R d e w base ok v xs)) (hp : Kd.R d e W base ok v xs := by (with_reducible repeat (first | apply Kd.R_alloc | apply Kd.R_drewN | apply Kd.R_drew)); exact Aside0.out (by with_reducible assumption)) : Kd.R d e W base ok v xs := hp
theorem pKq3 {g : Nat} {o : Obj} {w W : World} (h0 : Aside0 (w.heap[g]? = some o)) (hp : W.heap[g]? = some o := by (with_reducible repeat (first | refine blk_drewN ?_ _ | refine blk_drew ?_ | refine blk_alloc ?_ _)); exact Aside0.out (by with_reducible assumption)) : W.heap[g]? = some o := hp
theorem pBq3 {b : Nat} {w0 w W : World} (h0 : Aside0 (Below b w0 w)) (hp : Below b w0 W := by repeat (first | (with_reducible first | exact Aside0.out (by assumption) | apply below_alloc | apply pw_below_drewN | apply below_drew1 | refine below_set ?_ (Aside0.out (by assumption))))) : Below b w0 W := hp
/-! ### spec_lsFirst: function 83 -/
mutual
def spec_lsFirst.l0 : Nat → List Int → List Int → Option (List Int)
 | 0, _, _ => none
 | k + 1, x0, x3 => spec_lsFirst.l1 k x0 x3 (-1) 0
def spec_lsFirst.l1 : Nat → List Int → List Int → Int → Int → Option (List Int)
 | 0, _, _, _, _ => none
 | k + 1, x0, x3, x4, x5 => if (wrap64 (x5 + 1)) < (x0.length : Int) then (spec_lsFirst.j2 k x0 x3 x4 x5 (decide (x4 < 0))) else (spec_lsFirst.j2 k x0 x3 x4 x5 false)
def spec_lsFirst.j2 : Nat → List Int → List Int → Int → Int → Bool → Option (List Int)
 | 0, _, _, _, _, _ => none
 | k + 1, x0, x3, x4, x5, x17 => if x17 = true then (if 0 ≤ x5 then (if x5 < (x0.length : Int) then (if 0 ≤ (wrap64 (x5 + 1)) then (if (wrap64 (x5 + 1)) < (x0.length : Int) then (if (rd x0 x5) > (rd x0 (wrap64 (x5 + 1))) then (spec_lsFirst.l1 k x0 x3 x5 (wrap64 (x5 + 1))) else (spec_lsFirst.l1 k x0 x3 x4 (wrap64 (x5 + 1)))) else (none)) else (none)) else (none)) else (none)) else (if x4 < 0 then (some x3) else (if 0 ≤ x4 then (if x4 < (x0.length : Int) then (if 0 ≤ (wrap64 (x4 + 1)) then (if (wrap64 (x4 + 1)) < (x0.length : Int) then (if x3.length < 17592186044416 then (spec_lsFirst.l0 k ((x0.set (x4 : Int).toNat (rd x0 (wrap64 (x4 + 1)))).set ((wrap64 (x4 + 1)) : Int).toNat (rd x0 x4)) (x3 ++ [x4])) else (none)) else (none)) else (none)) else (none)) else (none)))
end
def spec_lsFirst.f (k : Nat) (l0 : List Int) : Option (List Int) := (spec_l1Own.f l0).bind fun t258 => (spec_lsFirst.l0 k t258 ([] : List Int))
theorem spec_lsFirst.mono_l : ∀ k, (∀ y0 y1, LeO (spec_lsFirst.l0 k y0 y1) (spec_lsFirst.l0 (k + 1) y0 y1)) ∧ (∀ y0 y1 y2 y3, LeO (spec_lsFirst.l1 k y0 y1 y2 y3) (spec_lsFirst.l1 (k + 1) y0 y1 y2 y3)) ∧ (∀ y0 y1 y2 y3 y4, LeO (spec_lsFirst.j2 k y0 y1 y2 y3 y4) (spec_lsFirst.j2 (k + 1) y0 y1 y2 y3 y4))
 | 0 => ⟨fun _ _ r h => by simp [spec_lsFirst.l0] at h, fun _ _ _ _ r h => by simp [spec_lsFirst.l1] at h, fun _ _ _ _ _ r h => by simp [spec_lsFirst.j2] at h⟩
 | k + 1 => by
  obtain ⟨ih0, ih1, ih2⟩ := spec_lsFirst.mono_l k
  refine ⟨?_, ?_, ?_⟩
  ·intro y0 y1
   unfold spec_lsFirst.l0
   repeat' first | (with_reducible first | exact ih0 _ _ | exact ih1 _ _ _ _ | exact ih2 _ _ _ _ _ | exact LeO.refl _ | exact LeO.none _ | refine LeO.ite ?_ ?_ | refine LeO.bind ?_ (fun _ => ?_))
  ·intro y0 y1 y2 y3
   unfold spec_lsFirst.l1
   repeat' first | (with_reducible first | exact ih0 _ _ | exact ih1 _ _ _ _ | exact ih2 _ _ _ _ _ | exact LeO.refl _ | exact LeO.none _ | refine LeO.ite ?_ ?_ | refine LeO.bind ?_ (fun _ => ?_))
  ·intro y0 y1 y2 y3 y4
   unfold spec_lsFirst.j2
   repeat' first | (with_reducible first | exact ih0 _ _ | exact ih1 _ _ _ _ | exact ih2 _ _ _ _ _ | exact LeO.refl _ | exact LeO.none _ | refine LeO.ite ?_ ?_ | refine LeO.bind ?_ (fun _ => ?_))
theorem spec_lsFirst.mono : ∀ a0 k, LeO (spec_lsFirst.f k a0) (spec_lsFirst.f (k + 1) a0) := by
 intro a0 k
 obtain ⟨ih0, ih1, ih2⟩ := spec_lsFirst.mono_l k
 unfold spec_lsFirst.f
 repeat' first | (with_reducible first | exact ih0 _ _ | exact ih1 _ _ _ _ | exact ih2 _ _ _ _ _ | exact LeO.refl _ | exact LeO.none _ | refine LeO.ite ?_ ?_ | refine LeO.bind ?_ (fun _ => ?_))
set_option maxHeartbeats 8000000 in
set_option maxRecDepth 100000 in
theorem spec_lsFirst.calls (k : Nat) (A0 : Option Addr) (c0 : Nat) (l0 : List Int) (r : List Int) (w : World) (hr0 : Kd.C (Kd.int .i64) w A0 l0.length l0) (hc0 : l0.length ≤ c0) (h : spec_lsFirst.f k l0 = some r) :
  Calls Try.prog 83 #[.slice A0 l0.length c0] w fun e w' => ∃ v0_ : Value, e = .returned (v0_) ∧ Kd.R (Kd.int .i64) 3 w' w.heap.size (fun _ => True) v0_ r ∧ Below w.heap.size w w' := by
 have HR0 := Aside0.mk hr0
 have HC0 := Aside0.mk hc0
 clear hr0 hc0
 have HB := Aside0.mk (Below.refl w.heap.size w)
 have H : ((spec_l1Own.f l0).bind fun t258 => (spec_lsFirst.l0 k t258 ([] : List Int))) = some r := h
 clear h
 replace H := Option.bind_eq_some_iff.mp H
 obtain ⟨t258, A20, H⟩ := H
 replace H : (spec_lsFirst.l0 k t258 ([] : List Int)) = some r := H
 have A2 := Aside0.mk A20
 clear A20
 have H' := Aside0.mk H
 clear H
 go_enter Try.func83, Try.ntmps83
 go_wp2_with (first | (go_at_call 108; (with_reducible refine (spec_l1Own.calls _ _ l0 t258 _ ?side1 ?side2 A2.out).mono ?_); (case side1 => exact zq9); (case side2 => exact HC0.out); rintro e w3 ⟨v259, rfl, ho0, hb⟩; have HO260 := Aside0.mk (Kd.R_lower ho0 (below_size (pBq3 HB))); replace HB := Aside0.mk (below_step (pBq3 HB) hb); (try clear hb); (try clear ho0)))
 repeat (go_quiet (first | (go_at_call 108; (with_reducible refine (spec_l1Own.calls _ _ l0 t258 _ ?side1 ?side2 A2.out).mono ?_); (case side1 => exact zq9); (case side2 => exact HC0.out); rintro e w3 ⟨v259, rfl, ho0, hb⟩; have HO260 := Aside0.mk (Kd.R_lower ho0 (below_size (pBq3 HB))); replace HB := Aside0.mk (below_step (pBq3 HB) hb); (try clear hb); (try clear ho0))); try go_wp2_with (first | (go_at_call 108; (with_reducible refine (spec_l1Own.calls _ _ l0 t258 _ ?side1 ?side2 A2.out).mono ?_); (case side1 => exact zq9); (case side2 => exact HC0.out); rintro e w3 ⟨v259, rfl, ho0, hb⟩; have HO260 := Aside0.mk (Kd.R_lower ho0 (below_size (pBq3 HB))); replace HB := Aside0.mk (below_step (pBq3 HB) hb); (try clear hb); (try clear ho0))))
 go_loopg [3] k (fun kq v3 w' => ∃ (x0_1 : List Int) (x3_1 : List Int), Aside0 (spec_lsFirst.l0 kq x0_1 x3_1 = some r) ∧ Aside0 (kq ≤ k) ∧ Aside0 (Kd.R (Kd.int .i64) 3 w' w.heap.size (fun k_ => some k_ ≠ (v3 : Value).ownBlock) v259 x0_1) ∧ Aside0 (Kd.R (Kd.int .i64) 3 w' w.heap.size (fun k_ => some k_ ≠ (v259 : Value).ownBlock) v3 x3_1) ∧ Aside0 (Below w.heap.size w w'))
 case atStart => exact ⟨(t258), (([] : List Int)), H', ⟨Nat.le_refl _⟩, ⟨by (with_reducible repeat (first | apply Kd.R_alloc | apply Kd.R_drewN | apply Kd.R_drew)); exact Kd.R_mono HO260.out (fun _ hk => (by simp [Value.ownBlock]))⟩, ⟨zq15⟩, ⟨zq5⟩⟩
 case round =>
  clear H'
  try clear p2
  obtain ⟨x0_1, x3_1, HA, HK1, HO_0, HO_3, HB⟩ := hrel
  cases gk with
  | zero => exact absurd HA.out (by simp [spec_lsFirst.l0])
  | succ k1 =>
   have H := HA.out
   clear HA
   simp only [spec_lsFirst.l0] at H
   have H' := Aside0.mk H
   clear H
   go_wp2
   repeat (go_quiet (fail); try go_wp2)
   go_loopg [4, 5] k1 (fun kq v4 v5 w' => ∃ (x4_2 : Int) (x5_2 : Int), v4 = .int .i64 x4_2 ∧ v5 = .int .i64 x5_2 ∧ Aside0 (spec_lsFirst.l1 kq x0_1 x3_1 x4_2 x5_2 = some r) ∧ Aside0 (kq ≤ k1) ∧ Aside0 (Kd.R (Kd.int .i64) 3 w' w.heap.size (fun k_ => some k_ ≠ (u3 : Value).ownBlock) v259 x0_1) ∧ Aside0 (Kd.R (Kd.int .i64) 3 w' w.heap.size (fun k_ => some k_ ≠ (v259 : Value).ownBlock) u3 x3_1) ∧ Aside0 (Below w.heap.size w w'))
   case atStart => exact ⟨((-1)), (0), zq8, zq8, H', ⟨Nat.le_refl _⟩, ⟨zq50⟩, ⟨zq36⟩, ⟨zq5⟩⟩
   case round =>
    clear H'
    try clear p2
    try clear p2
    obtain ⟨x4_2, x5_2, rfl, rfl, HA, HK2, HO_0, HO_3, HB⟩ := hrel
    cases gk with
    | zero => exact absurd HA.out (by simp [spec_lsFirst.l1])
    | succ k2 =>
     have H := HA.out
     clear HA
     simp only [spec_lsFirst.l1] at H
     have HC4 := Aside0.mk H
     clear H
     go_upto_region 5 with (fail)
     repeat (go_quiet (fail); go_upto_region 5 with (fail))
     go_cut [17] (fun v17 wc => ∃ (kq : Nat) (x17_3 : Bool), v17 = .bool x17_3 ∧ Aside0 (spec_lsFirst.j2 kq x0_1 x3_1 x4_2 x5_2 x17_3 = some r) ∧ Aside0 (kq ≤ k2) ∧ Aside0 (Kd.R (Kd.int .i64) 3 wc w.heap.size (fun k_ => some k_ ≠ (u3 : Value).ownBlock) v259 x0_1) ∧ Aside0 (Kd.R (Kd.int .i64) 3 wc w.heap.size (fun k_ => some k_ ≠ (v259 : Value).ownBlock) u3 x3_1) ∧ Aside0 (Below w.heap.size w wc))
     case first =>
      have H := HC4.out
      clear HC4
      by_cases c5 : (wrap64 (x5_2 + 1)) < (x0_1.length : Int)
      ·rw [if_pos c5] at H
       have c5b0 : decide ((wrap64 (x5_2 + 1)) < (x0_1.length : Int)) = true := decide_eq_true c5
       clear c5
       (first | rw [c5b0] | (simp only [i64_w, i32_w]; rw [c5b0]) | skip)
       have H' := Aside0.mk H
       clear H
       obtain ⟨Ao6, co6, eo6⟩ := Kd.R_slice HO_0.out
       subst eo6
       go_wp2
       repeat (go_quiet (fail); try go_wp2)
       go_meet
       case rel => exact ⟨_, (decide (x4_2 < 0)), zq8, H', ⟨by have := HK1.out; have := HK2.out; first | omega | exact Nat.le_refl _⟩, ⟨zq50⟩, ⟨zq36⟩, ⟨zq5⟩⟩
      ·rw [if_neg c5] at H
       have c5b0 : decide ((wrap64 (x5_2 + 1)) < (x0_1.length : Int)) = false := decide_eq_false c5
       clear c5
       (first | rw [c5b0] | (simp only [i64_w, i32_w]; rw [c5b0]) | skip)
       have H' := Aside0.mk H
       clear H
       obtain ⟨Ao7, co7, eo7⟩ := Kd.R_slice HO_0.out
       subst eo7
       go_wp2
       repeat (go_quiet (fail); try go_wp2)
       go_meet
       case rel => exact ⟨_, (false), zq8, H', ⟨by have := HK1.out; have := HK2.out; first | omega | exact Nat.le_refl _⟩, ⟨zq50⟩, ⟨zq36⟩, ⟨zq5⟩⟩
     case rest =>
      clear HC4
      try clear p2
      try clear c5
      try clear c5b0
      try clear p6
      try clear p2
      obtain ⟨kq, x17_3, rfl, HA, HJ3, HO_0, HO_3, HB⟩ := hcut
      cases kq with
      | zero => exact absurd HA.out (by simp [spec_lsFirst.j2])
      | succ kj3 =>
       have H := HA.out
       clear HA
       simp only [spec_lsFirst.j2] at H
       by_cases c8 : x17_3 = true
       ·subst c8
        have H1 : (if 0 ≤ x5_2 then (if x5_2 < (x0_1.length : Int) then (if 0 ≤ (wrap64 (x5_2 + 1)) then (if (wrap64 (x5_2 + 1)) < (x0_1.length : Int) then (if (rd x0_1 x5_2) > (rd x0_1 (wrap64 (x5_2 + 1))) then (spec_lsFirst.l1 kj3 x0_1 x3_1 x5_2 (wrap64 (x5_2 + 1))) else (spec_lsFirst.l1 kj3 x0_1 x3_1 x4_2 (wrap64 (x5_2 + 1)))) else (none)) else (none)) else (none)) else (none)) = some r := by rw [if_pos rfl] at H; exact H
        clear H
        have H := H1
        clear H1
        by_cases c9 : 0 ≤ x5_2
        ·rw [if_pos c9] at H
         have c9b0 : decide (0 ≤ x5_2) = true := decide_eq_true c9
         clear c9
         by_cases c10 : x5_2 < (x0_1.length : Int)
         ·rw [if_pos c10] at H
          have c10b0 : decide (x5_2 < (x0_1.length : Int)) = true := decide_eq_true c10
          clear c10
          obtain ⟨ji11, hji11⟩ : ∃ j_ : Int, (wrap64 (x5_2 + 1)) = j_ := ⟨_, rfl⟩
          replace H : (if 0 ≤ (ji11) then (if (ji11) < (x0_1.length : Int) then (if (rd x0_1 x5_2) > (rd x0_1 (ji11)) then (spec_lsFirst.l1 kj3 x0_1 x3_1 x5_2 ji11) else (spec_lsFirst.l1 kj3 x0_1 x3_1 x4_2 ji11)) else (none)) else (none)) = some r := by first | (rw [hji11] at H; exact H) | (simp only [hji11] at H ⊢; exact H)
          have hji11w : (IntKind.i64.wrap (x5_2 + 1)) = ji11 := (i64_w _).trans hji11
          by_cases c12 : 0 ≤ (ji11)
          ·rw [if_pos c12] at H
           have c12b0 : decide (0 ≤ (ji11)) = true := decide_eq_true c12
           clear c12
           by_cases c13 : (ji11) < (x0_1.length : Int)
           ·rw [if_pos c13] at H
            have c13b0 : decide ((ji11) < (x0_1.length : Int)) = true := decide_eq_true c13
            clear c13
            by_cases c14 : (rd x0_1 x5_2) > (rd x0_1 (ji11))
            ·rw [if_pos c14] at H
             have c14b0 : decide ((rd x0_1 (ji11)) < (rd x0_1 x5_2)) = true := decide_eq_true c14
             clear c14
             have H' := Aside0.mk H
             clear H
             obtain ⟨Ao15, co15, eo15⟩ := Kd.R_slice HO_0.out
             subst eo15
             have p261 : 0 ≤ (x5_2 : Int) := of_decide_eq_true zq2
             have q261 : x5_2 < (x0_1.length : Int) := of_decide_eq_true zq2
             obtain ⟨ad261, e261, hx261_0⟩ := Kd.at_int (Kd.R_reads' HO_0.out).2.2 x5_2 p261 q261
             cases e261
             replace p261 := eq_true p261
             replace q261 := eq_true q261
             have p262 : 0 ≤ ((ji11) : Int) := of_decide_eq_true zq2
             have q262 : (ji11) < (x0_1.length : Int) := of_decide_eq_true zq2
             obtain ⟨ad262, e262, hx262_0⟩ := Kd.at_int (Kd.R_reads' HO_0.out).2.2 (ji11) p262 q262
             obtain rfl : ad261 = ad262 := (by injection e262)
             replace p262 := eq_true p262
             replace q262 := eq_true q262
             go_wp2
             repeat (go_quiet (fail); try go_wp2)
             go_roundg kj3
             case measure => have := HK1.out; have := HK2.out; have := HJ3.out; omega
             case rel => exact ⟨(x5_2), (ji11), zq8, (by first | rfl | (simp; done) | (simp only [← hji11] <;> (first | rfl | simp)) | (simp [*]; done)), H', ⟨by have := HK1.out; have := HK2.out; have := HJ3.out; omega⟩, ⟨zq50⟩, ⟨zq36⟩, ⟨zq5⟩⟩
            ·rw [if_neg c14] at H
             have c14b0 : decide ((rd x0_1 (ji11)) < (rd x0_1 x5_2)) = false := decide_eq_false c14
             clear c14
             have H' := Aside0.mk H
             clear H
             obtain ⟨Ao16, co16, eo16⟩ := Kd.R_slice HO_0.out
             subst eo16
             have p261 : 0 ≤ (x5_2 : Int) := of_decide_eq_true zq2
             have q261 : x5_2 < (x0_1.length : Int) := of_decide_eq_true zq2
             obtain ⟨ad261, e261, hx261_0⟩ := Kd.at_int (Kd.R_reads' HO_0.out).2.2 x5_2 p261 q261
             cases e261
             replace p261 := eq_true p261
             replace q261 := eq_true q261
             have p262 : 0 ≤ ((ji11) : Int) := of_decide_eq_true zq2
             have q262 : (ji11) < (x0_1.length : Int) := of_decide_eq_true zq2
             obtain ⟨ad262, e262, hx262_0⟩ := Kd.at_int (Kd.R_reads' HO_0.out).2.2 (ji11) p262 q262
             obtain rfl : ad261 = ad262 := (by injection e262)
             replace p262 := eq_true p262
             replace q262 := eq_true q262
             go_wp2
             repeat (go_quiet (fail); try go_wp2)
             go_roundg kj3
             case measure => have := HK1.out; have := HK2.out; have := HJ3.out; omega
             case rel => exact ⟨(x4_2), (ji11), zq8, (by first | rfl | (simp; done) | (simp only [← hji11] <;> (first | rfl | simp)) | (simp [*]; done)), H', ⟨by have := HK1.out; have := HK2.out; have := HJ3.out; omega⟩, ⟨zq50⟩, ⟨zq36⟩, ⟨zq5⟩⟩
           ·rw [if_neg c13] at H
            exact absurd H zq41
          ·rw [if_neg c12] at H
           exact absurd H zq41
         ·rw [if_neg c10] at H
          exact absurd H zq41
        ·rw [if_neg c9] at H
         exact absurd H zq41
       ·replace c8 := Bool.eq_false_iff.mpr c8
        subst c8
        have H1 : (if x4_2 < 0 then (some x3_1) else (if 0 ≤ x4_2 then (if x4_2 < (x0_1.length : Int) then (if 0 ≤ (wrap64 (x4_2 + 1)) then (if (wrap64 (x4_2 + 1)) < (x0_1.length : Int) then (if x3_1.length < 17592186044416 then (spec_lsFirst.l0 kj3 ((x0_1.set (x4_2 : Int).toNat (rd x0_1 (wrap64 (x4_2 + 1)))).set ((wrap64 (x4_2 + 1)) : Int).toNat (rd x0_1 x4_2)) (x3_1 ++ [x4_2])) else (none)) else (none)) else (none)) else (none)) else (none))) = some r := by rw [if_neg (show ¬ (false = true) by decide)] at H; exact H
        clear H
        have H := H1
        clear H1
        by_cases c17 : x4_2 < 0
        ·rw [if_pos c17] at H
         have c17b0 : decide (x4_2 < 0) = true := decide_eq_true c17
         clear c17
         obtain rfl := Option.some.inj H
         go_wp2
         repeat (go_quiet (fail); try go_wp2)
         go_ret
         exact ⟨_, zq3, by (with_reducible repeat (first | apply Kd.R_alloc | apply Kd.R_drewN | apply Kd.R_drew)); exact Kd.R_mono HO_3.out (fun _ hk => trivial), zq5⟩
        ·rw [if_neg c17] at H
         have c17b0 : decide (x4_2 < 0) = false := decide_eq_false c17
         clear c17
         by_cases c18 : 0 ≤ x4_2
         ·rw [if_pos c18] at H
          have c18b0 : decide (0 ≤ x4_2) = true := decide_eq_true c18
          clear c18
          by_cases c19 : x4_2 < (x0_1.length : Int)
          ·rw [if_pos c19] at H
           have c19b0 : decide (x4_2 < (x0_1.length : Int)) = true := decide_eq_true c19
           clear c19
           obtain ⟨ji20, hji20⟩ : ∃ j_ : Int, (wrap64 (x4_2 + 1)) = j_ := ⟨_, rfl⟩
           replace H : (if 0 ≤ (ji20) then (if (ji20) < (x0_1.length : Int) then (if x3_1.length < 17592186044416 then (spec_lsFirst.l0 kj3 ((x0_1.set (x4_2 : Int).toNat (rd x0_1 (ji20))).set ((ji20) : Int).toNat (rd x0_1 x4_2)) (x3_1 ++ [x4_2])) else (none)) else (none)) else (none)) = some r := by first | (rw [hji20] at H; exact H) | (simp only [hji20] at H ⊢; exact H)
           have hji20w : (IntKind.i64.wrap (x4_2 + 1)) = ji20 := (i64_w _).trans hji20
           by_cases c21 : 0 ≤ (ji20)
           ·rw [if_pos c21] at H
            have c21b0 : decide (0 ≤ (ji20)) = true := decide_eq_true c21
            clear c21
            by_cases c22 : (ji20) < (x0_1.length : Int)
            ·rw [if_pos c22] at H
             have c22b0 : decide ((ji20) < (x0_1.length : Int)) = true := decide_eq_true c22
             clear c22
             obtain ⟨y265, hy265⟩ : ∃ y_ : List Int, y_ = (x0_1.set (x4_2 : Int).toNat (rd x0_1 (ji20))) := ⟨_, rfl⟩
             replace H : (if x3_1.length < 17592186044416 then (spec_lsFirst.l0 kj3 (y265.set ((ji20) : Int).toNat (rd x0_1 x4_2)) (x3_1 ++ [x4_2])) else (none)) = some r := by first | (rw [hy265]; with_reducible exact H) | (have H2_ := (Option.bind_some _ _).symm.trans H; rw [hy265]; with_reducible exact H2_) | (have H2_ := (Option.bind_some _ _).symm.trans H; with_reducible exact H2_) | with_reducible exact H | (rw [hy265]; exact H) | exact H
             have Ny265 := Aside0.mk hy265
             clear hy265
             obtain ⟨y266, hy266⟩ : ∃ y_ : List Int, y_ = (y265.set ((ji20) : Int).toNat (rd x0_1 x4_2)) := ⟨_, rfl⟩
             replace H : (if x3_1.length < 17592186044416 then (spec_lsFirst.l0 kj3 y266 (x3_1 ++ [x4_2])) else (none)) = some r := by first | (rw [hy266]; with_reducible exact H) | (have H2_ := (Option.bind_some _ _).symm.trans H; rw [hy266]; with_reducible exact H2_) | (have H2_ := (Option.bind_some _ _).symm.trans H; with_reducible exact H2_) | with_reducible exact H | (rw [hy266]; exact H) | exact H
             have Ny266 := Aside0.mk hy266
             clear hy266
             by_cases c25 : x3_1.length < 17592186044416
             ·rw [if_pos c25] at H
              have LMc25 := Aside0.mk c25
              clear c25
              obtain ⟨y267, hy267⟩ : ∃ y_ : List Int, y_ = (x3_1 ++ [x4_2]) := ⟨_, rfl⟩
              replace H : (spec_lsFirst.l0 kj3 y266 y267) = some r := by first | (rw [hy267]; with_reducible exact H) | (have H2_ := (Option.bind_some _ _).symm.trans H; rw [hy267]; with_reducible exact H2_) | (have H2_ := (Option.bind_some _ _).symm.trans H; with_reducible exact H2_) | with_reducible exact H | (rw [hy267]; exact H) | exact H
              have Ny267 := Aside0.mk hy267
              clear hy267
              have H' := Aside0.mk H
              clear H
              obtain ⟨Ao26, co26, eo26⟩ := Kd.R_slice HO_0.out
              subst eo26
              have p263 : 0 ≤ (x4_2 : Int) := of_decide_eq_true zq2
              have q263 : x4_2 < (x0_1.length : Int) := of_decide_eq_true zq2
              obtain ⟨ad263, e263, hx263_0⟩ := Kd.at_int (Kd.R_reads' HO_0.out).2.2 x4_2 p263 q263
              cases e263
              replace p263 := eq_true p263
              replace q263 := eq_true q263
              have p264 : 0 ≤ ((ji20) : Int) := of_decide_eq_true zq2
              have q264 : (ji20) < (x0_1.length : Int) := of_decide_eq_true zq2
              obtain ⟨ad264, e264, hx264_0⟩ := Kd.at_int (Kd.R_reads' HO_0.out).2.2 (ji20) p264 q264
              obtain rfl : ad263 = ad264 := (by injection e264)
              replace p264 := eq_true p264
              replace q264 := eq_true q264
              have p23 : 0 ≤ (x4_2 : Int) := of_decide_eq_true zq2
              have q23 : (x4_2 : Int) < ((x0_1.length : Int) : Int) := of_decide_eq_true zq2
              obtain ⟨go23, co23, eo23, gb23, gl23, cl23, HG23⟩ := Kd.R_form HO_0.out zq60
              (first | cases eo23 | (injection eo23 with ea_ en_ ec_; (first | subst ea_ | (injection ea_ with ea_; subst ea_)); subst ec_; clear en_))
              have GB23 := Aside0.mk gb23
              have GG23 := Aside0.mk HG23
              clear gb23 gl23 HG23
              (first | simp only [add_plain] at hx263_0 | skip)
              (first | simp only [add_plain] at hx264_0 | skip)
              obtain ⟨hx23_0, hf23_0⟩ := Kd.R_celln 0 HO_0.out (x4_2 : Int) p23 q23
              replace p23 := eq_true p23
              replace q23 := eq_true q23
              have HP27 := Kd.R_putg HO_0.out (x4_2 : Int) (rd x0_1 (ji20))
              go_wp2_with (first | ((with_reducible refine gate_store (t := 3) (p := 45) rfl ?_); (try (rw [drewN_self wc]; generalize hq_ : World.drewN wc _ = wc; replace HO_0 := Aside0.mk (Kd.R_at hq_ HO_0.out); replace HO_3 := Aside0.mk (Kd.R_at hq_ HO_3.out); replace HB := Aside0.mk (below_at hq_ HB.out); clear hq_; (try (have HP27 := Kd.R_putg HO_0.out (x4_2 : Int) (rd x0_1 (ji20)))))); refine store_event (t := 3) (p := 45) (v := ?vo_w28) (w1 := (wc.setCell ⟨go23, (x4_2 : Int).toNat, none⟩ (.int .i64 (rd x0_1 (ji20))))) ?hg ?ho ?hn ?hr ?_; (case ho => rfl); (case hg => rfl); (case hn => rfl); (case hr => exact zq16); intro w28 hw; have hg : wc.grownBy w28 (some go23) := (by rw [hw]; exact HP27.2); have hp_ : Kd.R (Kd.int .i64) 3 w28 w.heap.size (fun k_ => some k_ ≠ (u3 : Value).ownBlock) (.slice (some ⟨go23, 0, none⟩) x0_1.length co26) y265 := (by rw [hw, Ny265.out]; exact HP27.1); clear HP27; replace HO_0 := Aside0.mk (hp_); replace HO_3 := Aside0.mk (Kd.R_after (v := (.slice (some ⟨go23, 0, none⟩) x0_1.length co26)) (v1 := (.slice (some ⟨go23, 0, none⟩) x0_1.length co26)) (ok := (fun _ => True)) zq65 hg (.inl rfl)); replace HB := Aside0.mk ((by rw [hw]; exact below_set (HB.out) GB23.out : Below w.heap.size w w28)); clear hg hw hp_; have p24 : 0 ≤ ((ji20) : Int) := of_decide_eq_true zq2; have q24 : ((ji20) : Int) < ((x0_1.length : Int) : Int) := of_decide_eq_true zq2; obtain ⟨hx24_0, hf24_0⟩ := Kd.R_celln 0 HO_0.out ((ji20) : Int) p24 q24; replace p24 := eq_true p24; replace q24 := eq_true q24; obtain ⟨hy29_, hz29_⟩ := Kd.R_celln 0 HO_0.out ((ji20) : Int) (of_decide_eq_true zq2) (of_decide_eq_true zq2); have HP29 := Kd.R_putg HO_0.out ((ji20) : Int) (rd x0_1 x4_2)) | ((with_reducible refine gate_store (t := 3) (p := 50) rfl ?_); (try (rw [drewN_self w28]; generalize hq_ : World.drewN w28 _ = w28; replace HO_0 := Aside0.mk (Kd.R_at hq_ HO_0.out); replace HO_3 := Aside0.mk (Kd.R_at hq_ HO_3.out); replace HB := Aside0.mk (below_at hq_ HB.out); clear hq_; (try (obtain ⟨hy29_, hz29_⟩ := Kd.R_celln 0 HO_0.out ((ji20) : Int) (of_decide_eq_true zq2) (of_decide_eq_true zq2))); (try (have HP29 := Kd.R_putg HO_0.out ((ji20) : Int) (rd x0_1 x4_2))))); refine store_event (t := 3) (p := 50) (v := ?vo_w30) (w1 := (w28.setCell ⟨go23, ((ji20) : Int).toNat, none⟩ (.int .i64 (rd x0_1 x4_2)))) ?hg ?ho ?hn ?hr ?_; (case ho => rfl); (case hg => rfl); (case hn => rfl); (case hr => exact zq16); intro w30 hw; have hg : w28.grownBy w30 (some go23) := (by rw [hw]; exact HP29.2); have hp_ : Kd.R (Kd.int .i64) 3 w30 w.heap.size (fun k_ => some k_ ≠ (u3 : Value).ownBlock) (.slice (some ⟨go23, 0, none⟩) x0_1.length co26) y266 := (by rw [hw, Ny266.out]; exact HP29.1); clear HP29; replace HO_0 := Aside0.mk (hp_); replace HO_3 := Aside0.mk (Kd.R_after (v := (.slice (some ⟨go23, 0, none⟩) x0_1.length co26)) (v1 := (.slice (some ⟨go23, 0, none⟩) x0_1.length co26)) (ok := (fun _ => True)) (pRq3 HO_3) hg (.inl rfl)); replace HB := Aside0.mk ((by rw [hw]; exact below_set (HB.out) GB23.out : Below w.heap.size w w30)); clear hg hw hp_) | ((with_reducible refine gate_builtin (b := .append) (xs := #[.tmp 51, .tmp 53]) rfl ?_); at_builtin; refine Kd.R_append (Kd.int .i64) (w0 := w) w.heap.size rfl (.tmp 51) (.tmp 53) 24 3 (.int .i64 0) 8 rfl Try.underlying24 info3 rfl zq35 zq60 u3 x3_1 x4_2 [.int .i64 x4_2] (fun k_ => some k_ ≠ (.slice (some ⟨go23, 0, none⟩) x0_1.length co26 : Value).ownBlock) (fun _ => False) rfl rfl ?aP (fun _ hk => hk.elim) ?aF ?aO ?aB ?aS ?aL ?_; (case aP => exact rfl); (case aB => exact (pBq3 HB)); (case aF => exact (fun k_ hk => Kd.fresh' (Kd.R_lt (pRq3 HO_0)) k_ hk)); (case aO => exact zq69); (case aS => exact zq96); (case aL => have := LMc25.out; omega); intro v268 w31 ho hb hg hat; rw [← Ny267.out] at ho; have HO269 := Aside0.mk (ho); replace HO_0 := Aside0.mk (Kd.R_after (ok := (fun _ => True)) zq66 hg hat); replace HB := Aside0.mk (hb); clear HO_3; clear ho hb hg hat))
              repeat (go_quiet (first | ((with_reducible refine gate_store (t := 3) (p := 45) rfl ?_); (try (rw [drewN_self wc]; generalize hq_ : World.drewN wc _ = wc; replace HO_0 := Aside0.mk (Kd.R_at hq_ HO_0.out); replace HO_3 := Aside0.mk (Kd.R_at hq_ HO_3.out); replace HB := Aside0.mk (below_at hq_ HB.out); clear hq_; (try (have HP27 := Kd.R_putg HO_0.out (x4_2 : Int) (rd x0_1 (ji20)))))); refine store_event (t := 3) (p := 45) (v := ?vo_w28) (w1 := (wc.setCell ⟨go23, (x4_2 : Int).toNat, none⟩ (.int .i64 (rd x0_1 (ji20))))) ?hg ?ho ?hn ?hr ?_; (case ho => rfl); (case hg => rfl); (case hn => rfl); (case hr => exact zq16); intro w28 hw; have hg : wc.grownBy w28 (some go23) := (by rw [hw]; exact HP27.2); have hp_ : Kd.R (Kd.int .i64) 3 w28 w.heap.size (fun k_ => some k_ ≠ (u3 : Value).ownBlock) (.slice (some ⟨go23, 0, none⟩) x0_1.length co26) y265 := (by rw [hw, Ny265.out]; exact HP27.1); clear HP27; replace HO_0 := Aside0.mk (hp_); replace HO_3 := Aside0.mk (Kd.R_after (v := (.slice (some ⟨go23, 0, none⟩) x0_1.length co26)) (v1 := (.slice (some ⟨go23, 0, none⟩) x0_1.length co26)) (ok := (fun _ => True)) zq65 hg (.inl rfl)); replace HB := Aside0.mk ((by rw [hw]; exact below_set (HB.out) GB23.out : Below w.heap.size w w28)); clear hg hw hp_; have p24 : 0 ≤ ((ji20) : Int) := of_decide_eq_true zq2; have q24 : ((ji20) : Int) < ((x0_1.length : Int) : Int) := of_decide_eq_true zq2; obtain ⟨hx24_0, hf24_0⟩ := Kd.R_celln 0 HO_0.out ((ji20) : Int) p24 q24; replace p24 := eq_true p24; replace q24 := eq_true q24; obtain ⟨hy29_, hz29_⟩ := Kd.R_celln 0 HO_0.out ((ji20) : Int) (of_decide_eq_true zq2) (of_decide_eq_true zq2); have HP29 := Kd.R_putg HO_0.out ((ji20) : Int) (rd x0_1 x4_2)) | ((with_reducible refine gate_store (t := 3) (p := 50) rfl ?_); (try (rw [drewN_self w28]; generalize hq_ : World.drewN w28 _ = w28; replace HO_0 := Aside0.mk (Kd.R_at hq_ HO_0.out); replace HO_3 := Aside0.mk (Kd.R_at hq_ HO_3.out); replace HB := Aside0.mk (below_at hq_ HB.out); clear hq_; (try (obtain ⟨hy29_, hz29_⟩ := Kd.R_celln 0 HO_0.out ((ji20) : Int) (of_decide_eq_true zq2) (of_decide_eq_true zq2))); (try (have HP29 := Kd.R_putg HO_0.out ((ji20) : Int) (rd x0_1 x4_2))))); refine store_event (t := 3) (p := 50) (v := ?vo_w30) (w1 := (w28.setCell ⟨go23, ((ji20) : Int).toNat, none⟩ (.int .i64 (rd x0_1 x4_2)))) ?hg ?ho ?hn ?hr ?_; (case ho => rfl); (case hg => rfl); (case hn => rfl); (case hr => exact zq16); intro w30 hw; have hg : w28.grownBy w30 (some go23) := (by rw [hw]; exact HP29.2); have hp_ : Kd.R (Kd.int .i64) 3 w30 w.heap.size (fun k_ => some k_ ≠ (u3 : Value).ownBlock) (.slice (some ⟨go23, 0, none⟩) x0_1.length co26) y266 := (by rw [hw, Ny266.out]; exact HP29.1); clear HP29; replace HO_0 := Aside0.mk (hp_); replace HO_3 := Aside0.mk (Kd.R_after (v := (.slice (some ⟨go23, 0, none⟩) x0_1.length co26)) (v1 := (.slice (some ⟨go23, 0, none⟩) x0_1.length co26)) (ok := (fun _ => True)) (pRq3 HO_3) hg (.inl rfl)); replace HB := Aside0.mk ((by rw [hw]; exact below_set (HB.out) GB23.out : Below w.heap.size w w30)); clear hg hw hp_) | ((with_reducible refine gate_builtin (b := .append) (xs := #[.tmp 51, .tmp 53]) rfl ?_); at_builtin; refine Kd.R_append (Kd.int .i64) (w0 := w) w.heap.size rfl (.tmp 51) (.tmp 53) 24 3 (.int .i64 0) 8 rfl Try.underlying24 info3 rfl zq35 zq60 u3 x3_1 x4_2 [.int .i64 x4_2] (fun k_ => some k_ ≠ (.slice (some ⟨go23, 0, none⟩) x0_1.length co26 : Value).ownBlock) (fun _ => False) rfl rfl ?aP (fun _ hk => hk.elim) ?aF ?aO ?aB ?aS ?aL ?_; (case aP => exact rfl); (case aB => exact (pBq3 HB)); (case aF => exact (fun k_ hk => Kd.fresh' (Kd.R_lt (pRq3 HO_0)) k_ hk)); (case aO => exact zq69); (case aS => exact zq96); (case aL => have := LMc25.out; omega); intro v268 w31 ho hb hg hat; rw [← Ny267.out] at ho; have HO269 := Aside0.mk (ho); replace HO_0 := Aside0.mk (Kd.R_after (ok := (fun _ => True)) zq66 hg hat); replace HB := Aside0.mk (hb); clear HO_3; clear ho hb hg hat)); try go_wp2_with (first | ((with_reducible refine gate_store (t := 3) (p := 45) rfl ?_); (try (rw [drewN_self wc]; generalize hq_ : World.drewN wc _ = wc; replace HO_0 := Aside0.mk (Kd.R_at hq_ HO_0.out); replace HO_3 := Aside0.mk (Kd.R_at hq_ HO_3.out); replace HB := Aside0.mk (below_at hq_ HB.out); clear hq_; (try (have HP27 := Kd.R_putg HO_0.out (x4_2 : Int) (rd x0_1 (ji20)))))); refine store_event (t := 3) (p := 45) (v := ?vo_w28) (w1 := (wc.setCell ⟨go23, (x4_2 : Int).toNat, none⟩ (.int .i64 (rd x0_1 (ji20))))) ?hg ?ho ?hn ?hr ?_; (case ho => rfl); (case hg => rfl); (case hn => rfl); (case hr => exact zq16); intro w28 hw; have hg : wc.grownBy w28 (some go23) := (by rw [hw]; exact HP27.2); have hp_ : Kd.R (Kd.int .i64) 3 w28 w.heap.size (fun k_ => some k_ ≠ (u3 : Value).ownBlock) (.slice (some ⟨go23, 0, none⟩) x0_1.length co26) y265 := (by rw [hw, Ny265.out]; exact HP27.1); clear HP27; replace HO_0 := Aside0.mk (hp_); replace HO_3 := Aside0.mk (Kd.R_after (v := (.slice (some ⟨go23, 0, none⟩) x0_1.length co26)) (v1 := (.slice (some ⟨go23, 0, none⟩) x0_1.length co26)) (ok := (fun _ => True)) zq65 hg (.inl rfl)); replace HB := Aside0.mk ((by rw [hw]; exact below_set (HB.out) GB23.out : Below w.heap.size w w28)); clear hg hw hp_; have p24 : 0 ≤ ((ji20) : Int) := of_decide_eq_true zq2; have q24 : ((ji20) : Int) < ((x0_1.length : Int) : Int) := of_decide_eq_true zq2; obtain ⟨hx24_0, hf24_0⟩ := Kd.R_celln 0 HO_0.out ((ji20) : Int) p24 q24; replace p24 := eq_true p24; replace q24 := eq_true q24; obtain ⟨hy29_, hz29_⟩ := Kd.R_celln 0 HO_0.out ((ji20) : Int) (of_decide_eq_true zq2) (of_decide_eq_true zq2); have HP29 := Kd.R_putg HO_0.out ((ji20) : Int) (rd x0_1 x4_2)) | ((with_reducible refine gate_store (t := 3) (p := 50) rfl ?_); (try (rw [drewN_self w28]; generalize hq_ : World.drewN w28 _ = w28; replace HO_0 := Aside0.mk (Kd.R_at hq_ HO_0.out); replace HO_3 := Aside0.mk (Kd.R_at hq_ HO_3.out); replace HB := Aside0.mk (below_at hq_ HB.out); clear hq_; (try (obtain ⟨hy29_, hz29_⟩ := Kd.R_celln 0 HO_0.out ((ji20) : Int) (of_decide_eq_true zq2) (of_decide_eq_true zq2))); (try (have HP29 := Kd.R_putg HO_0.out ((ji20) : Int) (rd x0_1 x4_2))))); refine store_event (t := 3) (p := 50) (v := ?vo_w30) (w1 := (w28.setCell ⟨go23, ((ji20) : Int).toNat, none⟩ (.int .i64 (rd x0_1 x4_2)))) ?hg ?ho ?hn ?hr ?_; (case ho => rfl); (case hg => rfl); (case hn => rfl); (case hr => exact zq16); intro w30 hw; have hg : w28.grownBy w30 (some go23) := (by rw [hw]; exact HP29.2); have hp_ : Kd.R (Kd.int .i64) 3 w30 w.heap.size (fun k_ => some k_ ≠ (u3 : Value).ownBlock) (.slice (some ⟨go23, 0, none⟩) x0_1.length co26) y266 := (by rw [hw, Ny266.out]; exact HP29.1); clear HP29; replace HO_0 := Aside0.mk (hp_); replace HO_3 := Aside0.mk (Kd.R_after (v := (.slice (some ⟨go23, 0, none⟩) x0_1.length co26)) (v1 := (.slice (some ⟨go23, 0, none⟩) x0_1.length co26)) (ok := (fun _ => True)) (pRq3 HO_3) hg (.inl rfl)); replace HB := Aside0.mk ((by rw [hw]; exact below_set (HB.out) GB23.out : Below w.heap.size w w30)); clear hg hw hp_) | ((with_reducible refine gate_builtin (b := .append) (xs := #[.tmp 51, .tmp 53]) rfl ?_); at_builtin; refine Kd.R_append (Kd.int .i64) (w0 := w) w.heap.size rfl (.tmp 51) (.tmp 53) 24 3 (.int .i64 0) 8 rfl Try.underlying24 info3 rfl zq35 zq60 u3 x3_1 x4_2 [.int .i64 x4_2] (fun k_ => some k_ ≠ (.slice (some ⟨go23, 0, none⟩) x0_1.length co26 : Value).ownBlock) (fun _ => False) rfl rfl ?aP (fun _ hk => hk.elim) ?aF ?aO ?aB ?aS ?aL ?_; (case aP => exact rfl); (case aB => exact (pBq3 HB)); (case aF => exact (fun k_ hk => Kd.fresh' (Kd.R_lt (pRq3 HO_0)) k_ hk)); (case aO => exact zq69); (case aS => exact zq96); (case aL => have := LMc25.out; omega); intro v268 w31 ho hb hg hat; rw [← Ny267.out] at ho; have HO269 := Aside0.mk (ho); replace HO_0 := Aside0.mk (Kd.R_after (ok := (fun _ => True)) zq66 hg hat); replace HB := Aside0.mk (hb); clear HO_3; clear ho hb hg hat)))
              go_roundg kj3
              case measure => have := HK1.out; have := HK2.out; have := HJ3.out; omega
              case rel => exact ⟨(y266), (y267), H', ⟨by have := HK1.out; have := HK2.out; have := HJ3.out; omega⟩, ⟨by (with_reducible repeat (first | apply Kd.R_alloc | apply Kd.R_drewN | apply Kd.R_drew)); exact Kd.R_mono HO_0.out (fun _ hk => hk.2)⟩, ⟨by (with_reducible repeat (first | apply Kd.R_alloc | apply Kd.R_drewN | apply Kd.R_drew)); exact HO269.out⟩, ⟨zq5⟩⟩
             ·rw [if_neg c25] at H
              exact absurd H zq41
            ·rw [if_neg c22] at H
             exact absurd H zq41
           ·rw [if_neg c21] at H
            exact absurd H zq41
          ·rw [if_neg c19] at H
           exact absurd H zq41
         ·rw [if_neg c18] at H
          exact absurd H zq41
/-! ### spec_LeastLadder: function 27 -/
def spec_LeastLadder.f (k : Nat) (l0 : List Int) : Option (Int × List Int × Bool) := (spec_laOrder.f k l0).bind fun t271 => (if t271 = true then (if (l0.length : Int) < 2 then (some (0, ([] : List Int), false)) else ((spec_lsFirst.f k l0).bind fun t272 => (some ((l0.length : Int), t272, true)))) else (some (0, ([] : List Int), false)))
theorem spec_LeastLadder.mono : ∀ a0 k, LeO (spec_LeastLadder.f k a0) (spec_LeastLadder.f (k + 1) a0) := by
 intro a0 k
 unfold spec_LeastLadder.f
 repeat' first | (with_reducible first | exact spec_laOrder.mono _ _ | exact spec_lsFirst.mono _ _ | exact LeO.refl _ | exact LeO.none _ | refine LeO.ite ?_ ?_ | refine LeO.bind ?_ (fun _ => ?_))
set_option maxHeartbeats 8000000 in
set_option maxRecDepth 100000 in
theorem spec_LeastLadder.calls (k : Nat) (A0 : Option Addr) (c0 : Nat) (l0 : List Int) (r1 : Int) (r2 : List Int) (r3 : Bool) (w : World) (hr0 : Kd.C (Kd.int .i64) w A0 l0.length l0) (hc0 : l0.length ≤ c0) (h : spec_LeastLadder.f k l0 = some (r1, r2, r3)) :
  Calls Try.prog 27 #[.slice A0 l0.length c0] w fun e w' => ∃ v1_ : Value, e = .returned (.tuple #[.agg #[.int .i64 r1, v1_], .bool r3]) ∧ Kd.R (Kd.int .i64) 3 w' w.heap.size (fun _ => True) v1_ r2 ∧ Below w.heap.size w w' := by
 have hu40 := Try.underlying40
 have HR0 := Aside0.mk hr0
 have HC0 := Aside0.mk hc0
 clear hr0 hc0
 have HB := Aside0.mk (Below.refl w.heap.size w)
 have H : ((spec_laOrder.f k l0).bind fun t271 => (if t271 = true then (if (l0.length : Int) < 2 then (some (0, ([] : List Int), false)) else ((spec_lsFirst.f k l0).bind fun t272 => (some ((l0.length : Int), t272, true)))) else (some (0, ([] : List Int), false)))) = some (r1, r2, r3) := h
 clear h
 replace H := Option.bind_eq_some_iff.mp H
 obtain ⟨t271, A20, H⟩ := H
 replace H : (if t271 = true then (if (l0.length : Int) < 2 then (some (0, ([] : List Int), false)) else ((spec_lsFirst.f k l0).bind fun t272 => (some ((l0.length : Int), t272, true)))) else (some (0, ([] : List Int), false))) = some (r1, r2, r3) := H
 have A2 := Aside0.mk A20
 clear A20
 by_cases c3 : t271 = true
 ·subst c3
  have H1 : (if (l0.length : Int) < 2 then (some (0, ([] : List Int), false)) else ((spec_lsFirst.f k l0).bind fun t272 => (some ((l0.length : Int), t272, true)))) = some (r1, r2, r3) := by rw [if_pos rfl] at H; exact H
  clear H
  have H := H1
  clear H1
  by_cases c4 : (l0.length : Int) < 2
  ·rw [if_pos c4] at H
   have c4b0 : decide ((l0.length : Int) < 2) = true := decide_eq_true c4
   have c4b1 : decide (l0.length < 2) = true := decide_eq_true zq60
   clear c4
   simp only [Option.some.injEq, Prod.mk.injEq] at H
   obtain ⟨rfl, rfl, rfl⟩ := H
   go_enter Try.func27, Try.ntmps27
   go_wp2_with (first | ((with_reducible refine gate_dst (N := 2) rfl ?_); (try (refine gate_guard (by rfl) ?_; dsimp only)); refine box_event ?hg (N := 2) ?hd (cs := #[.int .i64 0, .slice none 0 0]) (t := 40) ?hr ?_; (case hd => rfl); (case hg => rfl); (case hr => exact zq16); intro gb270 hg w5 hbox hb; have BK270 := Aside0.mk (hbox); have GW270 := Aside0.mk ((by rw [hg]; exact (below_size (pBq3 HB)) : w.heap.size ≤ gb270)); have GE270 := Aside0.mk ((by rw [hg]; exact (below_size (pBq3 HB)) : w.heap.size ≤ gb270)); replace HB := Aside0.mk (below_step (pBq3 HB) hb); clear hb hbox hg) | ((with_reducible refine gate_callee (f := 71) rfl ?_); refine goesL_ (some 5) rfl rfl Try.func71 zq17 rfl #[.slice A0 l0.length c0] rfl zq0 ?_; (with_reducible refine (spec_laOrder.calls k _ _ l0 true _ ?side1 ?side2 A2.out).mono ?_); (case side1 => exact zq24); (case side2 => exact HC0.out); rintro e w' ⟨rfl, ⟨nd, rfl⟩⟩; refine ⟨_, rfl, ?_⟩; (try (rw [drewN_self w5]; generalize hq_ : World.drewN w5 _ = w5; have n0_ : Aside0 (w5.heap[gb270]? = some (.cells #[.int .i64 0, .slice none 0 0] 40 (0, 0))) := ⟨by rw [← hq_]; exact (pKq3 BK270)⟩; have n1_ : Aside0 (Below w.heap.size w w5) := ⟨by rw [← hq_]; exact (pBq3 HB)⟩; clear BK270 HB hq_; have BK270 := n0_; have HB := n1_; clear n0_ n1_)); have hcz6_0 : w5.cell? ⟨gb270, 0, none⟩ = some (.int .i64 0) := (blk_cell BK270.out 0).trans rfl; have hcz6_1 : w5.cell? ⟨gb270, 1, none⟩ = some (.slice none 0 0) := (blk_cell BK270.out 1).trans rfl; have hfz6_0 := blk_frozen BK270.out 0; have hfz6_1 := blk_frozen BK270.out 1))
   refine bodyPost_ret (results_ct rfl _ _ gb270 40 #[.int .i64 0, .slice none 0 0] (0, 0) _ rfl zq45 Try.underlying40 rfl zq17) rfl ?_
   exact ⟨_, zq3, zq15, zq58⟩
  ·rw [if_neg c4] at H
   have c4b0 : decide ((l0.length : Int) < 2) = false := decide_eq_false c4
   have c4b1 : decide (l0.length < 2) = false := decide_eq_false zq60
   clear c4
   replace H := Option.bind_eq_some_iff.mp H
   obtain ⟨t272, A70, H⟩ := H
   replace H : (some ((l0.length : Int), t272, true)) = some (r1, r2, r3) := H
   have A7 := Aside0.mk A70
   clear A70
   simp only [Option.some.injEq, Prod.mk.injEq] at H
   obtain ⟨rfl, rfl, rfl⟩ := H
   go_enter Try.func27, Try.ntmps27
   go_wp2_with (first | ((with_reducible refine gate_dst (N := 2) rfl ?_); (try (refine gate_guard (by rfl) ?_; dsimp only)); refine box_event ?hg (N := 2) ?hd (cs := #[.int .i64 0, .slice none 0 0]) (t := 40) ?hr ?_; (case hd => rfl); (case hg => rfl); (case hr => exact zq16); intro gb270 hg w8 hbox hb; have BK270 := Aside0.mk (hbox); have GW270 := Aside0.mk ((by rw [hg]; exact (below_size (pBq3 HB)) : w.heap.size ≤ gb270)); have GE270 := Aside0.mk ((by rw [hg]; exact (below_size (pBq3 HB)) : w.heap.size ≤ gb270)); replace HB := Aside0.mk (below_step (pBq3 HB) hb); clear hb hbox hg) | ((with_reducible refine gate_callee (f := 71) rfl ?_); refine goesL_ (some 5) rfl rfl Try.func71 zq17 rfl #[.slice A0 l0.length c0] rfl zq0 ?_; (with_reducible refine (spec_laOrder.calls k _ _ l0 true _ ?side1 ?side2 A2.out).mono ?_); (case side1 => exact zq24); (case side2 => exact HC0.out); rintro e w' ⟨rfl, ⟨nd, rfl⟩⟩; refine ⟨_, rfl, ?_⟩; (try (rw [drewN_self w8]; generalize hq_ : World.drewN w8 _ = w8; have n0_ : Aside0 (w8.heap[gb270]? = some (.cells #[.int .i64 0, .slice none 0 0] 40 (0, 0))) := ⟨by rw [← hq_]; exact (pKq3 BK270)⟩; have n1_ : Aside0 (Below w.heap.size w w8) := ⟨by rw [← hq_]; exact (pBq3 HB)⟩; clear BK270 HB hq_; have BK270 := n0_; have HB := n1_; clear n0_ n1_))) | ((with_reducible refine gate_callee (f := 83) rfl ?_); refine goesL_ (some 16) rfl rfl Try.func83 zq17 rfl #[.slice A0 l0.length c0] rfl zq0 ?_; (with_reducible refine (spec_lsFirst.calls k _ _ l0 t272 _ ?side1 ?side2 A7.out).mono ?_); (case side1 => exact zq24); (case side2 => exact HC0.out); rintro e w9 ⟨v273, rfl, ho0, hb⟩; refine ⟨_, rfl, ?_⟩; have HO274 := Aside0.mk (Kd.R_lower ho0 (below_size (pBq3 HB))); replace BK270 := Aside0.mk (blk_below (pKq3 BK270) hb); replace HB := Aside0.mk (below_step (pBq3 HB) hb); (try clear hb); (try clear ho0); obtain ⟨Ao10, co10, eo10⟩ := Kd.R_slice HO274.out; subst eo10; have hcz11_0 : w9.cell? ⟨gb270, 0, none⟩ = some (.int .i64 0) := (blk_cell BK270.out 0).trans rfl; have hcz11_1 : w9.cell? ⟨gb270, 1, none⟩ = some (.slice none 0 0) := (blk_cell BK270.out 1).trans rfl; have hfz11_0 := blk_frozen BK270.out 0; have hfz11_1 := blk_frozen BK270.out 1))
   refine bodyPost_ret (results_ct rfl _ _ gb270 40 #[.int .i64 (l0.length : Int), .slice Ao10 t272.length co10] (0, 0) _ rfl (by (with_reducible repeat (first | refine blk_drewN ?_ _ | refine blk_drew ?_ | refine blk_alloc ?_ _)); refine blk_put (cs := #[.int .i64 (l0.length : Int), .slice none 0 0]) ?_ 1 _ rfl; (with_reducible repeat (first | refine blk_drewN ?_ _ | refine blk_drew ?_ | refine blk_alloc ?_ _)); refine blk_put (cs := #[.int .i64 0, .slice none 0 0]) ?_ 0 _ rfl; (with_reducible repeat (first | refine blk_drewN ?_ _ | refine blk_drew ?_ | refine blk_alloc ?_ _)); exact BK270.out) Try.underlying40 rfl zq17) rfl ?_
   exact ⟨_, zq3, by (with_reducible repeat (first | apply Kd.R_alloc | apply Kd.R_drewN | apply Kd.R_drew)); exact Kd.R_mono (Kd.R_far (p := ⟨gb270, 1, none⟩) (Kd.R_far (p := ⟨gb270, 0, none⟩) (Kd.R_types HO274.out BK270.out zq35) (fun _ hk => hk.2) (.int .i64 (l0.length : Int))) (fun _ hk => hk.2) (.slice Ao10 t272.length co10)) (fun _ hk => trivial), zq58⟩
 ·replace c3 := Bool.eq_false_iff.mpr c3
  subst c3
  have H1 : (some (0, ([] : List Int), false)) = some (r1, r2, r3) := by rw [if_neg (show ¬ (false = true) by decide)] at H; exact H
  clear H
  have H := H1
  clear H1
  simp only [Option.some.injEq, Prod.mk.injEq] at H
  obtain ⟨rfl, rfl, rfl⟩ := H
  go_enter Try.func27, Try.ntmps27
  go_wp2_with (first | ((with_reducible refine gate_dst (N := 2) rfl ?_); (try (refine gate_guard (by rfl) ?_; dsimp only)); refine box_event ?hg (N := 2) ?hd (cs := #[.int .i64 0, .slice none 0 0]) (t := 40) ?hr ?_; (case hd => rfl); (case hg => rfl); (case hr => exact zq16); intro gb270 hg w12 hbox hb; have BK270 := Aside0.mk (hbox); have GW270 := Aside0.mk ((by rw [hg]; exact (below_size (pBq3 HB)) : w.heap.size ≤ gb270)); have GE270 := Aside0.mk ((by rw [hg]; exact (below_size (pBq3 HB)) : w.heap.size ≤ gb270)); replace HB := Aside0.mk (below_step (pBq3 HB) hb); clear hb hbox hg) | ((with_reducible refine gate_callee (f := 71) rfl ?_); refine goesL_ (some 5) rfl rfl Try.func71 zq17 rfl #[.slice A0 l0.length c0] rfl zq0 ?_; (with_reducible refine (spec_laOrder.calls k _ _ l0 false _ ?side1 ?side2 A2.out).mono ?_); (case side1 => exact zq24); (case side2 => exact HC0.out); rintro e w' ⟨rfl, ⟨nd, rfl⟩⟩; refine ⟨_, rfl, ?_⟩; (try (rw [drewN_self w12]; generalize hq_ : World.drewN w12 _ = w12; have n0_ : Aside0 (w12.heap[gb270]? = some (.cells #[.int .i64 0, .slice none 0 0] 40 (0, 0))) := ⟨by rw [← hq_]; exact (pKq3 BK270)⟩; have n1_ : Aside0 (Below w.heap.size w w12) := ⟨by rw [← hq_]; exact (pBq3 HB)⟩; clear BK270 HB hq_; have BK270 := n0_; have HB := n1_; clear n0_ n1_)); have hcz13_0 : w12.cell? ⟨gb270, 0, none⟩ = some (.int .i64 0) := (blk_cell BK270.out 0).trans rfl; have hcz13_1 : w12.cell? ⟨gb270, 1, none⟩ = some (.slice none 0 0) := (blk_cell BK270.out 1).trans rfl; have hfz13_0 := blk_frozen BK270.out 0; have hfz13_1 := blk_frozen BK270.out 1))
  refine bodyPost_ret (results_ct rfl _ _ gb270 40 #[.int .i64 0, .slice none 0 0] (0, 0) _ rfl zq45 Try.underlying40 rfl zq17) rfl ?_
  exact ⟨_, zq3, zq15, zq58⟩
/-! ### spec_lsInversions: function 84 -/
mutual
def spec_lsInversions.l0 : Nat → List Int → List (List Int) → Int → Int → Option ((List (List Int)))
 | 0, _, _, _, _ => none
 | k + 1, x0, x3, x7, x8 => if x8 < x7 then (spec_lsInversions.l1 k x0 x3 x8 (wrap64 (x8 + 1)) x7 x8) else (some x3)
def spec_lsInversions.l1 : Nat → List Int → List (List Int) → Int → Int → Int → Int → Option ((List (List Int)))
 | 0, _, _, _, _, _, _ => none
 | k + 1, x0, x3, x4, x5, x7, x8 => if x5 < (x0.length : Int) then (if 0 ≤ x4 then (if x4 < (x0.length : Int) then (if 0 ≤ x5 then (if (rd x0 x4) > (rd x0 x5) then (if x3.length < 5864062014805 then (spec_lsInversions.l1 k x0 (x3 ++ [(([x4, x5] : List Int))]) x4 (wrap64 (x5 + 1)) x7 x8) else (none)) else (spec_lsInversions.l1 k x0 x3 x4 (wrap64 (x5 + 1)) x7 x8)) else (none)) else (none)) else (none)) else (spec_lsInversions.l0 k x0 x3 x7 (wrap64 (x8 + 1)))
end
def spec_lsInversions.f (k : Nat) (l0 : List Int) : Option ((List (List Int))) := spec_lsInversions.l0 k l0 ([] : List (List Int)) (l0.length : Int) 0
theorem spec_lsInversions.mono_l : ∀ k, (∀ y0 y1 y2 y3, LeO (spec_lsInversions.l0 k y0 y1 y2 y3) (spec_lsInversions.l0 (k + 1) y0 y1 y2 y3)) ∧ (∀ y0 y1 y2 y3 y4 y5, LeO (spec_lsInversions.l1 k y0 y1 y2 y3 y4 y5) (spec_lsInversions.l1 (k + 1) y0 y1 y2 y3 y4 y5))
 | 0 => ⟨fun _ _ _ _ r h => by simp [spec_lsInversions.l0] at h, fun _ _ _ _ _ _ r h => by simp [spec_lsInversions.l1] at h⟩
 | k + 1 => by
  obtain ⟨ih0, ih1⟩ := spec_lsInversions.mono_l k
  refine ⟨?_, ?_⟩
  ·intro y0 y1 y2 y3
   unfold spec_lsInversions.l0
   repeat' first | (with_reducible first | exact ih0 _ _ _ _ | exact ih1 _ _ _ _ _ _ | exact LeO.refl _ | exact LeO.none _ | refine LeO.ite ?_ ?_ | refine LeO.bind ?_ (fun _ => ?_))
  ·intro y0 y1 y2 y3 y4 y5
   unfold spec_lsInversions.l1
   repeat' first | (with_reducible first | exact ih0 _ _ _ _ | exact ih1 _ _ _ _ _ _ | exact LeO.refl _ | exact LeO.none _ | refine LeO.ite ?_ ?_ | refine LeO.bind ?_ (fun _ => ?_))
theorem spec_lsInversions.mono : ∀ a0 k, LeO (spec_lsInversions.f k a0) (spec_lsInversions.f (k + 1) a0) := by
 intro a0 k
 obtain ⟨ih0, ih1⟩ := spec_lsInversions.mono_l k
 unfold spec_lsInversions.f
 repeat' first | (with_reducible first | exact ih0 _ _ _ _ | exact ih1 _ _ _ _ _ _ | exact LeO.refl _ | exact LeO.none _ | refine LeO.ite ?_ ?_ | refine LeO.bind ?_ (fun _ => ?_))
set_option maxHeartbeats 8000000 in
set_option maxRecDepth 100000 in
theorem spec_lsInversions.calls (k : Nat) (A0 : Option Addr) (c0 : Nat) (l0 : List Int) (r : List (List Int)) (w : World) (hr0 : Kd.C (Kd.int .i64) w A0 l0.length l0) (hc0 : l0.length ≤ c0) (h : spec_lsInversions.f k l0 = some r) :
  Calls Try.prog 84 #[.slice A0 l0.length c0] w fun e w' => ∃ v0_ : Value, e = .returned (v0_) ∧ Kd.S (Kd.slice 3 (Kd.int .i64)) 24 w' w.heap.size (fun _ => True) v0_ r ∧ Below w.heap.size w w' := by
 have HR0 := Aside0.mk hr0
 have HC0 := Aside0.mk hc0
 clear hr0 hc0
 have HB := Aside0.mk (Below.refl w.heap.size w)
 have H : (spec_lsInversions.l0 k l0 ([] : List (List Int)) (l0.length : Int) 0) = some r := h
 clear h
 have H' := Aside0.mk H
 clear H
 go_enter Try.func84, Try.ntmps84
 go_wp2
 repeat (go_quiet (fail); try go_wp2)
 go_loopg [3, 8] k (fun kq v3 v8 w' => ∃ (x3_1 : List (List Int)) (x8_1 : Int), v8 = .int .i64 x8_1 ∧ Aside0 (spec_lsInversions.l0 kq l0 x3_1 (l0.length : Int) x8_1 = some r) ∧ Aside0 (kq ≤ k) ∧ Aside0 (Kd.S (Kd.slice 3 (Kd.int .i64)) 24 w' w.heap.size (fun _ => True) v3 x3_1) ∧ Aside0 (Below w.heap.size w w'))
 case atStart => exact ⟨(([] : List (List Int))), (0), zq8, H', ⟨Nat.le_refl _⟩, ⟨zq68⟩, ⟨zq5⟩⟩
 case round =>
  clear H'
  obtain ⟨x3_1, x8_1, rfl, HA, HK1, HO_3, HB⟩ := hrel
  cases gk with
  | zero => exact absurd HA.out (by simp [spec_lsInversions.l0])
  | succ k1 =>
   have H := HA.out
   clear HA
   simp only [spec_lsInversions.l0] at H
   by_cases c2 : x8_1 < (l0.length : Int)
   ·rw [if_pos c2] at H
    have c2b0 : decide (x8_1 < (l0.length : Int)) = true := decide_eq_true c2
    clear c2
    have H' := Aside0.mk H
    clear H
    go_wp2
    repeat (go_quiet (fail); try go_wp2)
    go_loopg [3, 5] k1 (fun kq v3 v5 w' => ∃ (x3_2 : List (List Int)) (x5_2 : Int), v5 = .int .i64 x5_2 ∧ Aside0 (spec_lsInversions.l1 kq l0 x3_2 x8_1 x5_2 (l0.length : Int) x8_1 = some r) ∧ Aside0 (kq ≤ k1) ∧ Aside0 (Kd.S (Kd.slice 3 (Kd.int .i64)) 24 w' w.heap.size (fun _ => True) v3 x3_2) ∧ Aside0 (Below w.heap.size w w'))
    case atStart => exact ⟨(x3_1), (wrap64 (x8_1 + 1)), zq8, H', ⟨Nat.le_refl _⟩, ⟨zq22⟩, ⟨zq5⟩⟩
    case round =>
     clear H'
     try clear c2
     try clear c2b0
     try clear p2
     obtain ⟨x3_2, x5_2, rfl, HA, HK2, HO_3, HB⟩ := hrel
     cases gk with
     | zero => exact absurd HA.out (by simp [spec_lsInversions.l1])
     | succ k2 =>
      have H := HA.out
      clear HA
      simp only [spec_lsInversions.l1] at H
      by_cases c3 : x5_2 < (l0.length : Int)
      ·rw [if_pos c3] at H
       have c3b0 : decide (x5_2 < (l0.length : Int)) = true := decide_eq_true c3
       clear c3
       by_cases c4 : 0 ≤ x8_1
       ·rw [if_pos c4] at H
        have c4b0 : decide (0 ≤ x8_1) = true := decide_eq_true c4
        clear c4
        by_cases c5 : x8_1 < (l0.length : Int)
        ·rw [if_pos c5] at H
         have c5b0 : decide (x8_1 < (l0.length : Int)) = true := decide_eq_true c5
         clear c5
         by_cases c6 : 0 ≤ x5_2
         ·rw [if_pos c6] at H
          have c6b0 : decide (0 ≤ x5_2) = true := decide_eq_true c6
          clear c6
          by_cases c7 : (rd l0 x8_1) > (rd l0 x5_2)
          ·rw [if_pos c7] at H
           have c7b0 : decide ((rd l0 x5_2) < (rd l0 x8_1)) = true := decide_eq_true c7
           clear c7
           obtain ⟨y277, hy277⟩ : ∃ y_ : List Int, y_ = (([x8_1, x5_2] : List Int)) := ⟨_, rfl⟩
           replace H : (if x3_2.length < 5864062014805 then (spec_lsInversions.l1 k2 l0 (x3_2 ++ [y277]) x8_1 (wrap64 (x5_2 + 1)) (l0.length : Int) x8_1) else (none)) = some r := by first | (rw [hy277]; with_reducible exact H) | (have H2_ := (Option.bind_some _ _).symm.trans H; rw [hy277]; with_reducible exact H2_) | (have H2_ := (Option.bind_some _ _).symm.trans H; with_reducible exact H2_) | with_reducible exact H | (rw [hy277]; exact H) | exact H
           have Ny277 := Aside0.mk hy277
           clear hy277
           by_cases c8 : x3_2.length < 5864062014805
           ·rw [if_pos c8] at H
            have LMc8 := Aside0.mk c8
            clear c8
            obtain ⟨y280, hy280⟩ : ∃ y_ : List (List Int), y_ = (x3_2 ++ [y277]) := ⟨_, rfl⟩
            replace H : (spec_lsInversions.l1 k2 l0 y280 x8_1 (wrap64 (x5_2 + 1)) (l0.length : Int) x8_1) = some r := by first | (rw [hy280]; with_reducible exact H) | (have H2_ := (Option.bind_some _ _).symm.trans H; rw [hy280]; with_reducible exact H2_) | (have H2_ := (Option.bind_some _ _).symm.trans H; with_reducible exact H2_) | with_reducible exact H | (rw [hy280]; exact H) | exact H
            have Ny280 := Aside0.mk hy280
            clear hy280
            have H' := Aside0.mk H
            clear H
            have p275 : 0 ≤ (x8_1 : Int) := of_decide_eq_true zq2
            have q275 : x8_1 < (l0.length : Int) := of_decide_eq_true zq2
            obtain ⟨ad275, e275, hx275_0⟩ := Kd.at_int HR0.out x8_1 p275 q275
            cases e275
            replace hx275_0 := (HB.out.cell (World.block_lt_of_cell? w _ hx275_0)).trans hx275_0
            replace p275 := eq_true p275
            replace q275 := eq_true q275
            have p276 : 0 ≤ (x5_2 : Int) := of_decide_eq_true zq2
            have q276 : x5_2 < (l0.length : Int) := of_decide_eq_true zq2
            obtain ⟨ad276, e276, hx276_0⟩ := Kd.at_int HR0.out x5_2 p276 q276
            obtain rfl : ad275 = ad276 := (by injection e276)
            replace hx276_0 := (HB.out.cell (World.block_lt_of_cell? w _ hx276_0)).trans hx276_0
            replace p276 := eq_true p276
            replace q276 := eq_true q276
            go_wp2_with (first | ((with_reducible refine gate_dst (N := 31) rfl ?_); refine Kd.R_lit (Kd.int .i64) _ 3 ?hg (N := 31) ?hd (xs := ([x8_1, x5_2] : List Int)) (inner := [.int .i64 x8_1, .int .i64 x5_2]) (ok := fun _ => True) (okp := fun _ => True) ?hr ?hp (fun _ hk => hk) trivial (Below.refl _ _) (Nat.le_refl _) zq41 ?_; (case hd => rfl); (case hg => rfl); (case hr => exact zq16); (case hp => exact zq63); intro v278 w9 ho10 hb hg_ hnew_; clear hg_ hnew_; (first | rw [← Ny277.out] at ho10 | (simp only [Int.reduceToNat] at ho10; rw [← Ny277.out] at ho10)); have HO279 := Aside0.mk (Kd.R_lower ho10 (below_size (pBq3 HB))); replace HO_3 := Aside0.mk (Kd.S_elder' zq22 (Kd.R_base ho10) hb); replace HB := Aside0.mk (below_step (pBq3 HB) hb); clear hb ho10; obtain ⟨Ao12, co12, eo12⟩ := Kd.R_slice HO279.out; subst eo12) | ((with_reducible refine gate_builtin (b := .append) (xs := #[.tmp 28, .tmp 32]) rfl ?_); at_builtin; refine Kd.S_append (Kd.slice 3 (Kd.int .i64)) (w0 := w) w.heap.size rfl (.tmp 28) (.tmp 32) 28 24 (.slice none 0 0) 24 rfl Try.underlying28 info24 rfl zq35 zq60 u3 x3_2 y277 [.slice Ao12 y277.length co12] (fun _ => True) (fun k_ => some k_ = (.slice Ao12 y277.length co12 : Value).ownBlock) rfl rfl ?aP (fun k_ hk_ => ((Kd.R_mono (ok' := fun k_ => ((fun _ => True)) k_ ∧ some k_ ≠ (u3 : Value).ownBlock) (Kd.R_apart' (HO279.out) (Kd.S_typed HO_3.out) zq35) (fun k_ hk => ⟨trivial, hk.2⟩))).1 k_ hk_.symm) ?aF ?aO ?aB ?aS ?aL ?_; (case aP => exact zq47); (case aB => exact (pBq3 HB)); (case aF => exact zq70); (case aO => exact zq32); (case aS => exact zq96); (case aL => have := LMc8.out; omega); intro v281 w11 ho hb hg hat; rw [← Ny280.out] at ho; have HO282 := Aside0.mk (ho); replace HB := Aside0.mk (hb); clear HO_3 HO279; clear ho hb hg hat))
            repeat (go_quiet (first | ((with_reducible refine gate_dst (N := 31) rfl ?_); refine Kd.R_lit (Kd.int .i64) _ 3 ?hg (N := 31) ?hd (xs := ([x8_1, x5_2] : List Int)) (inner := [.int .i64 x8_1, .int .i64 x5_2]) (ok := fun _ => True) (okp := fun _ => True) ?hr ?hp (fun _ hk => hk) trivial (Below.refl _ _) (Nat.le_refl _) zq41 ?_; (case hd => rfl); (case hg => rfl); (case hr => exact zq16); (case hp => exact zq63); intro v278 w9 ho10 hb hg_ hnew_; clear hg_ hnew_; (first | rw [← Ny277.out] at ho10 | (simp only [Int.reduceToNat] at ho10; rw [← Ny277.out] at ho10)); have HO279 := Aside0.mk (Kd.R_lower ho10 (below_size (pBq3 HB))); replace HO_3 := Aside0.mk (Kd.S_elder' zq22 (Kd.R_base ho10) hb); replace HB := Aside0.mk (below_step (pBq3 HB) hb); clear hb ho10; obtain ⟨Ao12, co12, eo12⟩ := Kd.R_slice HO279.out; subst eo12) | ((with_reducible refine gate_builtin (b := .append) (xs := #[.tmp 28, .tmp 32]) rfl ?_); at_builtin; refine Kd.S_append (Kd.slice 3 (Kd.int .i64)) (w0 := w) w.heap.size rfl (.tmp 28) (.tmp 32) 28 24 (.slice none 0 0) 24 rfl Try.underlying28 info24 rfl zq35 zq60 u3 x3_2 y277 [.slice Ao12 y277.length co12] (fun _ => True) (fun k_ => some k_ = (.slice Ao12 y277.length co12 : Value).ownBlock) rfl rfl ?aP (fun k_ hk_ => ((Kd.R_mono (ok' := fun k_ => ((fun _ => True)) k_ ∧ some k_ ≠ (u3 : Value).ownBlock) (Kd.R_apart' (HO279.out) (Kd.S_typed HO_3.out) zq35) (fun k_ hk => ⟨trivial, hk.2⟩))).1 k_ hk_.symm) ?aF ?aO ?aB ?aS ?aL ?_; (case aP => exact zq47); (case aB => exact (pBq3 HB)); (case aF => exact zq70); (case aO => exact zq32); (case aS => exact zq96); (case aL => have := LMc8.out; omega); intro v281 w11 ho hb hg hat; rw [← Ny280.out] at ho; have HO282 := Aside0.mk (ho); replace HB := Aside0.mk (hb); clear HO_3 HO279; clear ho hb hg hat)); try go_wp2_with (first | ((with_reducible refine gate_dst (N := 31) rfl ?_); refine Kd.R_lit (Kd.int .i64) _ 3 ?hg (N := 31) ?hd (xs := ([x8_1, x5_2] : List Int)) (inner := [.int .i64 x8_1, .int .i64 x5_2]) (ok := fun _ => True) (okp := fun _ => True) ?hr ?hp (fun _ hk => hk) trivial (Below.refl _ _) (Nat.le_refl _) zq41 ?_; (case hd => rfl); (case hg => rfl); (case hr => exact zq16); (case hp => exact zq63); intro v278 w9 ho10 hb hg_ hnew_; clear hg_ hnew_; (first | rw [← Ny277.out] at ho10 | (simp only [Int.reduceToNat] at ho10; rw [← Ny277.out] at ho10)); have HO279 := Aside0.mk (Kd.R_lower ho10 (below_size (pBq3 HB))); replace HO_3 := Aside0.mk (Kd.S_elder' zq22 (Kd.R_base ho10) hb); replace HB := Aside0.mk (below_step (pBq3 HB) hb); clear hb ho10; obtain ⟨Ao12, co12, eo12⟩ := Kd.R_slice HO279.out; subst eo12) | ((with_reducible refine gate_builtin (b := .append) (xs := #[.tmp 28, .tmp 32]) rfl ?_); at_builtin; refine Kd.S_append (Kd.slice 3 (Kd.int .i64)) (w0 := w) w.heap.size rfl (.tmp 28) (.tmp 32) 28 24 (.slice none 0 0) 24 rfl Try.underlying28 info24 rfl zq35 zq60 u3 x3_2 y277 [.slice Ao12 y277.length co12] (fun _ => True) (fun k_ => some k_ = (.slice Ao12 y277.length co12 : Value).ownBlock) rfl rfl ?aP (fun k_ hk_ => ((Kd.R_mono (ok' := fun k_ => ((fun _ => True)) k_ ∧ some k_ ≠ (u3 : Value).ownBlock) (Kd.R_apart' (HO279.out) (Kd.S_typed HO_3.out) zq35) (fun k_ hk => ⟨trivial, hk.2⟩))).1 k_ hk_.symm) ?aF ?aO ?aB ?aS ?aL ?_; (case aP => exact zq47); (case aB => exact (pBq3 HB)); (case aF => exact zq70); (case aO => exact zq32); (case aS => exact zq96); (case aL => have := LMc8.out; omega); intro v281 w11 ho hb hg hat; rw [← Ny280.out] at ho; have HO282 := Aside0.mk (ho); replace HB := Aside0.mk (hb); clear HO_3 HO279; clear ho hb hg hat)))
            go_roundg k2
            case measure => have := HK1.out; have := HK2.out; omega
            case rel => exact ⟨(y280), (wrap64 (x5_2 + 1)), zq8, H', ⟨zq55⟩, ⟨by (with_reducible repeat (first | apply Kd.S_alloc | apply Kd.S_drewN | apply Kd.S_drew)); exact HO282.out⟩, ⟨zq5⟩⟩
           ·rw [if_neg c8] at H
            exact absurd H zq41
          ·rw [if_neg c7] at H
           have c7b0 : decide ((rd l0 x5_2) < (rd l0 x8_1)) = false := decide_eq_false c7
           clear c7
           have H' := Aside0.mk H
           clear H
           have p275 : 0 ≤ (x8_1 : Int) := of_decide_eq_true zq2
           have q275 : x8_1 < (l0.length : Int) := of_decide_eq_true zq2
           obtain ⟨ad275, e275, hx275_0⟩ := Kd.at_int HR0.out x8_1 p275 q275
           cases e275
           replace hx275_0 := (HB.out.cell (World.block_lt_of_cell? w _ hx275_0)).trans hx275_0
           replace p275 := eq_true p275
           replace q275 := eq_true q275
           have p276 : 0 ≤ (x5_2 : Int) := of_decide_eq_true zq2
           have q276 : x5_2 < (l0.length : Int) := of_decide_eq_true zq2
           obtain ⟨ad276, e276, hx276_0⟩ := Kd.at_int HR0.out x5_2 p276 q276
           obtain rfl : ad275 = ad276 := (by injection e276)
           replace hx276_0 := (HB.out.cell (World.block_lt_of_cell? w _ hx276_0)).trans hx276_0
           replace p276 := eq_true p276
           replace q276 := eq_true q276
           go_wp2
           repeat (go_quiet (fail); try go_wp2)
           go_roundg k2
           case measure => have := HK1.out; have := HK2.out; omega
           case rel => exact ⟨(x3_2), (wrap64 (x5_2 + 1)), zq8, H', ⟨zq55⟩, ⟨zq22⟩, ⟨zq5⟩⟩
         ·rw [if_neg c6] at H
          exact absurd H zq41
        ·rw [if_neg c5] at H
         exact absurd H zq41
       ·rw [if_neg c4] at H
        exact absurd H zq41
      ·rw [if_neg c3] at H
       have c3b0 : decide (x5_2 < (l0.length : Int)) = false := decide_eq_false c3
       clear c3
       have H' := Aside0.mk H
       clear H
       go_wp2
       repeat (go_quiet (fail); try go_wp2)
       go_roundg k2
       case measure => have := HK1.out; have := HK2.out; omega
       case rel => exact ⟨(x3_2), (wrap64 (x8_1 + 1)), zq8, H', ⟨zq55⟩, ⟨zq22⟩, ⟨zq5⟩⟩
   ·rw [if_neg c2] at H
    have c2b0 : decide (x8_1 < (l0.length : Int)) = false := decide_eq_false c2
    clear c2
    obtain rfl := Option.some.inj H
    go_wp2
    repeat (go_quiet (fail); try go_wp2)
    go_ret
    exact ⟨_, zq3, zq22, zq5⟩
/-! ### spec_InversionsOf: function 28 -/
def spec_InversionsOf.f (k : Nat) (l0 : List Int) : Option (Int × Bool) := (spec_laOrder.f k l0).bind fun t283 => (if t283 = true then ((spec_lsInversions.f k l0).bind fun t284 => (some ((t284.length : Int), true))) else (some (0, false)))
theorem spec_InversionsOf.mono : ∀ a0 k, LeO (spec_InversionsOf.f k a0) (spec_InversionsOf.f (k + 1) a0) := by
 intro a0 k
 unfold spec_InversionsOf.f
 repeat' first | (with_reducible first | exact spec_laOrder.mono _ _ | exact spec_lsInversions.mono _ _ | exact LeO.refl _ | exact LeO.none _ | refine LeO.ite ?_ ?_ | refine LeO.bind ?_ (fun _ => ?_))
set_option maxHeartbeats 8000000 in
set_option maxRecDepth 100000 in
theorem spec_InversionsOf.calls (k : Nat) (A0 : Option Addr) (c0 : Nat) (l0 : List Int) (r1 : Int) (r2 : Bool) (w : World) (hr0 : Kd.C (Kd.int .i64) w A0 l0.length l0) (hc0 : l0.length ≤ c0) (h : spec_InversionsOf.f k l0 = some (r1, r2)) :
  Calls Try.prog 28 #[.slice A0 l0.length c0] w fun e w' => e = .returned (.tuple #[.int .i64 r1, .bool r2]) ∧ Below w.heap.size w w' := by
 have HR0 := Aside0.mk hr0
 have HC0 := Aside0.mk hc0
 clear hr0 hc0
 have HB := Aside0.mk (Below.refl w.heap.size w)
 have H : ((spec_laOrder.f k l0).bind fun t283 => (if t283 = true then ((spec_lsInversions.f k l0).bind fun t284 => (some ((t284.length : Int), true))) else (some (0, false)))) = some (r1, r2) := h
 clear h
 replace H := Option.bind_eq_some_iff.mp H
 obtain ⟨t283, A20, H⟩ := H
 replace H : (if t283 = true then ((spec_lsInversions.f k l0).bind fun t284 => (some ((t284.length : Int), true))) else (some (0, false))) = some (r1, r2) := H
 have A2 := Aside0.mk A20
 clear A20
 by_cases c3 : t283 = true
 ·subst c3
  have H1 : ((spec_lsInversions.f k l0).bind fun t284 => (some ((t284.length : Int), true))) = some (r1, r2) := by rw [if_pos rfl] at H; exact H
  clear H
  have H := H1
  clear H1
  replace H := Option.bind_eq_some_iff.mp H
  obtain ⟨t284, A40, H⟩ := H
  replace H : (some ((t284.length : Int), true)) = some (r1, r2) := H
  have A4 := Aside0.mk A40
  clear A40
  simp only [Option.some.injEq, Prod.mk.injEq] at H
  obtain ⟨rfl, rfl⟩ := H
  go_enter Try.func28, Try.ntmps28
  go_wp2_with (first | ((with_reducible refine gate_callee (f := 71) rfl ?_); refine goesL_ (some 5) rfl rfl Try.func71 zq17 rfl #[.slice A0 l0.length c0] rfl zq0 ?_; (with_reducible refine (spec_laOrder.calls k _ _ l0 true _ ?side1 ?side2 A2.out).mono ?_); (case side1 => exact zq9); (case side2 => exact HC0.out); rintro e w' ⟨rfl, ⟨nd, rfl⟩⟩; refine ⟨_, rfl, ?_⟩) | ((with_reducible refine gate_callee (f := 84) rfl ?_); refine goesL_ (some 8) rfl rfl Try.func84 zq17 rfl #[.slice A0 l0.length c0] rfl zq0 ?_; (with_reducible refine (spec_lsInversions.calls k _ _ l0 t284 _ ?side1 ?side2 A4.out).mono ?_); (case side1 => exact zq9); (case side2 => exact HC0.out); rintro e w5 ⟨v285, rfl, ho0, hb⟩; refine ⟨_, rfl, ?_⟩; have HO286 := Aside0.mk (Kd.S_lower ho0 (below_size (pBq3 HB))); replace HB := Aside0.mk (below_step (pBq3 HB) hb); (try clear hb); (try clear ho0); obtain ⟨Ao6, co6, eo6⟩ := Kd.S_slice HO286.out; subst eo6))
  go_ret2
  exact ⟨zq3, zq5⟩
 ·replace c3 := Bool.eq_false_iff.mpr c3
  subst c3
  have H1 : (some (0, false)) = some (r1, r2) := by rw [if_neg (show ¬ (false = true) by decide)] at H; exact H
  clear H
  have H := H1
  clear H1
  simp only [Option.some.injEq, Prod.mk.injEq] at H
  obtain ⟨rfl, rfl⟩ := H
  go_enter Try.func28, Try.ntmps28
  go_wp2_with (first | ((with_reducible refine gate_callee (f := 71) rfl ?_); refine goesL_ (some 5) rfl rfl Try.func71 zq17 rfl #[.slice A0 l0.length c0] rfl zq0 ?_; (with_reducible refine (spec_laOrder.calls k _ _ l0 false _ ?side1 ?side2 A2.out).mono ?_); (case side1 => exact zq9); (case side2 => exact HC0.out); rintro e w' ⟨rfl, ⟨nd, rfl⟩⟩; refine ⟨_, rfl, ?_⟩))
  go_ret2
  exact ⟨zq3, zq5⟩
/-! ### impl_InvertedPairs: function 29 -/
def impl_InvertedPairs.f (k : Nat) (l0 : List Int) : Option ((List (List Int)) × Bool) := (impl_isOrder.f k l0).bind fun t287 => (if t287 = true then ((impl_inverted.f k l0).bind fun t288 => (some (t288, true))) else (some (([] : List (List Int)), false)))
theorem impl_InvertedPairs.mono : ∀ a0 k, LeO (impl_InvertedPairs.f k a0) (impl_InvertedPairs.f (k + 1) a0) := by
 intro a0 k
 unfold impl_InvertedPairs.f
 repeat' first | (with_reducible first | exact impl_inverted.mono _ _ | exact impl_isOrder.mono _ _ | exact LeO.refl _ | exact LeO.none _ | refine LeO.ite ?_ ?_ | refine LeO.bind ?_ (fun _ => ?_))
set_option maxHeartbeats 8000000 in
set_option maxRecDepth 100000 in
theorem impl_InvertedPairs.calls (k : Nat) (A0 : Option Addr) (c0 : Nat) (l0 : List Int) (r1 : List (List Int)) (r2 : Bool) (w : World) (hr0 : Kd.C (Kd.int .i64) w A0 l0.length l0) (hc0 : l0.length ≤ c0) (h : impl_InvertedPairs.f k l0 = some (r1, r2)) :
  Calls Try.prog 29 #[.slice A0 l0.length c0] w fun e w' => ∃ v0_ : Value, e = .returned (.tuple #[v0_, .bool r2]) ∧ Kd.S (Kd.slice 3 (Kd.int .i64)) 24 w' w.heap.size (fun _ => True) v0_ r1 ∧ Below w.heap.size w w' := by
 have HR0 := Aside0.mk hr0
 have HC0 := Aside0.mk hc0
 clear hr0 hc0
 have HB := Aside0.mk (Below.refl w.heap.size w)
 have H : ((impl_isOrder.f k l0).bind fun t287 => (if t287 = true then ((impl_inverted.f k l0).bind fun t288 => (some (t288, true))) else (some (([] : List (List Int)), false)))) = some (r1, r2) := h
 clear h
 replace H := Option.bind_eq_some_iff.mp H
 obtain ⟨t287, A20, H⟩ := H
 replace H : (if t287 = true then ((impl_inverted.f k l0).bind fun t288 => (some (t288, true))) else (some (([] : List (List Int)), false))) = some (r1, r2) := H
 have A2 := Aside0.mk A20
 clear A20
 by_cases c3 : t287 = true
 ·subst c3
  have H1 : ((impl_inverted.f k l0).bind fun t288 => (some (t288, true))) = some (r1, r2) := by rw [if_pos rfl] at H; exact H
  clear H
  have H := H1
  clear H1
  replace H := Option.bind_eq_some_iff.mp H
  obtain ⟨t288, A40, H⟩ := H
  replace H : (some (t288, true)) = some (r1, r2) := H
  have A4 := Aside0.mk A40
  clear A40
  simp only [Option.some.injEq, Prod.mk.injEq] at H
  obtain ⟨rfl, rfl⟩ := H
  go_enter Try.func29, Try.ntmps29
  go_wp2_with (first | ((with_reducible refine gate_callee (f := 67) rfl ?_); refine goesL_ (some 5) rfl rfl Try.func67 zq17 rfl #[.slice A0 l0.length c0] rfl zq0 ?_; (with_reducible refine (impl_isOrder.calls k _ _ l0 true _ ?side1 ?side2 A2.out).mono ?_); (case side1 => exact zq9); (case side2 => exact HC0.out); rintro e w' ⟨rfl, ⟨nd, rfl⟩⟩; refine ⟨_, rfl, ?_⟩) | ((with_reducible refine gate_callee (f := 85) rfl ?_); refine goesL_ (some 8) rfl rfl Try.func85 zq17 rfl #[.slice A0 l0.length c0] rfl zq0 ?_; (with_reducible refine (impl_inverted.calls k _ _ l0 t288 _ ?side1 ?side2 A4.out).mono ?_); (case side1 => exact zq9); (case side2 => exact HC0.out); rintro e w5 ⟨v289, rfl, ho0, hb⟩; refine ⟨_, rfl, ?_⟩; have HO290 := Aside0.mk (Kd.S_lower ho0 (below_size (pBq3 HB))); replace HB := Aside0.mk (below_step (pBq3 HB) hb); (try clear hb); (try clear ho0)))
  go_ret2
  exact ⟨_, zq3, by (with_reducible repeat (first | apply Kd.S_alloc | apply Kd.S_drewN | apply Kd.S_drew)); exact HO290.out, zq5⟩
 ·replace c3 := Bool.eq_false_iff.mpr c3
  subst c3
  have H1 : (some (([] : List (List Int)), false)) = some (r1, r2) := by rw [if_neg (show ¬ (false = true) by decide)] at H; exact H
  clear H
  have H := H1
  clear H1
  simp only [Option.some.injEq, Prod.mk.injEq] at H
  obtain ⟨rfl, rfl⟩ := H
  go_enter Try.func29, Try.ntmps29
  go_wp2_with (first | ((with_reducible refine gate_callee (f := 67) rfl ?_); refine goesL_ (some 5) rfl rfl Try.func67 zq17 rfl #[.slice A0 l0.length c0] rfl zq0 ?_; (with_reducible refine (impl_isOrder.calls k _ _ l0 false _ ?side1 ?side2 A2.out).mono ?_); (case side1 => exact zq9); (case side2 => exact HC0.out); rintro e w' ⟨rfl, ⟨nd, rfl⟩⟩; refine ⟨_, rfl, ?_⟩))
  go_ret2
  exact ⟨_, zq3, zq68, zq5⟩
/-! ### spec_InvertedPairs: function 30 -/
def spec_InvertedPairs.f (k : Nat) (l0 : List Int) : Option ((List (List Int)) × Bool) := (spec_laOrder.f k l0).bind fun t291 => (if t291 = true then ((spec_lsInversions.f k l0).bind fun t292 => (some (t292, true))) else (some (([] : List (List Int)), false)))
theorem spec_InvertedPairs.mono : ∀ a0 k, LeO (spec_InvertedPairs.f k a0) (spec_InvertedPairs.f (k + 1) a0) := by
 intro a0 k
 unfold spec_InvertedPairs.f
 repeat' first | (with_reducible first | exact spec_laOrder.mono _ _ | exact spec_lsInversions.mono _ _ | exact LeO.refl _ | exact LeO.none _ | refine LeO.ite ?_ ?_ | refine LeO.bind ?_ (fun _ => ?_))
set_option maxHeartbeats 8000000 in
set_option maxRecDepth 100000 in
theorem spec_InvertedPairs.calls (k : Nat) (A0 : Option Addr) (c0 : Nat) (l0 : List Int) (r1 : List (List Int)) (r2 : Bool) (w : World) (hr0 : Kd.C (Kd.int .i64) w A0 l0.length l0) (hc0 : l0.length ≤ c0) (h : spec_InvertedPairs.f k l0 = some (r1, r2)) :
  Calls Try.prog 30 #[.slice A0 l0.length c0] w fun e w' => ∃ v0_ : Value, e = .returned (.tuple #[v0_, .bool r2]) ∧ Kd.S (Kd.slice 3 (Kd.int .i64)) 24 w' w.heap.size (fun _ => True) v0_ r1 ∧ Below w.heap.size w w' := by
 have HR0 := Aside0.mk hr0
 have HC0 := Aside0.mk hc0
 clear hr0 hc0
 have HB := Aside0.mk (Below.refl w.heap.size w)
 have H : ((spec_laOrder.f k l0).bind fun t291 => (if t291 = true then ((spec_lsInversions.f k l0).bind fun t292 => (some (t292, true))) else (some (([] : List (List Int)), false)))) = some (r1, r2) := h
 clear h
 replace H := Option.bind_eq_some_iff.mp H
 obtain ⟨t291, A20, H⟩ := H
 replace H : (if t291 = true then ((spec_lsInversions.f k l0).bind fun t292 => (some (t292, true))) else (some (([] : List (List Int)), false))) = some (r1, r2) := H
 have A2 := Aside0.mk A20
 clear A20
 by_cases c3 : t291 = true
 ·subst c3
  have H1 : ((spec_lsInversions.f k l0).bind fun t292 => (some (t292, true))) = some (r1, r2) := by rw [if_pos rfl] at H; exact H
  clear H
  have H := H1
  clear H1
  replace H := Option.bind_eq_some_iff.mp H
  obtain ⟨t292, A40, H⟩ := H
  replace H : (some (t292, true)) = some (r1, r2) := H
  have A4 := Aside0.mk A40
  clear A40
  simp only [Option.some.injEq, Prod.mk.injEq] at H
  obtain ⟨rfl, rfl⟩ := H
  go_enter Try.func30, Try.ntmps30
  go_wp2_with (first | ((with_reducible refine gate_callee (f := 71) rfl ?_); refine goesL_ (some 5) rfl rfl Try.func71 zq17 rfl #[.slice A0 l0.length c0] rfl zq0 ?_; (with_reducible refine (spec_laOrder.calls k _ _ l0 true _ ?side1 ?side2 A2.out).mono ?_); (case side1 => exact zq9); (case side2 => exact HC0.out); rintro e w' ⟨rfl, ⟨nd, rfl⟩⟩; refine ⟨_, rfl, ?_⟩) | ((with_reducible refine gate_callee (f := 84) rfl ?_); refine goesL_ (some 8) rfl rfl Try.func84 zq17 rfl #[.slice A0 l0.length c0] rfl zq0 ?_; (with_reducible refine (spec_lsInversions.calls k _ _ l0 t292 _ ?side1 ?side2 A4.out).mono ?_); (case side1 => exact zq9); (case side2 => exact HC0.out); rintro e w5 ⟨v293, rfl, ho0, hb⟩; refine ⟨_, rfl, ?_⟩; have HO294 := Aside0.mk (Kd.S_lower ho0 (below_size (pBq3 HB))); replace HB := Aside0.mk (below_step (pBq3 HB) hb); (try clear hb); (try clear ho0)))
  go_ret2
  exact ⟨_, zq3, by (with_reducible repeat (first | apply Kd.S_alloc | apply Kd.S_drewN | apply Kd.S_drew)); exact HO294.out, zq5⟩
 ·replace c3 := Bool.eq_false_iff.mpr c3
  subst c3
  have H1 : (some (([] : List (List Int)), false)) = some (r1, r2) := by rw [if_neg (show ¬ (false = true) by decide)] at H; exact H
  clear H
  have H := H1
  clear H1
  simp only [Option.some.injEq, Prod.mk.injEq] at H
  obtain ⟨rfl, rfl⟩ := H
  go_enter Try.func30, Try.ntmps30
  go_wp2_with (first | ((with_reducible refine gate_callee (f := 71) rfl ?_); refine goesL_ (some 5) rfl rfl Try.func71 zq17 rfl #[.slice A0 l0.length c0] rfl zq0 ?_; (with_reducible refine (spec_laOrder.calls k _ _ l0 false _ ?side1 ?side2 A2.out).mono ?_); (case side1 => exact zq9); (case side2 => exact HC0.out); rintro e w' ⟨rfl, ⟨nd, rfl⟩⟩; refine ⟨_, rfl, ?_⟩))
  go_ret2
  exact ⟨_, zq3, zq68, zq5⟩
/-! ### impl_DescentsOf: function 31 -/
def impl_DescentsOf.f (k : Nat) (l0 : List Int) : Option (List Int × Bool) := (impl_isOrder.f k l0).bind fun t295 => (if t295 = true then ((impl_descents.f k l0).bind fun t296 => (some (t296, true))) else (some (([] : List Int), false)))
theorem impl_DescentsOf.mono : ∀ a0 k, LeO (impl_DescentsOf.f k a0) (impl_DescentsOf.f (k + 1) a0) := by
 intro a0 k
 unfold impl_DescentsOf.f
 repeat' first | (with_reducible first | exact impl_descents.mono _ _ | exact impl_isOrder.mono _ _ | exact LeO.refl _ | exact LeO.none _ | refine LeO.ite ?_ ?_ | refine LeO.bind ?_ (fun _ => ?_))
set_option maxHeartbeats 8000000 in
set_option maxRecDepth 100000 in
theorem impl_DescentsOf.calls (k : Nat) (A0 : Option Addr) (c0 : Nat) (l0 : List Int) (r1 : List Int) (r2 : Bool) (w : World) (hr0 : Kd.C (Kd.int .i64) w A0 l0.length l0) (hc0 : l0.length ≤ c0) (h : impl_DescentsOf.f k l0 = some (r1, r2)) :
  Calls Try.prog 31 #[.slice A0 l0.length c0] w fun e w' => ∃ v0_ : Value, e = .returned (.tuple #[v0_, .bool r2]) ∧ Kd.R (Kd.int .i64) 3 w' w.heap.size (fun _ => True) v0_ r1 ∧ Below w.heap.size w w' := by
 have HR0 := Aside0.mk hr0
 have HC0 := Aside0.mk hc0
 clear hr0 hc0
 have HB := Aside0.mk (Below.refl w.heap.size w)
 have H : ((impl_isOrder.f k l0).bind fun t295 => (if t295 = true then ((impl_descents.f k l0).bind fun t296 => (some (t296, true))) else (some (([] : List Int), false)))) = some (r1, r2) := h
 clear h
 replace H := Option.bind_eq_some_iff.mp H
 obtain ⟨t295, A20, H⟩ := H
 replace H : (if t295 = true then ((impl_descents.f k l0).bind fun t296 => (some (t296, true))) else (some (([] : List Int), false))) = some (r1, r2) := H
 have A2 := Aside0.mk A20
 clear A20
 by_cases c3 : t295 = true
 ·subst c3
  have H1 : ((impl_descents.f k l0).bind fun t296 => (some (t296, true))) = some (r1, r2) := by rw [if_pos rfl] at H; exact H
  clear H
  have H := H1
  clear H1
  replace H := Option.bind_eq_some_iff.mp H
  obtain ⟨t296, A40, H⟩ := H
  replace H : (some (t296, true)) = some (r1, r2) := H
  have A4 := Aside0.mk A40
  clear A40
  simp only [Option.some.injEq, Prod.mk.injEq] at H
  obtain ⟨rfl, rfl⟩ := H
  go_enter Try.func31, Try.ntmps31
  go_wp2_with (first | ((with_reducible refine gate_callee (f := 67) rfl ?_); refine goesL_ (some 5) rfl rfl Try.func67 zq17 rfl #[.slice A0 l0.length c0] rfl zq0 ?_; (with_reducible refine (impl_isOrder.calls k _ _ l0 true _ ?side1 ?side2 A2.out).mono ?_); (case side1 => exact zq9); (case side2 => exact HC0.out); rintro e w' ⟨rfl, ⟨nd, rfl⟩⟩; refine ⟨_, rfl, ?_⟩) | ((with_reducible refine gate_callee (f := 86) rfl ?_); refine goesL_ (some 8) rfl rfl Try.func86 zq17 rfl #[.slice A0 l0.length c0] rfl zq0 ?_; (with_reducible refine (impl_descents.calls k _ _ l0 t296 _ ?side1 ?side2 A4.out).mono ?_); (case side1 => exact zq9); (case side2 => exact HC0.out); rintro e w5 ⟨v297, rfl, ho0, hb⟩; refine ⟨_, rfl, ?_⟩; have HO298 := Aside0.mk (Kd.R_lower ho0 (below_size (pBq3 HB))); replace HB := Aside0.mk (below_step (pBq3 HB) hb); (try clear hb); (try clear ho0)))
  go_ret2
  exact ⟨_, zq3, by (with_reducible repeat (first | apply Kd.R_alloc | apply Kd.R_drewN | apply Kd.R_drew)); exact HO298.out, zq5⟩
 ·replace c3 := Bool.eq_false_iff.mpr c3
  subst c3
  have H1 : (some (([] : List Int), false)) = some (r1, r2) := by rw [if_neg (show ¬ (false = true) by decide)] at H; exact H
  clear H
  have H := H1
  clear H1
  simp only [Option.some.injEq, Prod.mk.injEq] at H
  obtain ⟨rfl, rfl⟩ := H
  go_enter Try.func31, Try.ntmps31
  go_wp2_with (first | ((with_reducible refine gate_callee (f := 67) rfl ?_); refine goesL_ (some 5) rfl rfl Try.func67 zq17 rfl #[.slice A0 l0.length c0] rfl zq0 ?_; (with_reducible refine (impl_isOrder.calls k _ _ l0 false _ ?side1 ?side2 A2.out).mono ?_); (case side1 => exact zq9); (case side2 => exact HC0.out); rintro e w' ⟨rfl, ⟨nd, rfl⟩⟩; refine ⟨_, rfl, ?_⟩))
  go_ret2
  exact ⟨_, zq3, zq15, zq5⟩
/-! ### spec_DescentsOf: function 32 -/
def spec_DescentsOf.l0 : Nat → List Int → List Int → Int → Option (List Int × Bool)
 | 0, _, _, _ => none
 | k + 1, x0, x4, x5 => if (wrap64 (x5 + 1)) < (x0.length : Int) then (if 0 ≤ x5 then (if x5 < (x0.length : Int) then (if 0 ≤ (wrap64 (x5 + 1)) then (if (rd x0 x5) > (rd x0 (wrap64 (x5 + 1))) then (if x4.length < 17592186044416 then (spec_DescentsOf.l0 k x0 (x4 ++ [x5]) (wrap64 (x5 + 1))) else (none)) else (spec_DescentsOf.l0 k x0 x4 (wrap64 (x5 + 1)))) else (none)) else (none)) else (none)) else (some (x4, true))
def spec_DescentsOf.f (k : Nat) (l0 : List Int) : Option (List Int × Bool) := (spec_laOrder.f k l0).bind fun t299 => (if t299 = true then (spec_DescentsOf.l0 k l0 ([] : List Int) 0) else (some (([] : List Int), false)))
theorem spec_DescentsOf.mono_l : ∀ k, (∀ y0 y1 y2, LeO (spec_DescentsOf.l0 k y0 y1 y2) (spec_DescentsOf.l0 (k + 1) y0 y1 y2))
 | 0 => fun _ _ _ r h => by simp [spec_DescentsOf.l0] at h
 | k + 1 => by
  have ih0 := spec_DescentsOf.mono_l k
  ·intro y0 y1 y2
   unfold spec_DescentsOf.l0
   repeat' first | (with_reducible first | exact ih0 _ _ _ | exact spec_laOrder.mono _ _ | exact LeO.refl _ | exact LeO.none _ | refine LeO.ite ?_ ?_ | refine LeO.bind ?_ (fun _ => ?_))
theorem spec_DescentsOf.mono : ∀ a0 k, LeO (spec_DescentsOf.f k a0) (spec_DescentsOf.f (k + 1) a0) := by
 intro a0 k
 have ih0 := spec_DescentsOf.mono_l k
 unfold spec_DescentsOf.f
 repeat' first | (with_reducible first | exact ih0 _ _ _ | exact spec_laOrder.mono _ _ | exact LeO.refl _ | exact LeO.none _ | refine LeO.ite ?_ ?_ | refine LeO.bind ?_ (fun _ => ?_))
set_option maxHeartbeats 8000000 in
set_option maxRecDepth 100000 in
theorem spec_DescentsOf.calls (k : Nat) (A0 : Option Addr) (c0 : Nat) (l0 : List Int) (r1 : List Int) (r2 : Bool) (w : World) (hr0 : Kd.C (Kd.int .i64) w A0 l0.length l0) (hc0 : l0.length ≤ c0) (h : spec_DescentsOf.f k l0 = some (r1, r2)) :
  Calls Try.prog 32 #[.slice A0 l0.length c0] w fun e w' => ∃ v0_ : Value, e = .returned (.tuple #[v0_, .bool r2]) ∧ Kd.R (Kd.int .i64) 3 w' w.heap.size (fun _ => True) v0_ r1 ∧ Below w.heap.size w w' := by
 have HR0 := Aside0.mk hr0
 have HC0 := Aside0.mk hc0
 clear hr0 hc0
 have HB := Aside0.mk (Below.refl w.heap.size w)
 have H : ((spec_laOrder.f k l0).bind fun t299 => (if t299 = true then (spec_DescentsOf.l0 k l0 ([] : List Int) 0) else (some (([] : List Int), false)))) = some (r1, r2) := h
 clear h
 replace H := Option.bind_eq_some_iff.mp H
 obtain ⟨t299, A20, H⟩ := H
 replace H : (if t299 = true then (spec_DescentsOf.l0 k l0 ([] : List Int) 0) else (some (([] : List Int), false))) = some (r1, r2) := H
 have A2 := Aside0.mk A20
 clear A20
 by_cases c3 : t299 = true
 ·subst c3
  have H1 : (spec_DescentsOf.l0 k l0 ([] : List Int) 0) = some (r1, r2) := by rw [if_pos rfl] at H; exact H
  clear H
  have H := H1
  clear H1
  have H' := Aside0.mk H
  clear H
  go_enter Try.func32, Try.ntmps32
  go_wp2_with (first | (go_at_call 71; (with_reducible refine (spec_laOrder.calls k _ _ l0 true _ ?side1 ?side2 A2.out).mono ?_); (case side1 => exact zq9); (case side2 => exact HC0.out); rintro e w' ⟨rfl, ⟨nd, rfl⟩⟩; (try first | exact ⟨rfl, _, World.drewN_drewN _ _ _⟩ | exact ⟨rfl, _, Eq.trans (World.drewN_drewN _ _ _) (congrArg (World.drewN _) (Nat.add_assoc _ _ _))⟩)))
  repeat (go_quiet (first | (go_at_call 71; (with_reducible refine (spec_laOrder.calls k _ _ l0 true _ ?side1 ?side2 A2.out).mono ?_); (case side1 => exact zq9); (case side2 => exact HC0.out); rintro e w' ⟨rfl, ⟨nd, rfl⟩⟩; (try first | exact ⟨rfl, _, World.drewN_drewN _ _ _⟩ | exact ⟨rfl, _, Eq.trans (World.drewN_drewN _ _ _) (congrArg (World.drewN _) (Nat.add_assoc _ _ _))⟩))); try go_wp2_with (first | (go_at_call 71; (with_reducible refine (spec_laOrder.calls k _ _ l0 true _ ?side1 ?side2 A2.out).mono ?_); (case side1 => exact zq9); (case side2 => exact HC0.out); rintro e w' ⟨rfl, ⟨nd, rfl⟩⟩; (try first | exact ⟨rfl, _, World.drewN_drewN _ _ _⟩ | exact ⟨rfl, _, Eq.trans (World.drewN_drewN _ _ _) (congrArg (World.drewN _) (Nat.add_assoc _ _ _))⟩))))
  go_loopg [4, 5] k (fun kq v4 v5 w' => ∃ (x4_1 : List Int) (x5_1 : Int), v5 = .int .i64 x5_1 ∧ Aside0 (spec_DescentsOf.l0 kq l0 x4_1 x5_1 = some (r1, r2)) ∧ Aside0 (kq ≤ k) ∧ Aside0 (Kd.R (Kd.int .i64) 3 w' w.heap.size (fun _ => True) v4 x4_1) ∧ Aside0 (Below w.heap.size w w'))
  case atStart => exact ⟨(([] : List Int)), (0), zq8, H', ⟨Nat.le_refl _⟩, ⟨zq15⟩, ⟨zq5⟩⟩
  case round =>
   clear H'
   try clear p2
   try clear c3
   obtain ⟨x4_1, x5_1, rfl, HA, HK1, HO_4, HB⟩ := hrel
   cases gk with
   | zero => exact absurd HA.out (by simp [spec_DescentsOf.l0])
   | succ k1 =>
    have H := HA.out
    clear HA
    simp only [spec_DescentsOf.l0] at H
    by_cases c4 : (wrap64 (x5_1 + 1)) < (l0.length : Int)
    ·rw [if_pos c4] at H
     have c4b0 : decide ((wrap64 (x5_1 + 1)) < (l0.length : Int)) = true := decide_eq_true c4
     clear c4
     by_cases c5 : 0 ≤ x5_1
     ·rw [if_pos c5] at H
      have c5b0 : decide (0 ≤ x5_1) = true := decide_eq_true c5
      clear c5
      by_cases c6 : x5_1 < (l0.length : Int)
      ·rw [if_pos c6] at H
       have c6b0 : decide (x5_1 < (l0.length : Int)) = true := decide_eq_true c6
       clear c6
       obtain ⟨ji7, hji7⟩ : ∃ j_ : Int, (wrap64 (x5_1 + 1)) = j_ := ⟨_, rfl⟩
       replace H : (if 0 ≤ (ji7) then (if (rd l0 x5_1) > (rd l0 (ji7)) then (if x4_1.length < 17592186044416 then (spec_DescentsOf.l0 k1 l0 (x4_1 ++ [x5_1]) ji7) else (none)) else (spec_DescentsOf.l0 k1 l0 x4_1 ji7)) else (none)) = some (r1, r2) := by first | (rw [hji7] at H; exact H) | (simp only [hji7] at H ⊢; exact H)
       (try rw [hji7] at c4b0)
       have hji7w : (IntKind.i64.wrap (x5_1 + 1)) = ji7 := (i64_w _).trans hji7
       by_cases c8 : 0 ≤ (ji7)
       ·rw [if_pos c8] at H
        have c8b0 : decide (0 ≤ (ji7)) = true := decide_eq_true c8
        clear c8
        by_cases c9 : (rd l0 x5_1) > (rd l0 (ji7))
        ·rw [if_pos c9] at H
         have c9b0 : decide ((rd l0 (ji7)) < (rd l0 x5_1)) = true := decide_eq_true c9
         clear c9
         by_cases c10 : x4_1.length < 17592186044416
         ·rw [if_pos c10] at H
          have LMc10 := Aside0.mk c10
          clear c10
          obtain ⟨y302, hy302⟩ : ∃ y_ : List Int, y_ = (x4_1 ++ [x5_1]) := ⟨_, rfl⟩
          replace H : (spec_DescentsOf.l0 k1 l0 y302 ji7) = some (r1, r2) := by first | (rw [hy302]; with_reducible exact H) | (have H2_ := (Option.bind_some _ _).symm.trans H; rw [hy302]; with_reducible exact H2_) | (have H2_ := (Option.bind_some _ _).symm.trans H; with_reducible exact H2_) | with_reducible exact H | (rw [hy302]; exact H) | exact H
          have Ny302 := Aside0.mk hy302
          clear hy302
          have H' := Aside0.mk H
          clear H
          have p300 : 0 ≤ (x5_1 : Int) := of_decide_eq_true zq2
          have q300 : x5_1 < (l0.length : Int) := of_decide_eq_true zq2
          obtain ⟨ad300, e300, hx300_0⟩ := Kd.at_int HR0.out x5_1 p300 q300
          cases e300
          replace hx300_0 := (HB.out.cell (World.block_lt_of_cell? w _ hx300_0)).trans hx300_0
          replace p300 := eq_true p300
          replace q300 := eq_true q300
          have p301 : 0 ≤ ((ji7) : Int) := of_decide_eq_true zq2
          have q301 : (ji7) < (l0.length : Int) := of_decide_eq_true zq2
          obtain ⟨ad301, e301, hx301_0⟩ := Kd.at_int HR0.out (ji7) p301 q301
          obtain rfl : ad300 = ad301 := (by injection e301)
          replace hx301_0 := (HB.out.cell (World.block_lt_of_cell? w _ hx301_0)).trans hx301_0
          replace p301 := eq_true p301
          replace q301 := eq_true q301
          go_wp2_with (first | ((with_reducible refine gate_builtin (b := .append) (xs := #[.tmp 26, .tmp 28]) rfl ?_); at_builtin; refine Kd.R_append (Kd.int .i64) (w0 := w) w.heap.size rfl (.tmp 26) (.tmp 28) 24 3 (.int .i64 0) 8 rfl Try.underlying24 info3 rfl zq35 zq60 u4 x4_1 x5_1 [.int .i64 x5_1] (fun _ => True) (fun _ => False) rfl rfl ?aP (fun _ hk => hk.elim) ?aF ?aO ?aB ?aS ?aL ?_; (case aP => exact rfl); (case aB => exact (pBq3 HB)); (case aF => exact zq70); (case aO => exact (pRq3 HO_4)); (case aS => exact zq96); (case aL => exact zq98); intro v303 w11 ho hb hg hat; rw [← Ny302.out] at ho; have HO304 := Aside0.mk (ho); replace HB := Aside0.mk (hb); clear HO_4; clear ho hb hg hat))
          repeat (go_quiet (first | ((with_reducible refine gate_builtin (b := .append) (xs := #[.tmp 26, .tmp 28]) rfl ?_); at_builtin; refine Kd.R_append (Kd.int .i64) (w0 := w) w.heap.size rfl (.tmp 26) (.tmp 28) 24 3 (.int .i64 0) 8 rfl Try.underlying24 info3 rfl zq35 zq60 u4 x4_1 x5_1 [.int .i64 x5_1] (fun _ => True) (fun _ => False) rfl rfl ?aP (fun _ hk => hk.elim) ?aF ?aO ?aB ?aS ?aL ?_; (case aP => exact rfl); (case aB => exact (pBq3 HB)); (case aF => exact zq70); (case aO => exact (pRq3 HO_4)); (case aS => exact zq96); (case aL => exact zq98); intro v303 w11 ho hb hg hat; rw [← Ny302.out] at ho; have HO304 := Aside0.mk (ho); replace HB := Aside0.mk (hb); clear HO_4; clear ho hb hg hat)); try go_wp2_with (first | ((with_reducible refine gate_builtin (b := .append) (xs := #[.tmp 26, .tmp 28]) rfl ?_); at_builtin; refine Kd.R_append (Kd.int .i64) (w0 := w) w.heap.size rfl (.tmp 26) (.tmp 28) 24 3 (.int .i64 0) 8 rfl Try.underlying24 info3 rfl zq35 zq60 u4 x4_1 x5_1 [.int .i64 x5_1] (fun _ => True) (fun _ => False) rfl rfl ?aP (fun _ hk => hk.elim) ?aF ?aO ?aB ?aS ?aL ?_; (case aP => exact rfl); (case aB => exact (pBq3 HB)); (case aF => exact zq70); (case aO => exact (pRq3 HO_4)); (case aS => exact zq96); (case aL => exact zq98); intro v303 w11 ho hb hg hat; rw [← Ny302.out] at ho; have HO304 := Aside0.mk (ho); replace HB := Aside0.mk (hb); clear HO_4; clear ho hb hg hat)))
          go_roundg k1
          case measure => have := HK1.out; omega
          case rel => exact ⟨(y302), (ji7), zq67, H', ⟨zq44⟩, ⟨by (with_reducible repeat (first | apply Kd.R_alloc | apply Kd.R_drewN | apply Kd.R_drew)); exact HO304.out⟩, ⟨zq5⟩⟩
         ·rw [if_neg c10] at H
          exact absurd H zq41
        ·rw [if_neg c9] at H
         have c9b0 : decide ((rd l0 (ji7)) < (rd l0 x5_1)) = false := decide_eq_false c9
         clear c9
         have H' := Aside0.mk H
         clear H
         have p300 : 0 ≤ (x5_1 : Int) := of_decide_eq_true zq2
         have q300 : x5_1 < (l0.length : Int) := of_decide_eq_true zq2
         obtain ⟨ad300, e300, hx300_0⟩ := Kd.at_int HR0.out x5_1 p300 q300
         cases e300
         replace hx300_0 := (HB.out.cell (World.block_lt_of_cell? w _ hx300_0)).trans hx300_0
         replace p300 := eq_true p300
         replace q300 := eq_true q300
         have p301 : 0 ≤ ((ji7) : Int) := of_decide_eq_true zq2
         have q301 : (ji7) < (l0.length : Int) := of_decide_eq_true zq2
         obtain ⟨ad301, e301, hx301_0⟩ := Kd.at_int HR0.out (ji7) p301 q301
         obtain rfl : ad300 = ad301 := (by injection e301)
         replace hx301_0 := (HB.out.cell (World.block_lt_of_cell? w _ hx301_0)).trans hx301_0
         replace p301 := eq_true p301
         replace q301 := eq_true q301
         go_wp2
         repeat (go_quiet (fail); try go_wp2)
         go_roundg k1
         case measure => have := HK1.out; omega
         case rel => exact ⟨(x4_1), (ji7), zq67, H', ⟨zq44⟩, ⟨by (with_reducible repeat (first | apply Kd.R_alloc | apply Kd.R_drewN | apply Kd.R_drew)); exact HO_4.out⟩, ⟨zq5⟩⟩
       ·rw [if_neg c8] at H
        exact absurd H zq41
      ·rw [if_neg c6] at H
       exact absurd H zq41
     ·rw [if_neg c5] at H
      exact absurd H zq41
    ·rw [if_neg c4] at H
     have c4b0 : decide ((wrap64 (x5_1 + 1)) < (l0.length : Int)) = false := decide_eq_false c4
     clear c4
     simp only [Option.some.injEq, Prod.mk.injEq] at H
     obtain ⟨rfl, rfl⟩ := H
     go_wp2
     repeat (go_quiet (fail); try go_wp2)
     go_ret2
     exact ⟨_, zq3, by (with_reducible repeat (first | apply Kd.R_alloc | apply Kd.R_drewN | apply Kd.R_drew)); exact HO_4.out, zq5⟩
 ·replace c3 := Bool.eq_false_iff.mpr c3
  subst c3
  have H1 : (some (([] : List Int), false)) = some (r1, r2) := by rw [if_neg (show ¬ (false = true) by decide)] at H; exact H
  clear H
  have H := H1
  clear H1
  simp only [Option.some.injEq, Prod.mk.injEq] at H
  obtain ⟨rfl, rfl⟩ := H
  go_enter Try.func32, Try.ntmps32
  go_wp2_with (first | (go_at_call 71; (with_reducible refine (spec_laOrder.calls k _ _ l0 false _ ?side1 ?side2 A2.out).mono ?_); (case side1 => exact zq9); (case side2 => exact HC0.out); rintro e w' ⟨rfl, ⟨nd, rfl⟩⟩; (try first | exact ⟨rfl, _, World.drewN_drewN _ _ _⟩ | exact ⟨rfl, _, Eq.trans (World.drewN_drewN _ _ _) (congrArg (World.drewN _) (Nat.add_assoc _ _ _))⟩)))
  repeat (go_quiet (first | (go_at_call 71; (with_reducible refine (spec_laOrder.calls k _ _ l0 false _ ?side1 ?side2 A2.out).mono ?_); (case side1 => exact zq9); (case side2 => exact HC0.out); rintro e w' ⟨rfl, ⟨nd, rfl⟩⟩; (try first | exact ⟨rfl, _, World.drewN_drewN _ _ _⟩ | exact ⟨rfl, _, Eq.trans (World.drewN_drewN _ _ _) (congrArg (World.drewN _) (Nat.add_assoc _ _ _))⟩))); try go_wp2_with (first | (go_at_call 71; (with_reducible refine (spec_laOrder.calls k _ _ l0 false _ ?side1 ?side2 A2.out).mono ?_); (case side1 => exact zq9); (case side2 => exact HC0.out); rintro e w' ⟨rfl, ⟨nd, rfl⟩⟩; (try first | exact ⟨rfl, _, World.drewN_drewN _ _ _⟩ | exact ⟨rfl, _, Eq.trans (World.drewN_drewN _ _ _) (congrArg (World.drewN _) (Nat.add_assoc _ _ _))⟩))))
  go_ret2
  exact ⟨_, zq3, zq15, zq5⟩
/-! ### laws_kLadder: function 33 -/
def laws_kLadder.f (k : Nat) (a0_0 : Int) (l0_1 : List Int) (a1_0 : Int) (l1_1 : List Int) : Option (Bool) := if a0_0 = a1_0 then ((laws_kSame.f k l0_1 l1_1).bind fun t307 => (some t307)) else (some false)
theorem laws_kLadder.mono : ∀ a0 a1 a2 a3 k, LeO (laws_kLadder.f k a0 a1 a2 a3) (laws_kLadder.f (k + 1) a0 a1 a2 a3) := by
 intro a0 a1 a2 a3 k
 unfold laws_kLadder.f
 repeat' first | (with_reducible first | exact laws_kSame.mono _ _ _ | exact LeO.refl _ | exact LeO.none _ | refine LeO.ite ?_ ?_ | refine LeO.bind ?_ (fun _ => ?_))
set_option maxHeartbeats 8000000 in
set_option maxRecDepth 100000 in
theorem laws_kLadder.calls (k : Nat) (a0_0 : Int) (A0_1 : Option Addr) (c0_1 : Nat) (l0_1 : List Int) (a1_0 : Int) (A1_1 : Option Addr) (c1_1 : Nat) (l1_1 : List Int) (r : Bool) (w : World) (hr0_1 : Kd.C (Kd.int .i64) w A0_1 l0_1.length l0_1) (hc0_1 : l0_1.length ≤ c0_1) (hr1_1 : Kd.C (Kd.int .i64) w A1_1 l1_1.length l1_1) (hc1_1 : l1_1.length ≤ c1_1) (h : laws_kLadder.f k a0_0 l0_1 a1_0 l1_1 = some r) :
  Calls Try.prog 33 #[.agg #[.int .i64 a0_0, .slice A0_1 l0_1.length c0_1], .agg #[.int .i64 a1_0, .slice A1_1 l1_1.length c1_1]] w fun e w' => e = .returned (.bool r) ∧ Below w.heap.size w w' := by
 have hu40 := Try.underlying40
 have HR0_1 := Aside0.mk hr0_1
 have HC0_1 := Aside0.mk hc0_1
 clear hr0_1 hc0_1
 have HR1_1 := Aside0.mk hr1_1
 have HC1_1 := Aside0.mk hc1_1
 clear hr1_1 hc1_1
 have HB := Aside0.mk (Below.refl w.heap.size w)
 have H : (if a0_0 = a1_0 then ((laws_kSame.f k l0_1 l1_1).bind fun t307 => (some t307)) else (some false)) = some r := h
 clear h
 by_cases c3 : a0_0 = a1_0
 ·rw [if_pos c3] at H
  have c3b0 : (a0_0 == a1_0) = true := beq_iff_eq.mpr c3
  have c3b1 : (a0_0 != a1_0) = false := bne_eq_false_iff_eq.mpr c3
  clear c3
  replace H := Option.bind_eq_some_iff.mp H
  obtain ⟨t307, A40, H⟩ := H
  replace H : (some t307) = some r := H
  have A4 := Aside0.mk A40
  clear A40
  obtain rfl := Option.some.inj H
  go_enter Try.func33, Try.ntmps33
  go_wp2_with (first | ((with_reducible refine gate_dst (N := 2) rfl ?_); refine box_event ?hg (N := 2) ?hd (cs := #[.int .i64 a0_0, .slice A0_1 l0_1.length c0_1]) (t := 40) ?hr ?_; (case hd => rfl); (case hg => rfl); (case hr => exact zq16); intro gb305 hg w5 hbox hb; have BK305 := Aside0.mk (hbox); have GW305 := Aside0.mk ((by rw [hg]; exact (below_size (pBq3 HB)) : w.heap.size ≤ gb305)); have GE305 := Aside0.mk ((by rw [hg]; exact (below_size (pBq3 HB)) : w.heap.size ≤ gb305)); replace HB := Aside0.mk (below_step (pBq3 HB) hb); clear hb hbox hg) | ((with_reducible refine gate_dst (N := 3) rfl ?_); refine box_event ?hg (N := 3) ?hd (cs := #[.int .i64 a1_0, .slice A1_1 l1_1.length c1_1]) (t := 40) ?hr ?_; (case hd => rfl); (case hg => rfl); (case hr => exact zq16); intro gb306 hg w6 hbox hb; have BK306 := Aside0.mk (hbox); have GW306 := Aside0.mk ((by rw [hg]; exact (below_size (pBq3 HB)) : w.heap.size ≤ gb306)); have GE306 := Aside0.mk ((by rw [hg]; exact (below_size (pBq3 HB)) : w.heap.size ≤ gb306)); have NB305_306 := Aside0.mk ((by rw [hg]; exact Nat.ne_of_lt (blk_lt (pKq3 BK305)) : gb305 ≠ gb306)); have NB306_305 := Aside0.mk ((by rw [hg]; exact Nat.ne_of_gt (blk_lt (pKq3 BK305)) : gb306 ≠ gb305)); replace BK305 := Aside0.mk (blk_below (pKq3 BK305) hb); replace HB := Aside0.mk (below_step (pBq3 HB) hb); clear hb hbox hg; have hnb7 := NB305_306.out; have hnc7 := NB306_305.out; have hcz8_0 : w6.cell? ⟨gb305, 0, none⟩ = some (.int .i64 a0_0) := (blk_cell BK305.out 0).trans rfl; have hcz8_1 : w6.cell? ⟨gb305, 1, none⟩ = some (.slice A0_1 l0_1.length c0_1) := (blk_cell BK305.out 1).trans rfl; have hfz8_0 := blk_frozen BK305.out 0; have hfz8_1 := blk_frozen BK305.out 1; have hcz9_0 : w6.cell? ⟨gb306, 0, none⟩ = some (.int .i64 a1_0) := (blk_cell BK306.out 0).trans rfl; have hcz9_1 : w6.cell? ⟨gb306, 1, none⟩ = some (.slice A1_1 l1_1.length c1_1) := (blk_cell BK306.out 1).trans rfl; have hfz9_0 := blk_frozen BK306.out 0; have hfz9_1 := blk_frozen BK306.out 1) | (go_at_call 17; (with_reducible refine (laws_kSame.calls k _ _ l0_1 _ _ l1_1 t307 _ ?side1 ?side2 ?side3 ?side4 A4.out).mono ?_); (case side1 => exact zq7); (case side2 => exact zq83); (case side3 => repeat (first | exact (Kd.C_below HR1_1.out HB.out) | (with_reducible refine Kd.C_alloc ?_ _) | (with_reducible refine Kd.C_drewN ?_ _) | (with_reducible refine Kd.C_drew ?_))); (case side4 => exact HC1_1.out); rintro e w' ⟨rfl, ⟨nd, rfl⟩⟩))
  go_ret
  exact ⟨zq3, zq79⟩
 ·rw [if_neg c3] at H
  have c3b0 : (a0_0 == a1_0) = false := beq_eq_false_iff_ne.mpr c3
  have c3b1 : (a0_0 != a1_0) = true := bne_iff_ne.mpr c3
  obtain rfl := Option.some.inj H
  go_enter Try.func33, Try.ntmps33
  go_wp2_with (first | ((with_reducible refine gate_dst (N := 2) rfl ?_); refine box_event ?hg (N := 2) ?hd (cs := #[.int .i64 a0_0, .slice A0_1 l0_1.length c0_1]) (t := 40) ?hr ?_; (case hd => rfl); (case hg => rfl); (case hr => exact zq16); intro gb305 hg w10 hbox hb; have BK305 := Aside0.mk (hbox); have GW305 := Aside0.mk ((by rw [hg]; exact (below_size (pBq3 HB)) : w.heap.size ≤ gb305)); have GE305 := Aside0.mk ((by rw [hg]; exact (below_size (pBq3 HB)) : w.heap.size ≤ gb305)); replace HB := Aside0.mk (below_step (pBq3 HB) hb); clear hb hbox hg) | ((with_reducible refine gate_dst (N := 3) rfl ?_); refine box_event ?hg (N := 3) ?hd (cs := #[.int .i64 a1_0, .slice A1_1 l1_1.length c1_1]) (t := 40) ?hr ?_; (case hd => rfl); (case hg => rfl); (case hr => exact zq16); intro gb306 hg w11 hbox hb; have BK306 := Aside0.mk (hbox); have GW306 := Aside0.mk ((by rw [hg]; exact (below_size (pBq3 HB)) : w.heap.size ≤ gb306)); have GE306 := Aside0.mk ((by rw [hg]; exact (below_size (pBq3 HB)) : w.heap.size ≤ gb306)); have NB305_306 := Aside0.mk ((by rw [hg]; exact Nat.ne_of_lt (blk_lt (pKq3 BK305)) : gb305 ≠ gb306)); have NB306_305 := Aside0.mk ((by rw [hg]; exact Nat.ne_of_gt (blk_lt (pKq3 BK305)) : gb306 ≠ gb305)); replace BK305 := Aside0.mk (blk_below (pKq3 BK305) hb); replace HB := Aside0.mk (below_step (pBq3 HB) hb); clear hb hbox hg; have hnb12 := NB305_306.out; have hnc12 := NB306_305.out; have hcz13_0 : w11.cell? ⟨gb305, 0, none⟩ = some (.int .i64 a0_0) := (blk_cell BK305.out 0).trans rfl; have hcz13_1 : w11.cell? ⟨gb305, 1, none⟩ = some (.slice A0_1 l0_1.length c0_1) := (blk_cell BK305.out 1).trans rfl; have hfz13_0 := blk_frozen BK305.out 0; have hfz13_1 := blk_frozen BK305.out 1; have hcz14_0 : w11.cell? ⟨gb306, 0, none⟩ = some (.int .i64 a1_0) := (blk_cell BK306.out 0).trans rfl; have hcz14_1 : w11.cell? ⟨gb306, 1, none⟩ = some (.slice A1_1 l1_1.length c1_1) := (blk_cell BK306.out 1).trans rfl; have hfz14_0 := blk_frozen BK306.out 0; have hfz14_1 := blk_frozen BK306.out 1))
  go_ret
  exact ⟨zq3, zq79⟩
/-! ### laws_kLess: function 34 -/
mutual
def laws_kLess.l0 : Nat → List Int → List Int → Int → Option (Bool)
 | 0, _, _, _ => none
 | k + 1, x0, x1, x5 => if x5 < (x0.length : Int) then (laws_kLess.j1 k x0 x1 x5 (decide (x5 < (x1.length : Int)))) else (laws_kLess.j1 k x0 x1 x5 false)
def laws_kLess.j1 : Nat → List Int → List Int → Int → Bool → Option (Bool)
 | 0, _, _, _, _ => none
 | k + 1, x0, x1, x5, x15 => if x15 = true then (if 0 ≤ x5 then (if x5 < (x0.length : Int) then (if x5 < (x1.length : Int) then (if (rd x0 x5) = (rd x1 x5) then (laws_kLess.l0 k x0 x1 (wrap64 (x5 + 1))) else (some (decide ((rd x0 x5) < (rd x1 x5))))) else (none)) else (none)) else (none)) else (some (decide ((x0.length : Int) < (x1.length : Int))))
end
def laws_kLess.f (k : Nat) (l0 : List Int) (l1 : List Int) : Option (Bool) := laws_kLess.l0 k l0 l1 0
theorem laws_kLess.mono_l : ∀ k, (∀ y0 y1 y2, LeO (laws_kLess.l0 k y0 y1 y2) (laws_kLess.l0 (k + 1) y0 y1 y2)) ∧ (∀ y0 y1 y2 y3, LeO (laws_kLess.j1 k y0 y1 y2 y3) (laws_kLess.j1 (k + 1) y0 y1 y2 y3))
 | 0 => ⟨fun _ _ _ r h => by simp [laws_kLess.l0] at h, fun _ _ _ _ r h => by simp [laws_kLess.j1] at h⟩
 | k + 1 => by
  obtain ⟨ih0, ih1⟩ := laws_kLess.mono_l k
  refine ⟨?_, ?_⟩
  ·intro y0 y1 y2
   unfold laws_kLess.l0
   repeat' first | (with_reducible first | exact ih0 _ _ _ | exact ih1 _ _ _ _ | exact LeO.refl _ | exact LeO.none _ | refine LeO.ite ?_ ?_ | refine LeO.bind ?_ (fun _ => ?_))
  ·intro y0 y1 y2 y3
   unfold laws_kLess.j1
   repeat' first | (with_reducible first | exact ih0 _ _ _ | exact ih1 _ _ _ _ | exact LeO.refl _ | exact LeO.none _ | refine LeO.ite ?_ ?_ | refine LeO.bind ?_ (fun _ => ?_))
theorem laws_kLess.mono : ∀ a0 a1 k, LeO (laws_kLess.f k a0 a1) (laws_kLess.f (k + 1) a0 a1) := by
 intro a0 a1 k
 obtain ⟨ih0, ih1⟩ := laws_kLess.mono_l k
 unfold laws_kLess.f
 repeat' first | (with_reducible first | exact ih0 _ _ _ | exact ih1 _ _ _ _ | exact LeO.refl _ | exact LeO.none _ | refine LeO.ite ?_ ?_ | refine LeO.bind ?_ (fun _ => ?_))
set_option maxHeartbeats 8000000 in
set_option maxRecDepth 100000 in
theorem laws_kLess.calls (k : Nat) (A0 : Option Addr) (c0 : Nat) (l0 : List Int) (A1 : Option Addr) (c1 : Nat) (l1 : List Int) (r : Bool) (w : World) (hr0 : Kd.C (Kd.int .i64) w A0 l0.length l0) (hc0 : l0.length ≤ c0) (hr1 : Kd.C (Kd.int .i64) w A1 l1.length l1) (hc1 : l1.length ≤ c1) (h : laws_kLess.f k l0 l1 = some r) :
  Calls Try.prog 34 #[.slice A0 l0.length c0, .slice A1 l1.length c1] w fun e w' => e = .returned (.bool r) ∧ Drawn0 w w' := by
 have HR0 := Aside0.mk hr0
 have HC0 := Aside0.mk hc0
 clear hr0 hc0
 have HR1 := Aside0.mk hr1
 have HC1 := Aside0.mk hc1
 clear hr1 hc1
 have H : (laws_kLess.l0 k l0 l1 0) = some r := h
 clear h
 have H' := Aside0.mk H
 clear H
 go_enter Try.func34, Try.ntmps34
 go_wp2
 repeat (go_quiet (fail); try go_wp2)
 go_loopg [5] k (fun kq v5 w' => ∃ (x5_1 : Int), v5 = .int .i64 x5_1 ∧ Aside0 (laws_kLess.l0 kq l0 l1 x5_1 = some r) ∧ Aside0 (kq ≤ k) ∧ Drawn0 w w')
 case atStart => exact ⟨(0), zq8, H', ⟨Nat.le_refl _⟩, zq12⟩
 case round =>
  clear H'
  try clear c1
  try clear p2
  obtain ⟨x5_1, rfl, HA, HK1, ⟨m1, rfl⟩⟩ := hrel
  cases gk with
  | zero => exact absurd HA.out (by simp [laws_kLess.l0])
  | succ k1 =>
   have H := HA.out
   clear HA
   simp only [laws_kLess.l0] at H
   have HC3 := Aside0.mk H
   clear H
   go_upto_region 2 with (fail)
   repeat (go_quiet (fail); go_upto_region 2 with (fail))
   go_cut [15] (fun v15 wc => ∃ (kq : Nat) (x15_2 : Bool), v15 = .bool x15_2 ∧ Aside0 (laws_kLess.j1 kq l0 l1 x5_1 x15_2 = some r) ∧ Aside0 (kq ≤ k1) ∧ Drawn0 w wc)
   case first =>
    have H := HC3.out
    clear HC3
    by_cases c4 : x5_1 < (l0.length : Int)
    ·rw [if_pos c4] at H
     have c4b0 : decide (x5_1 < (l0.length : Int)) = true := decide_eq_true c4
     clear c4
     (first | rw [c4b0] | (simp only [i64_w, i32_w]; rw [c4b0]) | skip)
     have H' := Aside0.mk H
     clear H
     go_wp2
     repeat (go_quiet (fail); try go_wp2)
     go_meet
     case rel => exact ⟨_, (decide (x5_1 < (l1.length : Int))), zq8, H', ⟨by have := HK1.out; first | omega | exact Nat.le_refl _⟩, zq12⟩
    ·rw [if_neg c4] at H
     have c4b0 : decide (x5_1 < (l0.length : Int)) = false := decide_eq_false c4
     clear c4
     (first | rw [c4b0] | (simp only [i64_w, i32_w]; rw [c4b0]) | skip)
     have H' := Aside0.mk H
     clear H
     go_wp2
     repeat (go_quiet (fail); try go_wp2)
     go_meet
     case rel => exact ⟨_, (false), zq8, H', ⟨by have := HK1.out; first | omega | exact Nat.le_refl _⟩, zq12⟩
   case rest =>
    clear HC3
    try clear c1
    try clear p2
    try clear c3
    try clear c4
    try clear c4b0
    try clear p2
    obtain ⟨kq, x15_2, rfl, HA, HJ2, ⟨mc2, rfl⟩⟩ := hcut
    cases kq with
    | zero => exact absurd HA.out (by simp [laws_kLess.j1])
    | succ kj2 =>
     have H := HA.out
     clear HA
     simp only [laws_kLess.j1] at H
     by_cases c5 : x15_2 = true
     ·subst c5
      have H1 : (if 0 ≤ x5_1 then (if x5_1 < (l0.length : Int) then (if x5_1 < (l1.length : Int) then (if (rd l0 x5_1) = (rd l1 x5_1) then (laws_kLess.l0 kj2 l0 l1 (wrap64 (x5_1 + 1))) else (some (decide ((rd l0 x5_1) < (rd l1 x5_1))))) else (none)) else (none)) else (none)) = some r := by rw [if_pos rfl] at H; exact H
      clear H
      have H := H1
      clear H1
      by_cases c6 : 0 ≤ x5_1
      ·rw [if_pos c6] at H
       have c6b0 : decide (0 ≤ x5_1) = true := decide_eq_true c6
       clear c6
       by_cases c7 : x5_1 < (l0.length : Int)
       ·rw [if_pos c7] at H
        have c7b0 : decide (x5_1 < (l0.length : Int)) = true := decide_eq_true c7
        clear c7
        by_cases c8 : x5_1 < (l1.length : Int)
        ·rw [if_pos c8] at H
         have c8b0 : decide (x5_1 < (l1.length : Int)) = true := decide_eq_true c8
         clear c8
         by_cases c9 : (rd l0 x5_1) = (rd l1 x5_1)
         ·rw [if_pos c9] at H
          have c9b0 : ((rd l0 x5_1) == (rd l1 x5_1)) = true := beq_iff_eq.mpr c9
          have c9b1 : ((rd l0 x5_1) != (rd l1 x5_1)) = false := bne_eq_false_iff_eq.mpr c9
          clear c9
          have H' := Aside0.mk H
          clear H
          have p308 : 0 ≤ (x5_1 : Int) := of_decide_eq_true zq2
          have q308 : x5_1 < (l0.length : Int) := of_decide_eq_true zq2
          obtain ⟨ad308, e308, hx308_0⟩ := Kd.at_int HR0.out x5_1 p308 q308
          cases e308
          replace p308 := eq_true p308
          replace q308 := eq_true q308
          have p309 : 0 ≤ (x5_1 : Int) := of_decide_eq_true zq2
          have q309 : x5_1 < (l1.length : Int) := of_decide_eq_true zq2
          obtain ⟨ad309, e309, hx309_0⟩ := Kd.at_int HR1.out x5_1 p309 q309
          cases e309
          replace p309 := eq_true p309
          replace q309 := eq_true q309
          go_wp2
          repeat (go_quiet (fail); try go_wp2)
          go_roundg kj2
          case measure => have := HK1.out; have := HJ2.out; omega
          case rel => exact ⟨(wrap64 (x5_1 + 1)), zq8, H', ⟨by have := HK1.out; have := HJ2.out; omega⟩, zq12⟩
         ·rw [if_neg c9] at H
          have c9b0 : ((rd l0 x5_1) == (rd l1 x5_1)) = false := beq_eq_false_iff_ne.mpr c9
          have c9b1 : ((rd l0 x5_1) != (rd l1 x5_1)) = true := bne_iff_ne.mpr c9
          obtain rfl := Option.some.inj H
          have p308 : 0 ≤ (x5_1 : Int) := of_decide_eq_true zq2
          have q308 : x5_1 < (l0.length : Int) := of_decide_eq_true zq2
          obtain ⟨ad308, e308, hx308_0⟩ := Kd.at_int HR0.out x5_1 p308 q308
          cases e308
          replace p308 := eq_true p308
          replace q308 := eq_true q308
          have p309 : 0 ≤ (x5_1 : Int) := of_decide_eq_true zq2
          have q309 : x5_1 < (l1.length : Int) := of_decide_eq_true zq2
          obtain ⟨ad309, e309, hx309_0⟩ := Kd.at_int HR1.out x5_1 p309 q309
          cases e309
          replace p309 := eq_true p309
          replace q309 := eq_true q309
          have p310 : 0 ≤ (x5_1 : Int) := of_decide_eq_true zq2
          have q310 : x5_1 < (l0.length : Int) := of_decide_eq_true zq2
          obtain ⟨ad310, e310, hx310_0⟩ := Kd.at_int HR0.out x5_1 p310 q310
          obtain rfl : ad308 = ad310 := (by injection e310)
          replace p310 := eq_true p310
          replace q310 := eq_true q310
          have p311 : 0 ≤ (x5_1 : Int) := of_decide_eq_true zq2
          have q311 : x5_1 < (l1.length : Int) := of_decide_eq_true zq2
          obtain ⟨ad311, e311, hx311_0⟩ := Kd.at_int HR1.out x5_1 p311 q311
          obtain rfl : ad309 = ad311 := (by injection e311)
          replace p311 := eq_true p311
          replace q311 := eq_true q311
          go_wp2
          repeat (go_quiet (fail); try go_wp2)
          go_ret
          exact ⟨zq8, zq12⟩
        ·rw [if_neg c8] at H
         exact absurd H zq41
       ·rw [if_neg c7] at H
        exact absurd H zq41
      ·rw [if_neg c6] at H
       exact absurd H zq41
     ·replace c5 := Bool.eq_false_iff.mpr c5
      subst c5
      have H1 : (some (decide ((l0.length : Int) < (l1.length : Int)))) = some r := by rw [if_neg (show ¬ (false = true) by decide)] at H; exact H
      clear H
      have H := H1
      clear H1
      obtain rfl := Option.some.inj H
      go_wp2
      repeat (go_quiet (fail); try go_wp2)
      go_ret
      exact ⟨zq8, zq12⟩
/-! ### impl_isLadder: function 87 -/
def impl_isLadder.bad (n : Int) (x : Int) : Bool := !(decide (0 ≤ x) && decide (x ≤ n - 2))
def impl_isLadder.idx (p : Int → Bool) (l : List Int) : Int := if l.any p then ((l.findIdx p : Nat) : Int) else -1
def impl_isLadder.f (a0_0 : Int) (l0_1 : List Int) : Option Bool := some (decide (2 ≤ a0_0) && decide (a0_0 ≤ 8) && decide (l0_1.length ≤ 60) && !(l0_1.any (impl_isLadder.bad a0_0)))
theorem impl_isLadder.idx_hit (p : Int → Bool) (l : List Int) (i : Nat) (hi : i < l.length) (hp : p (rd l i) = true) (hb : ∀ j, j < i → p (rd l j) = false) : impl_isLadder.idx p l = (i : Int) := by
 have hg : ∀ j : Nat, ∀ h : j < l.length, rd l j = l[j] := fun j h => by
  show l.getD ((j : Int)).toNat 0 = _
  rw [Int.toNat_natCast, List.getD_eq_getElem?_getD, List.getElem?_eq_getElem h]; rfl
 have h1 : l.any p = true := List.any_eq_true.2 ⟨rd l i, by rw [hg i hi]; exact List.getElem_mem hi, hp⟩
 unfold impl_isLadder.idx
 rw [if_pos h1]
 congr 1
 refine (List.findIdx_eq hi).2 ⟨by rw [← hg i hi]; exact hp, fun j hj => ?_⟩
 have := hb j hj
 rw [hg j zq60] at this
 simpa using this
theorem impl_isLadder.idx_miss (p : Int → Bool) (l : List Int) (hb : ∀ j, j < l.length → p (rd l j) = false) : impl_isLadder.idx p l = -1 := by
 have h1 : ¬ l.any p = true := fun h => by
  obtain ⟨x, hx, hp⟩ := List.any_eq_true.1 h
  obtain ⟨j, hj, rfl⟩ := List.getElem_of_mem hx
  have h2 := hb j hj
  have hg : rd l j = l[j] := by
   show l.getD ((j : Int)).toNat 0 = _
   rw [Int.toNat_natCast, List.getD_eq_getElem?_getD, List.getElem?_eq_getElem hj]; rfl
  rw [hg, hp] at h2
  cases h2
 unfold impl_isLadder.idx
 rw [if_neg h1]
theorem impl_isLadder.idx_any (p : Int → Bool) (l : List Int) : decide (0 ≤ impl_isLadder.idx p l) = l.any p := by
 unfold impl_isLadder.idx
 cases h : l.any p
 ·simp
 ·simp [Int.natCast_nonneg]
set_option maxHeartbeats 400000 in
/-- The closure: is the number out of its bounds? -/
theorem impl_isLadder.clos (x n : Int) (g : Nat) (w : World) (h0 : 2 ≤ n) (h1 : n ≤ 8) (hc : w.cell? ⟨g, 0, none⟩ = some (.int .i64 n)) :
  Calls Try.prog 115 #[.int .i64 x, .pointer (some ⟨g, 0, none⟩)] w fun e w' => e = .returned (.bool (impl_isLadder.bad n x)) ∧ Drawn0 w w' := by
 have hb : impl_between.f x 0 (n - 2) = some (decide (0 ≤ x) && decide (x ≤ n - 2)) := by
  unfold impl_between.f
  by_cases h : x ≥ 0
  ·rw [if_pos h]; simp [h]
  ·rw [if_neg h]; simp [h]
 have HB := Aside0.mk hb
 clear hb
 go_enter Try.func115, Try.ntmps115
 go_wp2_with (go_at_call 98; (with_reducible refine (impl_between.calls _ _ _ _ _ HB.out).mono ?_); rintro e w' ⟨rfl, ⟨nd, rfl⟩⟩)
 go_ret
 exact ⟨by simp [impl_isLadder.bad], zq12⟩
def impl_isLadder.Gives (n : Int) (g : Nat) (w : World) : Prop := ∀ (x : Int) (q : Nat), Calls Try.prog 115 #[.int .i64 x, .pointer (some ⟨g, 0, none⟩)] (w.drewN q) fun e w' => e = .returned (.bool (impl_isLadder.bad n x)) ∧ Drawn0 (w.drewN q) w'
set_option maxHeartbeats 1000000 in
set_option maxRecDepth 100000 in
theorem impl_isLadder.index (A0 : Option Addr) (c0 : Nat) (l0 : List Int) (n : Int) (g : Nat) (w : World) (hr0 : Kd.C (Kd.int .i64) w A0 l0.length l0) (hc0 : l0.length ≤ c0) (hG : impl_isLadder.Gives n g w) :
  Calls Try.prog 124 #[.slice A0 l0.length c0, .func (.func 115) #[] #[.pointer (some ⟨g, 0, none⟩)]] w fun e w' => e = .returned (.int .i64 (impl_isLadder.idx (impl_isLadder.bad n) l0)) ∧ Drawn0 w w' := by
 have HR0 := Aside0.mk hr0
 have HG := Aside0.mk hG
 have HN : l0.length ≤ 9223372036854775807 := hr0.2.1
 clear hr0 hc0 hG
 go_enter Try.func124, Try.ntmps124
 go_wp2
 go_loopg [5, 8] l0.length (fun gg _ s8 wr => ∃ kk q : Nat, kk ≤ l0.length ∧ l0.length - kk ≤ gg ∧ s8 = .int .i64 kk ∧ wr = w.drewN q ∧ Aside0 (∀ j : Nat, j < kk → impl_isLadder.bad n (rd l0 (j : Int)) = false))
 case atStart => exact ⟨0, 0, Nat.zero_le _, zq60, rfl, rfl, ⟨fun j hj => absurd hj (Nat.not_lt_zero _)⟩⟩
 case round =>
  obtain ⟨kk, q, hkk, hg, rfl, rfl, A⟩ := hrel
  by_cases hlt : kk < l0.length
  ·have hltz : (kk : Int) < (l0.length : Int) := by omega
   obtain ⟨ad1, e1, hx0⟩ := Kd.at_int HR0.out (kk : Int) (Int.natCast_nonneg kk) hltz
   cases e1
   have hx : w.cell? (ad1.add kk) = some (.int .i64 (rd l0 (kk : Int))) := by rw [Int.toNat_natCast] at hx0; exact hx0
   clear hx0
   cases hq : impl_isLadder.bad n (rd l0 (kk : Int)) with
   | true =>
    have hcall := fun q => HG.out (rd l0 (kk : Int)) q
    rw [hq] at hcall
    have HC := Aside0.mk hcall
    have HQ := Aside0.mk hq
    clear hcall hq
    go_wp2_with (go_at_call 115; refine (HC.out _).mono ?_; rintro e w' ⟨rfl, ⟨q', rfl⟩⟩)
    go_ret
    refine ⟨?_, zq12⟩
    rw [impl_isLadder.idx_hit _ l0 kk hlt HQ.out A.out]; rfl
   | false =>
    have hcall := fun q => HG.out (rd l0 (kk : Int)) q
    rw [hq] at hcall
    have HC := Aside0.mk hcall
    have HQ := Aside0.mk hq
    clear hcall hq
    go_wp2_with (go_at_call 115; refine (HC.out _).mono ?_; rintro e w' ⟨rfl, ⟨q', rfl⟩⟩)
    go_roundg (l0.length - (kk + 1))
    case measure => omega
    case rel =>
     refine ⟨kk + 1, _, zq60, zq60, by go_num, rfl, ⟨fun j hj => ?_⟩⟩
     by_cases e : j = kk
     ·subst e; exact HQ.out
     ·exact A.out j zq60
  ·have hltz : ¬ (kk : Int) < (l0.length : Int) := by omega
   have hk : kk = l0.length := by omega
   subst hk
   go_wp2
   go_ret
   refine ⟨?_, zq12⟩
   rw [impl_isLadder.idx_miss _ l0 A.out]; rfl
set_option maxHeartbeats 1000000 in
theorem impl_isLadder.contains (A0 : Option Addr) (c0 : Nat) (l0 : List Int) (n : Int) (g : Nat) (r : Bool) (w : World) (hr0 : Kd.C (Kd.int .i64) w A0 l0.length l0) (hc0 : l0.length ≤ c0) (hG : impl_isLadder.Gives n g w) (h : l0.any (impl_isLadder.bad n) = r) :
  Calls Try.prog 114 #[.slice A0 l0.length c0, .func (.func 115) #[] #[.pointer (some ⟨g, 0, none⟩)]] w fun e w' => e = .returned (.bool r) ∧ Drawn0 w w' := by
 have HI := Aside0.mk (impl_isLadder.index A0 c0 l0 n g w hr0 hc0 hG)
 have HA := Aside0.mk (impl_isLadder.idx_any (impl_isLadder.bad n) l0)
 have HH := Aside0.mk h
 clear hr0 hG h
 go_enter Try.func114, Try.ntmps114
 go_wp2_with (go_at_call 124; (with_reducible refine HI.out.mono ?_); rintro e w' ⟨rfl, ⟨nd, rfl⟩⟩)
 go_ret
 exact ⟨by rw [HA.out, HH.out]; rfl, zq12⟩
set_option maxHeartbeats 2000000 in
set_option maxRecDepth 100000 in
theorem impl_isLadder.calls (a0_0 : Int) (A0_1 : Option Addr) (c0_1 : Nat) (l0_1 : List Int) (r : Bool) (w : World) (hr0_1 : Kd.C (Kd.int .i64) w A0_1 l0_1.length l0_1) (hc0_1 : l0_1.length ≤ c0_1) (h : impl_isLadder.f a0_0 l0_1 = some r) :
  Calls Try.prog 87 #[.agg #[.int .i64 a0_0, .slice A0_1 l0_1.length c0_1]] w fun e w' => e = .returned (.bool r) ∧ Below w.heap.size w w' := by
 have h' : (decide (2 ≤ a0_0) && decide (a0_0 ≤ 8) && decide (l0_1.length ≤ 60) && !(l0_1.any (impl_isLadder.bad a0_0))) = r := Option.some.inj h
 clear h
 by_cases hn : 2 ≤ a0_0 ∧ a0_0 ≤ 8
 ·have hb : impl_between.f a0_0 2 8 = some true := by
   unfold impl_between.f
   rw [if_pos hn.1, decide_eq_true hn.2]
  have HB := Aside0.mk hb
  have HN := Aside0.mk hn
  by_cases hl : l0_1.length ≤ 60
  ·have HR := Aside0.mk hr0_1
   have HC := Aside0.mk hc0_1
   have hlz : (l0_1.length : Int) ≤ 60 := by omega
   have hl0 : decide ((l0_1.length : Int) ≤ 60) = true := decide_eq_true hlz
   have hl1 : decide (l0_1.length ≤ 60) = true := decide_eq_true hl
   have hr : r = !(l0_1.any (impl_isLadder.bad a0_0)) := by rw [← h', decide_eq_true hn.1, decide_eq_true hn.2, decide_eq_true hl]; simp
   have HRR := Aside0.mk hr
   clear h' hb hn hr0_1 hc0_1 hr hl hlz
   go_enter Try.func87, Try.ntmps87
   go_wp2_with (first | (go_at_call 98; (with_reducible refine (impl_between.calls _ _ _ _ _ HB.out).mono ?_); rintro e w' ⟨rfl, ⟨nd, rfl⟩⟩) | (go_at_call 114; (with_reducible refine (impl_isLadder.contains A0_1 c0_1 l0_1 a0_0 w.heap.size _ _ ?side1 HC.out ?side2 rfl).mono ?_); (case side1 => exact Kd.C_drewN (Kd.C_alloc HR.out _) _); (case side2 => exact fun x q => impl_isLadder.clos x a0_0 w.heap.size _ HN.out.1 HN.out.2 (by simp [World.cell?_alloc_new])); rintro e w' ⟨rfl, ⟨nd2, rfl⟩⟩))
   go_ret
   exact ⟨by rw [HRR.out]; rfl, zq91⟩
  ·have hl0 : decide ((l0_1.length : Int) ≤ 60) = false := decide_eq_false zq60
   have hl1 : decide (l0_1.length ≤ 60) = false := decide_eq_false hl
   have hr : r = false := by rw [← h', decide_eq_false hl]; simp
   have HRR := Aside0.mk hr
   clear h' hb hn hr0_1 hc0_1 hr hl
   go_enter Try.func87, Try.ntmps87
   go_wp2_with (go_at_call 98; (with_reducible refine (impl_between.calls _ _ _ _ _ HB.out).mono ?_); rintro e w' ⟨rfl, ⟨nd, rfl⟩⟩)
   go_ret
   exact ⟨by rw [HRR.out]; rfl, zq91⟩
 ·have hb : impl_between.f a0_0 2 8 = some false := by
   unfold impl_between.f
   by_cases h1 : a0_0 ≥ 2
   ·rw [if_pos h1, decide_eq_false zq60]
   ·rw [if_neg h1]
  have HB := Aside0.mk hb
  have hr : r = false := by
   rw [← h']
   by_cases h1 : 2 ≤ a0_0
   ·have h2 : ¬ a0_0 ≤ 8 := fun h2 => hn ⟨h1, h2⟩
    simp [h2]
   ·simp [h1]
  have HRR := Aside0.mk hr
  clear h' hb hn hr0_1 hc0_1 hr
  go_enter Try.func87, Try.ntmps87
  go_wp2_with (go_at_call 98; (with_reducible refine (impl_between.calls _ _ _ _ _ HB.out).mono ?_); rintro e w' ⟨rfl, ⟨nd, rfl⟩⟩)
  go_ret
  exact ⟨by rw [HRR.out]; rfl, zq91⟩
/-! ### impl_over: function 116 -/
def impl_over.f (a0 : Int) (a1 : Int) : Option (Int) := if a0 = a1 then (some (wrap64 (a1 + 1))) else (if a0 = (wrap64 (a1 + 1)) then (some a1) else (some a0))
set_option maxHeartbeats 8000000 in
set_option maxRecDepth 100000 in
theorem impl_over.calls (a0 : Int) (a1 : Int) (r : Int) (w : World) (h : impl_over.f a0 a1 = some r) :
  Calls Try.prog 116 #[.int .i64 a0, .int .i64 a1] w fun e w' => e = .returned (.int .i64 r) ∧ Drawn0 w w' := by
 have H : (if a0 = a1 then (some (wrap64 (a1 + 1))) else (if a0 = (wrap64 (a1 + 1)) then (some a1) else (some a0))) = some r := h
 clear h
 by_cases c3 : a0 = a1
 ·rw [if_pos c3] at H
  have c3b0 : (a0 == a1) = true := beq_iff_eq.mpr c3
  have c3b1 : (a0 != a1) = false := bne_eq_false_iff_eq.mpr c3
  clear c3
  obtain rfl := Option.some.inj H
  go_enter Try.func116, Try.ntmps116
  go_wp2
  go_ret
  exact ⟨zq8, zq12⟩
 ·rw [if_neg c3] at H
  have c3b0 : (a0 == a1) = false := beq_eq_false_iff_ne.mpr c3
  have c3b1 : (a0 != a1) = true := bne_iff_ne.mpr c3
  by_cases c4 : a0 = (wrap64 (a1 + 1))
  ·rw [if_pos c4] at H
   have c4b0 : (a0 == (wrap64 (a1 + 1))) = true := beq_iff_eq.mpr c4
   have c4b1 : (a0 != (wrap64 (a1 + 1))) = false := bne_eq_false_iff_eq.mpr c4
   clear c4
   obtain rfl := Option.some.inj H
   go_enter Try.func116, Try.ntmps116
   go_wp2
   go_ret
   exact ⟨zq8, zq12⟩
  ·rw [if_neg c4] at H
   have c4b0 : (a0 == (wrap64 (a1 + 1))) = false := beq_eq_false_iff_ne.mpr c4
   have c4b1 : (a0 != (wrap64 (a1 + 1))) = true := bne_iff_ne.mpr c4
   obtain rfl := Option.some.inj H
   go_enter Try.func116, Try.ntmps116
   go_wp2
   go_ret
   exact ⟨zq8, zq12⟩
end
end Go.Proofs.Ytaheijeojbimeaa.PLl
