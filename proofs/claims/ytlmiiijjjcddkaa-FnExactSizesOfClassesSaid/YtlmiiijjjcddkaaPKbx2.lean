-- Written for this claim by a program of this session (myprint.py) over the kit's printer.
import Derived.Test.YtlmiiijjjcddkaaPKbx0
import Derived.Test.YtlmiiijjjcddkaaPKbx1
namespace Go.Proofs.Ytlmiiijjjcddkaa.PKb
noncomputable section
open Go.RowKit Go.Proofs.YtlmiiijjjcddkaaW.PrintWords Go.Proofs.YtlmiiijjjcddkaaW.PrintLast Go.Proofs.YtlmiiijjjcddkaaW.PrintMore
attribute [local go_sem] max2_int min2_int max_two min_two max_three min_three max_four min_four   -- for this text's walks alone
set_option maxHeartbeats 8000000
set_option maxRecDepth 100000
set_option linter.unusedVariables false
set_option linter.unusedSimpArgs false
theorem pRq2 {α : Type} {d : Kd α} {e base : Nat} {ok : Nat → Prop} {v : Value} {xs : List α} {w W : World} (h0 : Aside0 (Kd.R d e w base ok v xs)) (hp : Kd.R d e W base ok v xs := by (with_reducible repeat (first | apply Kd.R_alloc | apply Kd.R_drewN | apply Kd.R_drew)); exact Aside0.out (by with_reducible assumption)) : Kd.R d e W base ok v xs := hp
theorem pKq2 {g : Nat} {o : Obj} {w W : World} (h0 : Aside0 (w.heap[g]? = some o)) (hp : W.heap[g]? = some o := by (with_reducible repeat (first | refine blk_drewN ?_ _ | refine blk_drew ?_ | refine blk_alloc ?_ _)); exact Aside0.out (by with_reducible assumption)) : W.heap[g]? = some o := hp
theorem pBq2 {b : Nat} {w0 w W : World} (h0 : Aside0 (Below b w0 w)) (hp : Below b w0 W := by repeat (first | (with_reducible first | exact Aside0.out (by assumption) | apply below_alloc | apply pw_below_drewN | apply below_drew1 | refine below_set ?_ (Aside0.out (by assumption))))) : Below b w0 W := hp
/-! ### spec_alList: function 23 -/
mutual
def spec_alList.l0 : Nat → List Int → List (List Int) → Bool → Int → Option ((List (List Int)))
 | 0, _, _, _, _ => none
 | k + 1, x0, x3, x4, x5 => if (wrap64 (x5 + 1)) < (x0.length : Int) then (if 0 ≤ x5 then (if x5 < (x0.length : Int) then (if 0 ≤ (wrap64 (x5 + 1)) then (if (rd x0 x5) < (rd x0 (wrap64 (x5 + 1))) then (spec_alList.l0 k x0 x3 x4 (wrap64 (x5 + 1))) else ((spec_alSwap.f x0 x5).bind fun t146 => ((spec_alList.f k t146).bind fun t149 => (spec_alList.l1 k x0 x3 false x5 t149 (t149.length : Int) 0)))) else (none)) else (none)) else (none)) else (if x4 = true then (some (([[]] : List (List Int)))) else (some x3))
def spec_alList.l1 : Nat → List Int → List (List Int) → Bool → Int → List (List Int) → Int → Int → Option ((List (List Int)))
 | 0, _, _, _, _, _, _, _ => none
 | k + 1, x0, x3, x4, x5, x28, x29, x30 => if x30 < x29 then (if 0 ≤ x30 then (if x30 < (x28.length : Int) then ((some (([x5] : List Int) : List Int)).bind fun y153 => (if y153.length + (rd_L1 x28 x30).length < 17592186044416 then (if x3.length < 5864062014805 then (spec_alList.l1 k x0 (x3 ++ [(y153 ++ (rd_L1 x28 x30))]) x4 x5 x28 x29 (wrap64 (x30 + 1))) else (none)) else (none))) else (none)) else (none)) else (spec_alList.l0 k x0 x3 x4 (wrap64 (x5 + 1)))
def spec_alList.f : Nat → List Int → Option ((List (List Int)))
 | 0, _ => none
 | k + 1, l0 => spec_alList.l0 k l0 ([] : List (List Int)) true 0
end
theorem spec_alList.mono_l : ∀ k, (∀ y0, LeO (spec_alList.f k y0) (spec_alList.f (k + 1) y0)) ∧ (∀ y0 y1 y2 y3, LeO (spec_alList.l0 k y0 y1 y2 y3) (spec_alList.l0 (k + 1) y0 y1 y2 y3)) ∧ (∀ y0 y1 y2 y3 y4 y5 y6, LeO (spec_alList.l1 k y0 y1 y2 y3 y4 y5 y6) (spec_alList.l1 (k + 1) y0 y1 y2 y3 y4 y5 y6))
 | 0 => ⟨fun _ r h => by simp [spec_alList.f] at h, fun _ _ _ _ r h => by simp [spec_alList.l0] at h, fun _ _ _ _ _ _ _ r h => by simp [spec_alList.l1] at h⟩
 | k + 1 => by
  obtain ⟨ih0, ih1, ih2⟩ := spec_alList.mono_l k
  refine ⟨?_, ?_, ?_⟩
  ·intro y0
   unfold spec_alList.f
   repeat' first | (with_reducible first | exact ih0 _ | exact ih1 _ _ _ _ | exact ih2 _ _ _ _ _ _ _ | exact LeO.refl _ | exact LeO.none _ | refine LeO.ite ?_ ?_ | refine LeO.bind ?_ (fun _ => ?_))
  ·intro y0 y1 y2 y3
   unfold spec_alList.l0
   repeat' first | (with_reducible first | exact ih0 _ | exact ih1 _ _ _ _ | exact ih2 _ _ _ _ _ _ _ | exact LeO.refl _ | exact LeO.none _ | refine LeO.ite ?_ ?_ | refine LeO.bind ?_ (fun _ => ?_))
  ·intro y0 y1 y2 y3 y4 y5 y6
   unfold spec_alList.l1
   repeat' first | (with_reducible first | exact ih0 _ | exact ih1 _ _ _ _ | exact ih2 _ _ _ _ _ _ _ | exact LeO.refl _ | exact LeO.none _ | refine LeO.ite ?_ ?_ | refine LeO.bind ?_ (fun _ => ?_))
theorem spec_alList.mono : ∀ a0 k, LeO (spec_alList.f k a0) (spec_alList.f (k + 1) a0) := by
 intro a0 k
 obtain ⟨ih0, ih1, ih2⟩ := spec_alList.mono_l k
 exact ih0 a0
theorem spec_alList.calls (k : Nat) : ∀ (A0 : Option Addr) (c0 : Nat) (l0 : List Int) (r : List (List Int)) (w : World) (hr0 : Kd.C (Kd.int .i64) w A0 l0.length l0) (hc0 : l0.length ≤ c0) (h : spec_alList.f k l0 = some r),
  Calls Try.prog 23 #[.slice A0 l0.length c0] w fun e w' => ∃ v0_ : Value, e = .returned (v0_) ∧ Kd.S (Kd.slice 3 (Kd.int .i64)) 22 w' w.heap.size (fun _ => True) v0_ r ∧ Below w.heap.size w w' := by
 induction k using Nat.strongRecOn with
 | _ k ih =>
 intro A0 c0 l0 r w hr0 hc0 h
 cases k with
 | zero => exact absurd h (by simp [spec_alList.f])
 | succ k =>
 simp only [spec_alList.f] at h
 have HR0 := am hr0
 have HC0 := am hc0
 clear hr0 hc0
 have HB := am (Below.refl w.heap.size w)
 have H : (spec_alList.l0 k l0 ([] : List (List Int)) true 0) = some r := h
 clear h
 have H' := am H
 clear H
 go_enter Try.func23, Try.ntmps23
 go_wp2
 repeat (go_quiet (fail); try go_wp2)
 go_loopg [3, 4, 5] k (fun kq v3 v4 v5 w' => ∃ (x3_1 : List (List Int)) (x4_1 : Bool) (x5_1 : Int), v4 = .bool x4_1 ∧ v5 = .int .i64 x5_1 ∧ Aside0 (spec_alList.l0 kq l0 x3_1 x4_1 x5_1 = some r) ∧ Aside0 (kq ≤ k) ∧ Aside0 (Kd.S (Kd.slice 3 (Kd.int .i64)) 22 w' w.heap.size (fun _ => True) v3 x3_1) ∧ Aside0 (Below w.heap.size w w'))
 case atStart => exact ⟨(([] : List (List Int))), (true), (0), zq3, zq3, H', ⟨Nat.le_refl _⟩, ⟨by first | exact Kd.S_nil _ _ _ _ _ | exact Kd.N_nil _ _ _ _ _ | exact Kd.V_nil _ _ _ _ _ | exact Kd.Q_nil _ _ _ _ _ | exact Kd.R_nil _ _ _ _ _⟩, ⟨zq1⟩⟩
 case round =>
  clear H'
  obtain ⟨x3_1, x4_1, x5_1, rfl, rfl, HA, HK1, HO_3, HB⟩ := hrel
  cases gk with
  | zero => exact absurd HA.out (by simp [spec_alList.l0])
  | succ k1 =>
   have H := HA.out
   clear HA
   simp only [spec_alList.l0] at H
   by_cases c2 : (wrap64 (x5_1 + 1)) < (l0.length : Int)
   ·rw [if_pos c2] at H
    have c2b0 : decide ((wrap64 (x5_1 + 1)) < (l0.length : Int)) = true := decide_eq_true c2
    clear c2
    by_cases c3 : 0 ≤ x5_1
    ·rw [if_pos c3] at H
     have c3b0 : decide (0 ≤ x5_1) = true := decide_eq_true c3
     clear c3
     by_cases c4 : x5_1 < (l0.length : Int)
     ·rw [if_pos c4] at H
      have c4b0 : decide (x5_1 < (l0.length : Int)) = true := decide_eq_true c4
      clear c4
      obtain ⟨ji5, hji5⟩ : ∃ j_ : Int, (wrap64 (x5_1 + 1)) = j_ := ⟨_, rfl⟩
      replace H : (if 0 ≤ (ji5) then (if (rd l0 x5_1) < (rd l0 (ji5)) then (spec_alList.l0 k1 l0 x3_1 x4_1 ji5) else ((spec_alSwap.f l0 x5_1).bind fun t146 => ((spec_alList.f k1 t146).bind fun t149 => (spec_alList.l1 k1 l0 x3_1 false x5_1 t149 (t149.length : Int) 0)))) else (none)) = some r := zq84
      (try rw [hji5] at c2b0)
      have hji5w : (IntKind.i64.wrap (x5_1 + 1)) = ji5 := (i64_w _).trans hji5
      by_cases c6 : 0 ≤ (ji5)
      ·rw [if_pos c6] at H
       have c6b0 : decide (0 ≤ (ji5)) = true := decide_eq_true c6
       clear c6
       by_cases c7 : (rd l0 x5_1) < (rd l0 (ji5))
       ·rw [if_pos c7] at H
        have c7b0 : decide ((rd l0 x5_1) < (rd l0 (ji5))) = true := decide_eq_true c7
        clear c7
        have H' := am H
        clear H
        have p144 : 0 ≤ (x5_1 : Int) := of_decide_eq_true zq0
        have q144 : x5_1 < (l0.length : Int) := of_decide_eq_true zq0
        obtain ⟨ad144, e144, hx144_0⟩ := Kd.at_int HR0.out x5_1 p144 q144
        cases e144
        replace hx144_0 := (HB.out.cell (World.block_lt_of_cell? w _ hx144_0)).trans hx144_0
        replace p144 := eq_true p144
        replace q144 := eq_true q144
        have p145 : 0 ≤ ((ji5) : Int) := of_decide_eq_true zq0
        have q145 : (ji5) < (l0.length : Int) := of_decide_eq_true zq0
        obtain ⟨ad145, e145, hx145_0⟩ := Kd.at_int HR0.out (ji5) p145 q145
        obtain rfl : ad144 = ad145 := (by injection e145)
        replace hx145_0 := (HB.out.cell (World.block_lt_of_cell? w _ hx145_0)).trans hx145_0
        replace p145 := eq_true p145
        replace q145 := eq_true q145
        go_wp2
        repeat (go_quiet (fail); try go_wp2)
        go_roundg k1
        case measure => have := HK1.out; omega
        case rel => exact ⟨(x3_1), (x4_1), (ji5), zq3, (by first | rfl | (simp; done) | (simp only [← hji5] <;> (first | rfl | simp)) | (simp [*]; done)), H', ⟨zq32⟩, ⟨zq5⟩, ⟨zq1⟩⟩
       ·rw [if_neg c7] at H
        have c7b0 : decide ((rd l0 x5_1) < (rd l0 (ji5))) = false := decide_eq_false c7
        clear c7
        obtain ⟨t146, A8, H⟩ := zS H
        (try dsimp only at H)
        obtain ⟨t149, A9, H⟩ := zS H
        (try dsimp only at H)
        have H' := am H
        clear H
        have p144 : 0 ≤ (x5_1 : Int) := of_decide_eq_true zq0
        have q144 : x5_1 < (l0.length : Int) := of_decide_eq_true zq0
        obtain ⟨ad144, e144, hx144_0⟩ := Kd.at_int HR0.out x5_1 p144 q144
        cases e144
        replace hx144_0 := (HB.out.cell (World.block_lt_of_cell? w _ hx144_0)).trans hx144_0
        replace p144 := eq_true p144
        replace q144 := eq_true q144
        have p145 : 0 ≤ ((ji5) : Int) := of_decide_eq_true zq0
        have q145 : (ji5) < (l0.length : Int) := of_decide_eq_true zq0
        obtain ⟨ad145, e145, hx145_0⟩ := Kd.at_int HR0.out (ji5) p145 q145
        obtain rfl : ad144 = ad145 := (by injection e145)
        replace hx145_0 := (HB.out.cell (World.block_lt_of_cell? w _ hx145_0)).trans hx145_0
        replace p145 := eq_true p145
        replace q145 := eq_true q145
        go_wp2_with (first | (go_at_call 36; (with_reducible refine (spec_alSwap.calls _ _ l0 x5_1 t146 _ ?side1 ?side2 A8.out).mono ?_); (case side1 => exact zq7); (case side2 => exact HC0.out); rintro e w10 ⟨v147, rfl, ho0, hb⟩; have HO148 := am (Kd.R_lower ho0 (below_size (pBq2 HB))); replace HO_3 := am (Kd.S_elder' zq5 (Kd.R_base ho0) hb); replace HB := am (below_step (pBq2 HB) hb); (try clear hb ho0); obtain ⟨Ao11, co11, eo11⟩ := Kd.R_slice HO148.out; subst eo11) | (go_at_call 23; (with_reducible refine (ih k1 zq32 _ _ t146 t149 _ ?side1 ?side2 A9.out).mono ?_); (case side1 => exact zq35); (case side2 => exact (Kd.R_reads' HO148.out).2.1); rintro e w12 ⟨v150, rfl, ho0, hb⟩; have HO151 := am (Kd.S_lower (Kd.S_new' (Kd.S_new' ho0 (Kd.S_lt zq5)) (Kd.R_lt (pRq2 HO148))) (below_size (pBq2 HB))); replace HO_3 := am (Kd.S_elder' zq5 (Kd.S_base ho0) hb); replace HO148 := am (Kd.R_below (pRq2 HO148) hb); replace HB := am (below_step (pBq2 HB) hb); (try clear hb ho0); obtain ⟨Ao13, co13, eo13⟩ := Kd.S_slice HO151.out; subst eo13))
        repeat (go_quiet (first | (go_at_call 36; (with_reducible refine (spec_alSwap.calls _ _ l0 x5_1 t146 _ ?side1 ?side2 A8.out).mono ?_); (case side1 => exact zq7); (case side2 => exact HC0.out); rintro e w10 ⟨v147, rfl, ho0, hb⟩; have HO148 := am (Kd.R_lower ho0 (below_size (pBq2 HB))); replace HO_3 := am (Kd.S_elder' zq5 (Kd.R_base ho0) hb); replace HB := am (below_step (pBq2 HB) hb); (try clear hb ho0); obtain ⟨Ao11, co11, eo11⟩ := Kd.R_slice HO148.out; subst eo11) | (go_at_call 23; (with_reducible refine (ih k1 zq32 _ _ t146 t149 _ ?side1 ?side2 A9.out).mono ?_); (case side1 => exact zq35); (case side2 => exact (Kd.R_reads' HO148.out).2.1); rintro e w12 ⟨v150, rfl, ho0, hb⟩; have HO151 := am (Kd.S_lower (Kd.S_new' (Kd.S_new' ho0 (Kd.S_lt zq5)) (Kd.R_lt (pRq2 HO148))) (below_size (pBq2 HB))); replace HO_3 := am (Kd.S_elder' zq5 (Kd.S_base ho0) hb); replace HO148 := am (Kd.R_below (pRq2 HO148) hb); replace HB := am (below_step (pBq2 HB) hb); (try clear hb ho0); obtain ⟨Ao13, co13, eo13⟩ := Kd.S_slice HO151.out; subst eo13)); try go_wp2_with (first | (go_at_call 36; (with_reducible refine (spec_alSwap.calls _ _ l0 x5_1 t146 _ ?side1 ?side2 A8.out).mono ?_); (case side1 => exact zq7); (case side2 => exact HC0.out); rintro e w10 ⟨v147, rfl, ho0, hb⟩; have HO148 := am (Kd.R_lower ho0 (below_size (pBq2 HB))); replace HO_3 := am (Kd.S_elder' zq5 (Kd.R_base ho0) hb); replace HB := am (below_step (pBq2 HB) hb); (try clear hb ho0); obtain ⟨Ao11, co11, eo11⟩ := Kd.R_slice HO148.out; subst eo11) | (go_at_call 23; (with_reducible refine (ih k1 zq32 _ _ t146 t149 _ ?side1 ?side2 A9.out).mono ?_); (case side1 => exact zq35); (case side2 => exact (Kd.R_reads' HO148.out).2.1); rintro e w12 ⟨v150, rfl, ho0, hb⟩; have HO151 := am (Kd.S_lower (Kd.S_new' (Kd.S_new' ho0 (Kd.S_lt zq5)) (Kd.R_lt (pRq2 HO148))) (below_size (pBq2 HB))); replace HO_3 := am (Kd.S_elder' zq5 (Kd.S_base ho0) hb); replace HO148 := am (Kd.R_below (pRq2 HO148) hb); replace HB := am (below_step (pBq2 HB) hb); (try clear hb ho0); obtain ⟨Ao13, co13, eo13⟩ := Kd.S_slice HO151.out; subst eo13)))
        go_loopg [3, 30] k1 (fun kq v3 v30 w' => ∃ (x3_2 : List (List Int)) (x30_2 : Int), v30 = .int .i64 x30_2 ∧ Aside0 (spec_alList.l1 kq l0 x3_2 false x5_1 t149 (t149.length : Int) x30_2 = some r) ∧ Aside0 (kq ≤ k1) ∧ Aside0 (Kd.S (Kd.slice 3 (Kd.int .i64)) 22 w' w.heap.size (fun k_ => some k_ ≠ ((.slice Ao13 t149.length co13) : Value).ownBlock) v3 x3_2) ∧ Aside0 (Kd.S (Kd.slice 3 (Kd.int .i64)) 22 w' w.heap.size (fun k_ => some k_ ≠ (v3 : Value).ownBlock) (.slice Ao13 t149.length co13) t149) ∧ Aside0 (Below w.heap.size w w'))
        case atStart => exact ⟨(x3_1), (0), zq3, H', ⟨Nat.le_refl _⟩, ⟨by (with_reducible repeat (first | apply Kd.S_alloc | apply Kd.S_drewN | apply Kd.S_drew)); exact Kd.S_mono HO_3.out (fun _ hk => hk.2)⟩, ⟨by (with_reducible repeat (first | apply Kd.S_alloc | apply Kd.S_drewN | apply Kd.S_drew)); exact Kd.S_mono HO151.out (fun _ hk => hk.1.2)⟩, ⟨zq1⟩⟩
        case round =>
         clear H'
         try clear p1
         try clear q1
         try clear hx1
         try clear c2
         try clear c2b0
         try clear p2
         try clear c3
         try clear c3b0
         try clear c4
         try clear c4b0
         try clear c6
         try clear c6b0
         try clear p6
         try clear c7
         try clear c7b0
         try clear hx144_0
         try clear hx145_0
         try clear p144
         try clear p145
         try clear q144
         try clear q145
         obtain ⟨x3_2, x30_2, rfl, HA, HK2, HO_3, HO_28, HB⟩ := hrel
         cases gk with
         | zero => exact absurd HA.out (by simp [spec_alList.l1])
         | succ k2 =>
          have H := HA.out
          clear HA
          simp only [spec_alList.l1] at H
          by_cases c14 : x30_2 < (t149.length : Int)
          ·rw [if_pos c14] at H
           have c14b0 : decide (x30_2 < (t149.length : Int)) = true := decide_eq_true c14
           clear c14
           by_cases c15 : 0 ≤ x30_2
           ·rw [if_pos c15] at H
            have c15b0 : decide (0 ≤ x30_2) = true := decide_eq_true c15
            clear c15
            by_cases c16 : x30_2 < (t149.length : Int)
            ·rw [if_pos c16] at H
             have c16b0 : decide (x30_2 < (t149.length : Int)) = true := decide_eq_true c16
             clear c16
             obtain ⟨y153, hy153⟩ : ∃ y_ : List Int, y_ = (([x5_1] : List Int)) := ⟨_, rfl⟩
             replace H : (if y153.length + (rd_L1 t149 x30_2).length < 17592186044416 then (if x3_2.length < 5864062014805 then (spec_alList.l1 k2 l0 (x3_2 ++ [(y153 ++ (rd_L1 t149 x30_2))]) false x5_1 t149 (t149.length : Int) (wrap64 (x30_2 + 1))) else (none)) else (none)) = some r := by first | (rw [hy153]; exact zH) | exact zH
             have Ny153 := am hy153
             clear hy153
             by_cases c17 : y153.length + (rd_L1 t149 x30_2).length < 17592186044416
             ·rw [if_pos c17] at H
              have LMc17 := am c17
              clear c17
              obtain ⟨y156, hy156⟩ : ∃ y_ : List Int, y_ = (y153 ++ (rd_L1 t149 x30_2)) := ⟨_, rfl⟩
              replace H : (if x3_2.length < 5864062014805 then (spec_alList.l1 k2 l0 (x3_2 ++ [y156]) false x5_1 t149 (t149.length : Int) (wrap64 (x30_2 + 1))) else (none)) = some r := by first | (rw [hy156]; exact zH) | exact zH
              have Ny156 := am hy156
              clear hy156
              by_cases c18 : x3_2.length < 5864062014805
              ·rw [if_pos c18] at H
               have LMc18 := am c18
               clear c18
               obtain ⟨y159, hy159⟩ : ∃ y_ : List (List Int), y_ = (x3_2 ++ [y156]) := ⟨_, rfl⟩
               replace H : (spec_alList.l1 k2 l0 y159 false x5_1 t149 (t149.length : Int) (wrap64 (x30_2 + 1))) = some r := by first | (rw [hy159]; exact zH) | exact zH
               have Ny159 := am hy159
               clear hy159
               have H' := am H
               clear H
               have p152 : 0 ≤ (x30_2 : Int) := of_decide_eq_true zq0
               have q152 : x30_2 < (t149.length : Int) := of_decide_eq_true zq0
               obtain ⟨ad152, A152_0, c152_0, e152, hx152_0, hl152_0, hi152_0⟩ := at_L1 (Kd.S_reads' HO_28.out).2.2 x30_2 p152 q152
               cases e152
               obtain ⟨ce152, hce152, hMe152, hcc152⟩ := Kd.S_get HO_28.out [] x30_2 p152 (by first | exact q152 | exact of_decide_eq_true zq0 | (have e_ := (Kd.S_reads' HO_28.out).1; omega))
               obtain ⟨ve152_0, rfl, ge152_0⟩ := hMe152
               have hv152_0 := hcc152 0 _ rfl
               rw [Nat.add_zero, show ((Kd.slice 3 (Kd.int .i64))).sz = 1 from rfl, Nat.mul_one] at hv152_0
               replace hv152_0 := Option.some.inj (hv152_0.symm.trans hx152_0)
               rw [hv152_0] at ge152_0
               have HL152_0 := am (show Kd.R (Kd.int .i64) 3 _ _ _ _ (rd_L1 t149 x30_2) from ge152_0)
               clear hv152_0 ge152_0
               clear hcc152 hce152
               have HR152_0 := am hi152_0
               have HC152_0 := am hl152_0
               clear hi152_0 hl152_0
               replace p152 := eq_true p152
               replace q152 := eq_true q152
               go_wp2_with (first | ((with_reducible refine gate_dst (N := 36) rfl ?_); refine Kd.R_lit (Kd.int .i64) _ 3 ?hg (N := 36) ?hd (xs := ([x5_1] : List Int)) (inner := [.int .i64 x5_1]) (ok := fun _ => True) (okp := fun _ => True) ?hr ?hp (fun _ hk => hk) trivial (Below.refl _ _) (Nat.le_refl _) zq24 ?_; (case hd => rfl); (case hg => rfl); (case hr => exact zq8); (case hp => exact zq71); intro v154 w19 ho20 hb hg_ hnew_; clear hg_ hnew_; (first | rw [← Ny153.out] at ho20 | (simp only [Int.reduceToNat] at ho20; rw [← Ny153.out] at ho20)); have HO155 := am (Kd.R_lower (Kd.R_new' ho20 (Kd.R_lt zq11)) (below_size (pBq2 HB))); replace HO_3 := am (Kd.S_elder' zq5 (Kd.R_base ho20) hb); replace HO_28 := am (Kd.S_elder' zq19 (Kd.R_base ho20) hb); replace HL152_0 := am (Kd.R_elder' zq11 (Kd.R_base ho20) hb); replace HR152_0 := am (Kd.C_below zq15 hb); replace HB := am (below_step (pBq2 HB) hb); clear hb ho20) | ((with_reducible refine gate_builtin (b := .append) (xs := #[.tmp 36, .tmp 37]) rfl ?_); at_builtin; refine Kd.R_append_rows (Kd.int .i64) (w0 := w) w.heap.size rfl (.tmp 36) (.tmp 37) 22 3 (.int .i64 0) 8 rfl Try.underlying22 info3 rfl zq33 zq10 v154 y153 (rd_L1 t149 x30_2) _ _ _ (fun k_ => some k_ ≠ (.slice A152_0 (rd_L1 t149 x30_2).length c152_0 : Value).ownBlock) (fun _ => False) rfl rfl ?aO ?aR (fun _ _ h => h) (fun _ h => h.elim) ?aF ?aB ?aS ?aL ?_; (case aR => exact zq50); (case aB => exact (pBq2 HB)); (case aF => exact (fun k_ hk => Kd.fresh' (Kd.R_lt zq11) k_ hk)); (case aO => exact zq51); (case aS => exact (below_size (pBq2 HB))); (case aL => have := LMc17.out; omega); intro v157 w21 ho hb hg hat; rw [← Ny156.out] at ho; have HO158 := am (ho); replace HO_3 := am (Kd.S_after (ok := (fun k_ => some k_ ≠ (.slice (some ad152) t149.length co13 : Value).ownBlock)) zq5 hg hat); replace HO_28 := am (Kd.S_after (ok := (fun k_ => some k_ ≠ (u3 : Value).ownBlock)) zq19 hg hat); replace HL152_0 := am (Kd.R_after (ok := (fun k_ => some k_ ≠ (u3 : Value).ownBlock ∧ some k_ ≠ (.slice (some ad152) t149.length co13 : Value).ownBlock)) zq11 hg hat); replace HB := am (hb); clear HO155; clear ho hb hg hat; obtain ⟨Ao23, co23, eo23⟩ := Kd.R_slice HO158.out; subst eo23) | ((with_reducible refine gate_builtin (b := .append) (xs := #[.tmp 34, .tmp 39]) rfl ?_); at_builtin; refine Kd.S_append (Kd.slice 3 (Kd.int .i64)) (w0 := w) w.heap.size rfl (.tmp 34) (.tmp 39) 34 22 (.slice none 0 0) 24 rfl Try.underlying34 info22 rfl zq33 zq10 u3 x3_2 y156 [.slice Ao23 y156.length co23] (fun k_ => some k_ ≠ (.slice (some ad152) t149.length co13 : Value).ownBlock) (fun k_ => some k_ = (.slice Ao23 y156.length co23 : Value).ownBlock) rfl rfl ?aP (fun k_ hk_ => ((Kd.R_mono (ok' := fun k_ => ((fun k_ => some k_ ≠ (.slice (some ad152) t149.length co13 : Value).ownBlock)) k_ ∧ some k_ ≠ (u3 : Value).ownBlock) (Kd.R_apart' (Kd.R_apart' (HO158.out) (Kd.S_typed HO_28.out) zq33) (Kd.S_typed HO_3.out) zq33) (fun k_ hk => ⟨hk.1.2, hk.2⟩))).1 k_ hk_.symm) ?aF ?aO ?aB ?aS ?aL ?_; (case aP => exact zq22); (case aB => exact (pBq2 HB)); (case aF => exact (fun k_ hk => Kd.fresh' (Kd.S_lt zq19) k_ hk)); (case aO => exact zq37); (case aS => exact (below_size (pBq2 HB))); (case aL => have := LMc18.out; omega); intro v160 w22 ho hb hg hat; rw [← Ny159.out] at ho; have HO161 := am (ho); replace HO_28 := am (Kd.S_after (ok := (fun k_ => some k_ ≠ (.slice Ao23 y156.length co23 : Value).ownBlock)) zq46 hg hat); replace HL152_0 := am (Kd.R_after (ok := (fun k_ => some k_ ≠ (.slice (some ad152) t149.length co13 : Value).ownBlock ∧ some k_ ≠ (.slice Ao23 y156.length co23 : Value).ownBlock)) zq36 hg hat); replace HB := am (hb); clear HO_3 HO158; clear ho hb hg hat))
               repeat (go_quiet (first | ((with_reducible refine gate_dst (N := 36) rfl ?_); refine Kd.R_lit (Kd.int .i64) _ 3 ?hg (N := 36) ?hd (xs := ([x5_1] : List Int)) (inner := [.int .i64 x5_1]) (ok := fun _ => True) (okp := fun _ => True) ?hr ?hp (fun _ hk => hk) trivial (Below.refl _ _) (Nat.le_refl _) zq24 ?_; (case hd => rfl); (case hg => rfl); (case hr => exact zq8); (case hp => exact zq71); intro v154 w19 ho20 hb hg_ hnew_; clear hg_ hnew_; (first | rw [← Ny153.out] at ho20 | (simp only [Int.reduceToNat] at ho20; rw [← Ny153.out] at ho20)); have HO155 := am (Kd.R_lower (Kd.R_new' ho20 (Kd.R_lt zq11)) (below_size (pBq2 HB))); replace HO_3 := am (Kd.S_elder' zq5 (Kd.R_base ho20) hb); replace HO_28 := am (Kd.S_elder' zq19 (Kd.R_base ho20) hb); replace HL152_0 := am (Kd.R_elder' zq11 (Kd.R_base ho20) hb); replace HR152_0 := am (Kd.C_below zq15 hb); replace HB := am (below_step (pBq2 HB) hb); clear hb ho20) | ((with_reducible refine gate_builtin (b := .append) (xs := #[.tmp 36, .tmp 37]) rfl ?_); at_builtin; refine Kd.R_append_rows (Kd.int .i64) (w0 := w) w.heap.size rfl (.tmp 36) (.tmp 37) 22 3 (.int .i64 0) 8 rfl Try.underlying22 info3 rfl zq33 zq10 v154 y153 (rd_L1 t149 x30_2) _ _ _ (fun k_ => some k_ ≠ (.slice A152_0 (rd_L1 t149 x30_2).length c152_0 : Value).ownBlock) (fun _ => False) rfl rfl ?aO ?aR (fun _ _ h => h) (fun _ h => h.elim) ?aF ?aB ?aS ?aL ?_; (case aR => exact zq50); (case aB => exact (pBq2 HB)); (case aF => exact (fun k_ hk => Kd.fresh' (Kd.R_lt zq11) k_ hk)); (case aO => exact zq51); (case aS => exact (below_size (pBq2 HB))); (case aL => have := LMc17.out; omega); intro v157 w21 ho hb hg hat; rw [← Ny156.out] at ho; have HO158 := am (ho); replace HO_3 := am (Kd.S_after (ok := (fun k_ => some k_ ≠ (.slice (some ad152) t149.length co13 : Value).ownBlock)) zq5 hg hat); replace HO_28 := am (Kd.S_after (ok := (fun k_ => some k_ ≠ (u3 : Value).ownBlock)) zq19 hg hat); replace HL152_0 := am (Kd.R_after (ok := (fun k_ => some k_ ≠ (u3 : Value).ownBlock ∧ some k_ ≠ (.slice (some ad152) t149.length co13 : Value).ownBlock)) zq11 hg hat); replace HB := am (hb); clear HO155; clear ho hb hg hat; obtain ⟨Ao23, co23, eo23⟩ := Kd.R_slice HO158.out; subst eo23) | ((with_reducible refine gate_builtin (b := .append) (xs := #[.tmp 34, .tmp 39]) rfl ?_); at_builtin; refine Kd.S_append (Kd.slice 3 (Kd.int .i64)) (w0 := w) w.heap.size rfl (.tmp 34) (.tmp 39) 34 22 (.slice none 0 0) 24 rfl Try.underlying34 info22 rfl zq33 zq10 u3 x3_2 y156 [.slice Ao23 y156.length co23] (fun k_ => some k_ ≠ (.slice (some ad152) t149.length co13 : Value).ownBlock) (fun k_ => some k_ = (.slice Ao23 y156.length co23 : Value).ownBlock) rfl rfl ?aP (fun k_ hk_ => ((Kd.R_mono (ok' := fun k_ => ((fun k_ => some k_ ≠ (.slice (some ad152) t149.length co13 : Value).ownBlock)) k_ ∧ some k_ ≠ (u3 : Value).ownBlock) (Kd.R_apart' (Kd.R_apart' (HO158.out) (Kd.S_typed HO_28.out) zq33) (Kd.S_typed HO_3.out) zq33) (fun k_ hk => ⟨hk.1.2, hk.2⟩))).1 k_ hk_.symm) ?aF ?aO ?aB ?aS ?aL ?_; (case aP => exact zq22); (case aB => exact (pBq2 HB)); (case aF => exact (fun k_ hk => Kd.fresh' (Kd.S_lt zq19) k_ hk)); (case aO => exact zq37); (case aS => exact (below_size (pBq2 HB))); (case aL => have := LMc18.out; omega); intro v160 w22 ho hb hg hat; rw [← Ny159.out] at ho; have HO161 := am (ho); replace HO_28 := am (Kd.S_after (ok := (fun k_ => some k_ ≠ (.slice Ao23 y156.length co23 : Value).ownBlock)) zq46 hg hat); replace HL152_0 := am (Kd.R_after (ok := (fun k_ => some k_ ≠ (.slice (some ad152) t149.length co13 : Value).ownBlock ∧ some k_ ≠ (.slice Ao23 y156.length co23 : Value).ownBlock)) zq36 hg hat); replace HB := am (hb); clear HO_3 HO158; clear ho hb hg hat)); try go_wp2_with (first | ((with_reducible refine gate_dst (N := 36) rfl ?_); refine Kd.R_lit (Kd.int .i64) _ 3 ?hg (N := 36) ?hd (xs := ([x5_1] : List Int)) (inner := [.int .i64 x5_1]) (ok := fun _ => True) (okp := fun _ => True) ?hr ?hp (fun _ hk => hk) trivial (Below.refl _ _) (Nat.le_refl _) zq24 ?_; (case hd => rfl); (case hg => rfl); (case hr => exact zq8); (case hp => exact zq71); intro v154 w19 ho20 hb hg_ hnew_; clear hg_ hnew_; (first | rw [← Ny153.out] at ho20 | (simp only [Int.reduceToNat] at ho20; rw [← Ny153.out] at ho20)); have HO155 := am (Kd.R_lower (Kd.R_new' ho20 (Kd.R_lt zq11)) (below_size (pBq2 HB))); replace HO_3 := am (Kd.S_elder' zq5 (Kd.R_base ho20) hb); replace HO_28 := am (Kd.S_elder' zq19 (Kd.R_base ho20) hb); replace HL152_0 := am (Kd.R_elder' zq11 (Kd.R_base ho20) hb); replace HR152_0 := am (Kd.C_below zq15 hb); replace HB := am (below_step (pBq2 HB) hb); clear hb ho20) | ((with_reducible refine gate_builtin (b := .append) (xs := #[.tmp 36, .tmp 37]) rfl ?_); at_builtin; refine Kd.R_append_rows (Kd.int .i64) (w0 := w) w.heap.size rfl (.tmp 36) (.tmp 37) 22 3 (.int .i64 0) 8 rfl Try.underlying22 info3 rfl zq33 zq10 v154 y153 (rd_L1 t149 x30_2) _ _ _ (fun k_ => some k_ ≠ (.slice A152_0 (rd_L1 t149 x30_2).length c152_0 : Value).ownBlock) (fun _ => False) rfl rfl ?aO ?aR (fun _ _ h => h) (fun _ h => h.elim) ?aF ?aB ?aS ?aL ?_; (case aR => exact zq50); (case aB => exact (pBq2 HB)); (case aF => exact (fun k_ hk => Kd.fresh' (Kd.R_lt zq11) k_ hk)); (case aO => exact zq51); (case aS => exact (below_size (pBq2 HB))); (case aL => have := LMc17.out; omega); intro v157 w21 ho hb hg hat; rw [← Ny156.out] at ho; have HO158 := am (ho); replace HO_3 := am (Kd.S_after (ok := (fun k_ => some k_ ≠ (.slice (some ad152) t149.length co13 : Value).ownBlock)) zq5 hg hat); replace HO_28 := am (Kd.S_after (ok := (fun k_ => some k_ ≠ (u3 : Value).ownBlock)) zq19 hg hat); replace HL152_0 := am (Kd.R_after (ok := (fun k_ => some k_ ≠ (u3 : Value).ownBlock ∧ some k_ ≠ (.slice (some ad152) t149.length co13 : Value).ownBlock)) zq11 hg hat); replace HB := am (hb); clear HO155; clear ho hb hg hat; obtain ⟨Ao23, co23, eo23⟩ := Kd.R_slice HO158.out; subst eo23) | ((with_reducible refine gate_builtin (b := .append) (xs := #[.tmp 34, .tmp 39]) rfl ?_); at_builtin; refine Kd.S_append (Kd.slice 3 (Kd.int .i64)) (w0 := w) w.heap.size rfl (.tmp 34) (.tmp 39) 34 22 (.slice none 0 0) 24 rfl Try.underlying34 info22 rfl zq33 zq10 u3 x3_2 y156 [.slice Ao23 y156.length co23] (fun k_ => some k_ ≠ (.slice (some ad152) t149.length co13 : Value).ownBlock) (fun k_ => some k_ = (.slice Ao23 y156.length co23 : Value).ownBlock) rfl rfl ?aP (fun k_ hk_ => ((Kd.R_mono (ok' := fun k_ => ((fun k_ => some k_ ≠ (.slice (some ad152) t149.length co13 : Value).ownBlock)) k_ ∧ some k_ ≠ (u3 : Value).ownBlock) (Kd.R_apart' (Kd.R_apart' (HO158.out) (Kd.S_typed HO_28.out) zq33) (Kd.S_typed HO_3.out) zq33) (fun k_ hk => ⟨hk.1.2, hk.2⟩))).1 k_ hk_.symm) ?aF ?aO ?aB ?aS ?aL ?_; (case aP => exact zq22); (case aB => exact (pBq2 HB)); (case aF => exact (fun k_ hk => Kd.fresh' (Kd.S_lt zq19) k_ hk)); (case aO => exact zq37); (case aS => exact (below_size (pBq2 HB))); (case aL => have := LMc18.out; omega); intro v160 w22 ho hb hg hat; rw [← Ny159.out] at ho; have HO161 := am (ho); replace HO_28 := am (Kd.S_after (ok := (fun k_ => some k_ ≠ (.slice Ao23 y156.length co23 : Value).ownBlock)) zq46 hg hat); replace HL152_0 := am (Kd.R_after (ok := (fun k_ => some k_ ≠ (.slice (some ad152) t149.length co13 : Value).ownBlock ∧ some k_ ≠ (.slice Ao23 y156.length co23 : Value).ownBlock)) zq36 hg hat); replace HB := am (hb); clear HO_3 HO158; clear ho hb hg hat)))
               go_roundg k2
               case measure => have := HK1.out; have := HK2.out; omega
               case rel => exact ⟨(y159), (wrap64 (x30_2 + 1)), zq3, H', ⟨zq64⟩, ⟨by (with_reducible repeat (first | apply Kd.S_alloc | apply Kd.S_drewN | apply Kd.S_drew)); exact HO161.out⟩, ⟨by (with_reducible repeat (first | apply Kd.S_alloc | apply Kd.S_drewN | apply Kd.S_drew)); exact Kd.S_mono HO_28.out (fun _ hk => hk.2)⟩, ⟨zq1⟩⟩
              ·rw [if_neg c18] at H
               exact absurd H zq24
             ·rw [if_neg c17] at H
              exact absurd H zq24
            ·rw [if_neg c16] at H
             exact absurd H zq24
           ·rw [if_neg c15] at H
            exact absurd H zq24
          ·rw [if_neg c14] at H
           have c14b0 : decide (x30_2 < (t149.length : Int)) = false := decide_eq_false c14
           clear c14
           have H' := am H
           clear H
           go_wp2
           repeat (go_quiet (fail); try go_wp2)
           go_roundg k2
           case measure => have := HK1.out; have := HK2.out; omega
           case rel => exact ⟨(x3_2), (false), (wrap64 (x5_1 + 1)), zq3, zq3, H', ⟨zq64⟩, ⟨by (with_reducible repeat (first | apply Kd.S_alloc | apply Kd.S_drewN | apply Kd.S_drew)); exact Kd.S_mono HO_3.out (fun _ hk => trivial)⟩, ⟨zq1⟩⟩
      ·rw [if_neg c6] at H
       exact absurd H zq24
     ·rw [if_neg c4] at H
      exact absurd H zq24
    ·rw [if_neg c3] at H
     exact absurd H zq24
   ·rw [if_neg c2] at H
    have c2b0 : decide ((wrap64 (x5_1 + 1)) < (l0.length : Int)) = false := decide_eq_false c2
    clear c2
    by_cases c24 : x4_1 = true
    ·subst c24
     rw [if_pos rfl] at H
     obtain ⟨y141, hy141⟩ : ∃ y_ : List (List Int), y_ = (([[]] : List (List Int))) := ⟨_, rfl⟩
     replace H : (some y141) = some r := by first | (rw [hy141]; exact zH) | exact zH
     have Ny141 := am hy141
     clear hy141
     obtain rfl := Option.some.inj H
     go_wp2_with (first | ((with_reducible refine gate_dst (N := 43) rfl ?_); refine Kd.S_lit (Kd.slice 3 (Kd.int .i64)) _ 22 ?hg (N := 43) ?hd (xs := ([[]] : List (List Int))) (inner := [.slice none 0 0]) (ok := fun _ => True) (okp := fun _ => True) ?hr ?hp (fun _ hk => hk) trivial (Below.refl _ _) (Nat.le_refl _) zq24 ?_; (case hd => rfl); (case hg => rfl); (case hr => exact zq8); (case hp => exact zq55); intro v142 w25 ho26 hb hg_ hnew_; clear hg_ hnew_; (first | rw [← Ny141.out] at ho26 | (simp only [Int.reduceToNat] at ho26; rw [← Ny141.out] at ho26)); have HO143 := am (Kd.S_lower (Kd.S_new' ho26 (Kd.S_lt zq5)) (below_size (pBq2 HB))); replace HO_3 := am (Kd.S_elder' zq5 (Kd.S_base ho26) hb); replace HB := am (below_step (pBq2 HB) hb); clear hb ho26))
     repeat (go_quiet (first | ((with_reducible refine gate_dst (N := 43) rfl ?_); refine Kd.S_lit (Kd.slice 3 (Kd.int .i64)) _ 22 ?hg (N := 43) ?hd (xs := ([[]] : List (List Int))) (inner := [.slice none 0 0]) (ok := fun _ => True) (okp := fun _ => True) ?hr ?hp (fun _ hk => hk) trivial (Below.refl _ _) (Nat.le_refl _) zq24 ?_; (case hd => rfl); (case hg => rfl); (case hr => exact zq8); (case hp => exact zq55); intro v142 w25 ho26 hb hg_ hnew_; clear hg_ hnew_; (first | rw [← Ny141.out] at ho26 | (simp only [Int.reduceToNat] at ho26; rw [← Ny141.out] at ho26)); have HO143 := am (Kd.S_lower (Kd.S_new' ho26 (Kd.S_lt zq5)) (below_size (pBq2 HB))); replace HO_3 := am (Kd.S_elder' zq5 (Kd.S_base ho26) hb); replace HB := am (below_step (pBq2 HB) hb); clear hb ho26)); try go_wp2_with (first | ((with_reducible refine gate_dst (N := 43) rfl ?_); refine Kd.S_lit (Kd.slice 3 (Kd.int .i64)) _ 22 ?hg (N := 43) ?hd (xs := ([[]] : List (List Int))) (inner := [.slice none 0 0]) (ok := fun _ => True) (okp := fun _ => True) ?hr ?hp (fun _ hk => hk) trivial (Below.refl _ _) (Nat.le_refl _) zq24 ?_; (case hd => rfl); (case hg => rfl); (case hr => exact zq8); (case hp => exact zq55); intro v142 w25 ho26 hb hg_ hnew_; clear hg_ hnew_; (first | rw [← Ny141.out] at ho26 | (simp only [Int.reduceToNat] at ho26; rw [← Ny141.out] at ho26)); have HO143 := am (Kd.S_lower (Kd.S_new' ho26 (Kd.S_lt zq5)) (below_size (pBq2 HB))); replace HO_3 := am (Kd.S_elder' zq5 (Kd.S_base ho26) hb); replace HB := am (below_step (pBq2 HB) hb); clear hb ho26)))
     go_ret
     exact ⟨_, zq6, by (with_reducible repeat (first | apply Kd.S_alloc | apply Kd.S_drewN | apply Kd.S_drew)); exact Kd.S_mono HO143.out (fun _ hk => trivial), zq1⟩
    ·replace c24 := Bool.eq_false_iff.mpr c24
     subst c24
     rw [if_neg (show ¬ (false = true) by decide)] at H
     obtain rfl := Option.some.inj H
     go_wp2
     repeat (go_quiet (fail); try go_wp2)
     go_ret
     exact ⟨_, zq6, zq5, zq1⟩
/-! ### spec_alAsked: function 16 -/
open Classical in
noncomputable def spec_alAsked.ev {α : Type} (g : Nat → Option α) : Option α := if h : ∃ k r, g k = some r then g h.choose else none
theorem spec_alAsked.ev_some {α : Type} {g : Nat → Option α} {r : α} (h : spec_alAsked.ev g = some r) : ∃ k, g k = some r := by
 unfold spec_alAsked.ev at h
 split at h
 ·exact ⟨_, h⟩
 ·cases h
noncomputable def spec_alAsked.f (l0 : List Int) : Option ((List (List Int)) × Bool) := (spec_alAsked.ev fun k => spec_alGood.f k l0).bind fun t => if t = true then (if l0.length ≤ 8 then (spec_alCounter_count.f (spec_alNew.fc l0.length) l0).bind fun r => if r > 800 then some ([], false) else (spec_alAsked.ev fun k => spec_alList.f k l0).bind fun x => some (x, true) else none) else some ([], false)
theorem spec_alAsked.calls (A0 : Option Addr) (c0 : Nat) (l0 : List Int) (r1 : List (List Int)) (r2 : Bool) (w : World) (hr0 : Kd.C (Kd.int .i64) w A0 l0.length l0) (hc0 : l0.length ≤ c0) (h : spec_alAsked.f l0 = some (r1, r2)) :
  Calls Try.prog 16 #[.slice A0 l0.length c0] w fun e w' => ∃ v0_ : Value, e = .returned (.tuple #[v0_, .bool r2]) ∧ Kd.S (Kd.slice 3 (Kd.int .i64)) 22 w' w.heap.size (fun _ => True) v0_ r1 ∧ Below w.heap.size w w' := by
 have HR0 := am hr0
 have HC0 := am hc0
 clear hr0 hc0
 unfold spec_alAsked.f at h
 obtain ⟨t, ht, h⟩ := Option.bind_eq_some_iff.1 h
 obtain ⟨kt, ht⟩ := spec_alAsked.ev_some ht
 have HT := am ht
 clear ht
 cases t with
 | false =>
  rw [if_neg zq33] at h
  simp only [Option.some.injEq, Prod.mk.injEq] at h
  obtain ⟨rfl, rfl⟩ := h
  go_enter Try.func16, Try.ntmps16
  go_wp2_with (go_at_call 20; (with_reducible refine (spec_alGood.calls kt _ _ l0 false _ ?side1 HC0.out HT.out).mono ?_); (case side1 => exact HR0.out); rintro e w' ⟨rfl, ⟨nd, rfl⟩⟩)
  go_ret2
  exact ⟨_, rfl, Kd.S_nil _ _ _ _ _, pw_below_drewN (Below.refl _ _) nd⟩
 | true =>
  rw [if_pos rfl] at h
  split at h
  ·rename_i h8
   obtain ⟨r, hr, h⟩ := Option.bind_eq_some_iff.1 h
   have HRR := am (show spec_alCounter_count.g (spec_alNew.fc l0.length) l0.length 16 l0 = some r from hr)
   have H8 := am h8
   clear hr h8
   by_cases c : r > 800
   ·rw [if_pos c] at h
    simp only [Option.some.injEq, Prod.mk.injEq] at h
    obtain ⟨rfl, rfl⟩ := h
    have cb : decide (800 < r) = true := decide_eq_true c
    go_enter Try.func16, Try.ntmps16
    go_wp2_with (first | (go_at_call 20; (with_reducible refine (spec_alGood.calls kt _ _ l0 true _ ?side1 HC0.out HT.out).mono ?_); (case side1 => exact HR0.out); rintro e w' ⟨rfl, ⟨nd, rfl⟩⟩) | (go_at_call 21; (refine (spec_alNew.calls l0.length H8.out _).mono ?_); rintro e w2 ⟨v2, rfl, hm, hb⟩; obtain ⟨B, G, rfl, hB, hG, hM⟩ := spec_alCounter_count.Mem.made hm; have HB2 := am (below_step (w := w) zq26 hb); have HM2 := am (hM.lower (base' := w.heap.size) (Nat.le_refl _)); have HG2 := am (show w.heap.size ≤ G from hG); clear hm hb hB hG hM) | (go_at_call 22; (with_reducible refine (spec_alCounter_count.calls_g _ _ 16 B G _ _ l0 r w _ ?side1 ?side2 ?side3 HC0.out HRR.out).mono ?_); (case side1 => exact HB2.out); (case side2 => exact HM2.out); (case side3 => exact Kd.C_kept_came (Kd.heap_int .i64) HR0.out HB2.out (fun k_ h_ => by rw [h_]; exact HG2.out)); rintro e w3 ⟨rfl, hm3, hb3, hk3⟩; have HB3 := am hb3; clear hm3 hb3 hk3))
    go_ret2
    exact ⟨_, rfl, Kd.S_nil _ _ _ _ _, HB3.out⟩
   ·rw [if_neg c] at h
    obtain ⟨x, hx, h⟩ := Option.bind_eq_some_iff.1 h
    simp only [Option.some.injEq, Prod.mk.injEq] at h
    obtain ⟨rfl, rfl⟩ := h
    obtain ⟨kx, hx⟩ := spec_alAsked.ev_some hx
    have HX := am hx
    clear hx
    have cb : decide (800 < r) = false := decide_eq_false c
    go_enter Try.func16, Try.ntmps16
    go_wp2_with (first | (go_at_call 20; (with_reducible refine (spec_alGood.calls kt _ _ l0 true _ ?side1 HC0.out HT.out).mono ?_); (case side1 => exact HR0.out); rintro e w' ⟨rfl, ⟨nd, rfl⟩⟩) | (go_at_call 21; (refine (spec_alNew.calls l0.length H8.out _).mono ?_); rintro e w2 ⟨v2, rfl, hm, hb⟩; obtain ⟨B, G, rfl, hB, hG, hM⟩ := spec_alCounter_count.Mem.made hm; have HB2 := am (below_step (w := w) zq26 hb); have HM2 := am (hM.lower (base' := w.heap.size) (Nat.le_refl _)); have HG2 := am (show w.heap.size ≤ G from hG); clear hm hb hB hG hM) | (go_at_call 22; (with_reducible refine (spec_alCounter_count.calls_g _ _ 16 B G _ _ l0 r w _ ?side1 ?side2 ?side3 HC0.out HRR.out).mono ?_); (case side1 => exact HB2.out); (case side2 => exact HM2.out); (case side3 => exact Kd.C_kept_came (Kd.heap_int .i64) HR0.out HB2.out (fun k_ h_ => by rw [h_]; exact HG2.out)); rintro e w3 ⟨rfl, hm3, hb3, hk3⟩; have HB3 := am hb3; clear hm3 hb3 hk3) | (go_at_call 23; (with_reducible refine (spec_alList.calls kx _ _ l0 x _ ?side1 HC0.out HX.out).mono ?_); (case side1 => exact Kd.C_below HR0.out HB3.out); rintro e w4 ⟨v4, rfl, hr4, hb4⟩; have HR4 := am (Kd.S_lower hr4 HB3.out.size); have HB4 := am (below_step HB3.out hb4); clear hr4 hb4))
    go_ret2
    exact ⟨_, rfl, HR4.out, HB4.out⟩
  ·cases h
/-! ### spec_l1Most: function 37 -/
def spec_l1Most.f (a0 : Int) (a1 : Int) : Option (Int) := if a0 > a1 then (some a0) else (some a1)
theorem spec_l1Most.calls (a0 : Int) (a1 : Int) (r : Int) (w : World) (h : spec_l1Most.f a0 a1 = some r) :
  Calls Try.prog 37 #[.int .i64 a0, .int .i64 a1] w fun e w' => e = .returned (.int .i64 r) ∧ Drawn0 w w' := by
 have H : (if a0 > a1 then (some a0) else (some a1)) = some r := h
 clear h
 by_cases c3 : a0 > a1
 ·rw [if_pos c3] at H
  have c3b0 : decide (a1 < a0) = true := decide_eq_true c3
  clear c3
  obtain rfl := Option.some.inj H
  go_enter Try.func37, Try.ntmps37
  go_wp2
  go_ret
  exact ⟨zq3, zq4⟩
 ·rw [if_neg c3] at H
  have c3b0 : decide (a1 < a0) = false := decide_eq_false c3
  clear c3
  obtain rfl := Option.some.inj H
  go_enter Try.func37, Try.ntmps37
  go_wp2
  go_ret
  exact ⟨zq3, zq4⟩
/-! ### spec_l1Abs: function 24 -/
def spec_l1Abs.f (a0 : Int) : Option (Int) := (spec_l1Most.f a0 (wrap64 (-a0))).bind fun t162 => (some t162)
theorem spec_l1Abs.calls (a0 : Int) (r : Int) (w : World) (h : spec_l1Abs.f a0 = some r) :
  Calls Try.prog 24 #[.int .i64 a0] w fun e w' => e = .returned (.int .i64 r) ∧ Drawn0 w w' := by
 have H : ((spec_l1Most.f a0 (wrap64 (-a0))).bind fun t162 => (some t162)) = some r := h
 clear h
 obtain ⟨t162, A2, H⟩ := zS H
 (try dsimp only at H)
 obtain rfl := Option.some.inj H
 go_enter Try.func24, Try.ntmps24
 go_wp2_with (first | ((with_reducible refine gate_callee (f := 37) rfl ?_); refine goesL_ (some 6) rfl rfl Try.func37 zq20 rfl #[.int .i64 a0, .int .i64 (wrap64 (-a0))] rfl zq2 ?_; (with_reducible refine (spec_l1Most.calls a0 (wrap64 (-a0)) t162 _ A2.out).mono ?_); rintro e w' ⟨rfl, ⟨nd, rfl⟩⟩; refine ⟨_, rfl, ?_⟩))
 go_ret
 exact ⟨zq3, zq4⟩
/-! ### spec_lsLess: function 38 -/
mutual
def spec_lsLess.l0 : Nat → List Int → List Int → Int → Option (Bool)
 | 0, _, _, _ => none
 | k + 1, x0, x1, x5 => if x5 < (x0.length : Int) then (spec_lsLess.j1 k x0 x1 x5 (decide (x5 < (x1.length : Int)))) else (spec_lsLess.j1 k x0 x1 x5 false)
def spec_lsLess.j1 : Nat → List Int → List Int → Int → Bool → Option (Bool)
 | 0, _, _, _, _ => none
 | k + 1, x0, x1, x5, x15 => if x15 = true then (if 0 ≤ x5 then (if x5 < (x0.length : Int) then (if x5 < (x1.length : Int) then (if (rd x0 x5) = (rd x1 x5) then (spec_lsLess.l0 k x0 x1 (wrap64 (x5 + 1))) else (some (decide ((rd x0 x5) < (rd x1 x5))))) else (none)) else (none)) else (none)) else (some (decide ((x0.length : Int) < (x1.length : Int))))
end
def spec_lsLess.f (k : Nat) (l0 : List Int) (l1 : List Int) : Option (Bool) := spec_lsLess.l0 k l0 l1 0
theorem spec_lsLess.mono_l : ∀ k, (∀ y0 y1 y2, LeO (spec_lsLess.l0 k y0 y1 y2) (spec_lsLess.l0 (k + 1) y0 y1 y2)) ∧ (∀ y0 y1 y2 y3, LeO (spec_lsLess.j1 k y0 y1 y2 y3) (spec_lsLess.j1 (k + 1) y0 y1 y2 y3))
 | 0 => ⟨fun _ _ _ r h => by simp [spec_lsLess.l0] at h, fun _ _ _ _ r h => by simp [spec_lsLess.j1] at h⟩
 | k + 1 => by
  obtain ⟨ih0, ih1⟩ := spec_lsLess.mono_l k
  refine ⟨?_, ?_⟩
  ·intro y0 y1 y2
   unfold spec_lsLess.l0
   repeat' first | (with_reducible first | exact ih0 _ _ _ | exact ih1 _ _ _ _ | exact LeO.refl _ | exact LeO.none _ | refine LeO.ite ?_ ?_ | refine LeO.bind ?_ (fun _ => ?_))
  ·intro y0 y1 y2 y3
   unfold spec_lsLess.j1
   repeat' first | (with_reducible first | exact ih0 _ _ _ | exact ih1 _ _ _ _ | exact LeO.refl _ | exact LeO.none _ | refine LeO.ite ?_ ?_ | refine LeO.bind ?_ (fun _ => ?_))
theorem spec_lsLess.mono : ∀ a0 a1 k, LeO (spec_lsLess.f k a0 a1) (spec_lsLess.f (k + 1) a0 a1) := by
 intro a0 a1 k
 obtain ⟨ih0, ih1⟩ := spec_lsLess.mono_l k
 unfold spec_lsLess.f
 repeat' first | (with_reducible first | exact ih0 _ _ _ | exact ih1 _ _ _ _ | exact LeO.refl _ | exact LeO.none _ | refine LeO.ite ?_ ?_ | refine LeO.bind ?_ (fun _ => ?_))
theorem spec_lsLess.calls (k : Nat) (A0 : Option Addr) (c0 : Nat) (l0 : List Int) (A1 : Option Addr) (c1 : Nat) (l1 : List Int) (r : Bool) (w : World) (hr0 : Kd.C (Kd.int .i64) w A0 l0.length l0) (hc0 : l0.length ≤ c0) (hr1 : Kd.C (Kd.int .i64) w A1 l1.length l1) (hc1 : l1.length ≤ c1) (h : spec_lsLess.f k l0 l1 = some r) :
  Calls Try.prog 38 #[.slice A0 l0.length c0, .slice A1 l1.length c1] w fun e w' => e = .returned (.bool r) ∧ Drawn0 w w' := by
 have HR0 := am hr0
 have HC0 := am hc0
 clear hr0 hc0
 have HR1 := am hr1
 have HC1 := am hc1
 clear hr1 hc1
 have H : (spec_lsLess.l0 k l0 l1 0) = some r := h
 clear h
 have H' := am H
 clear H
 go_enter Try.func38, Try.ntmps38
 go_wp2
 repeat (go_quiet (fail); try go_wp2)
 go_loopg [5] k (fun kq v5 w' => ∃ (x5_1 : Int), v5 = .int .i64 x5_1 ∧ Aside0 (spec_lsLess.l0 kq l0 l1 x5_1 = some r) ∧ Aside0 (kq ≤ k) ∧ Drawn0 w w')
 case atStart => exact ⟨(0), zq3, H', ⟨Nat.le_refl _⟩, zq4⟩
 case round =>
  clear H'
  try clear c1
  try clear p2
  obtain ⟨x5_1, rfl, HA, HK1, ⟨m1, rfl⟩⟩ := hrel
  cases gk with
  | zero => exact absurd HA.out (by simp [spec_lsLess.l0])
  | succ k1 =>
   have H := HA.out
   clear HA
   simp only [spec_lsLess.l0] at H
   have HC3 := am H
   clear H
   go_upto_region 2 with (fail)
   repeat (go_quiet (fail); go_upto_region 2 with (fail))
   go_cut [15] (fun v15 wc => ∃ (kq : Nat) (x15_2 : Bool), v15 = .bool x15_2 ∧ Aside0 (spec_lsLess.j1 kq l0 l1 x5_1 x15_2 = some r) ∧ Aside0 (kq ≤ k1) ∧ Drawn0 w wc)
   case first =>
    have H := HC3.out
    clear HC3
    by_cases c4 : x5_1 < (l0.length : Int)
    ·rw [if_pos c4] at H
     have c4b0 : decide (x5_1 < (l0.length : Int)) = true := decide_eq_true c4
     clear c4
     (first | rw [c4b0] | (simp only [i64_w, i32_w]; rw [c4b0]) | skip)
     have H' := am H
     clear H
     go_wp2
     repeat (go_quiet (fail); try go_wp2)
     go_meet
     case rel => exact ⟨_, (decide (x5_1 < (l1.length : Int))), zq3, H', ⟨by have := HK1.out; first | omega | exact Nat.le_refl _⟩, zq4⟩
    ·rw [if_neg c4] at H
     have c4b0 : decide (x5_1 < (l0.length : Int)) = false := decide_eq_false c4
     clear c4
     (first | rw [c4b0] | (simp only [i64_w, i32_w]; rw [c4b0]) | skip)
     have H' := am H
     clear H
     go_wp2
     repeat (go_quiet (fail); try go_wp2)
     go_meet
     case rel => exact ⟨_, (false), zq3, H', ⟨by have := HK1.out; first | omega | exact Nat.le_refl _⟩, zq4⟩
   case rest =>
    clear HC3
    try clear c1
    try clear p2
    try clear c3
    try clear c4
    try clear c4b0
    try clear p2
    obtain ⟨kq, x15_2, rfl, HA, HJ2, ⟨mc2, rfl⟩⟩ := hcut
    cases kq with
    | zero => exact absurd HA.out (by simp [spec_lsLess.j1])
    | succ kj2 =>
     have H := HA.out
     clear HA
     simp only [spec_lsLess.j1] at H
     by_cases c5 : x15_2 = true
     ·subst c5
      rw [if_pos rfl] at H
      by_cases c6 : 0 ≤ x5_1
      ·rw [if_pos c6] at H
       have c6b0 : decide (0 ≤ x5_1) = true := decide_eq_true c6
       clear c6
       by_cases c7 : x5_1 < (l0.length : Int)
       ·rw [if_pos c7] at H
        have c7b0 : decide (x5_1 < (l0.length : Int)) = true := decide_eq_true c7
        clear c7
        by_cases c8 : x5_1 < (l1.length : Int)
        ·rw [if_pos c8] at H
         have c8b0 : decide (x5_1 < (l1.length : Int)) = true := decide_eq_true c8
         clear c8
         by_cases c9 : (rd l0 x5_1) = (rd l1 x5_1)
         ·rw [if_pos c9] at H
          have c9b0 : ((rd l0 x5_1) == (rd l1 x5_1)) = true := beq_iff_eq.mpr c9
          have c9b1 : ((rd l0 x5_1) != (rd l1 x5_1)) = false := bne_eq_false_iff_eq.mpr c9
          clear c9
          have H' := am H
          clear H
          have p163 : 0 ≤ (x5_1 : Int) := of_decide_eq_true zq0
          have q163 : x5_1 < (l0.length : Int) := of_decide_eq_true zq0
          obtain ⟨ad163, e163, hx163_0⟩ := Kd.at_int HR0.out x5_1 p163 q163
          cases e163
          replace p163 := eq_true p163
          replace q163 := eq_true q163
          have p164 : 0 ≤ (x5_1 : Int) := of_decide_eq_true zq0
          have q164 : x5_1 < (l1.length : Int) := of_decide_eq_true zq0
          obtain ⟨ad164, e164, hx164_0⟩ := Kd.at_int HR1.out x5_1 p164 q164
          cases e164
          replace p164 := eq_true p164
          replace q164 := eq_true q164
          go_wp2
          repeat (go_quiet (fail); try go_wp2)
          go_roundg kj2
          case measure => have := HK1.out; have := HJ2.out; omega
          case rel => exact ⟨(wrap64 (x5_1 + 1)), zq3, H', ⟨by have := HK1.out; have := HJ2.out; omega⟩, zq4⟩
         ·rw [if_neg c9] at H
          have c9b0 : ((rd l0 x5_1) == (rd l1 x5_1)) = false := beq_eq_false_iff_ne.mpr c9
          have c9b1 : ((rd l0 x5_1) != (rd l1 x5_1)) = true := bne_iff_ne.mpr c9
          obtain rfl := Option.some.inj H
          have p163 : 0 ≤ (x5_1 : Int) := of_decide_eq_true zq0
          have q163 : x5_1 < (l0.length : Int) := of_decide_eq_true zq0
          obtain ⟨ad163, e163, hx163_0⟩ := Kd.at_int HR0.out x5_1 p163 q163
          cases e163
          replace p163 := eq_true p163
          replace q163 := eq_true q163
          have p164 : 0 ≤ (x5_1 : Int) := of_decide_eq_true zq0
          have q164 : x5_1 < (l1.length : Int) := of_decide_eq_true zq0
          obtain ⟨ad164, e164, hx164_0⟩ := Kd.at_int HR1.out x5_1 p164 q164
          cases e164
          replace p164 := eq_true p164
          replace q164 := eq_true q164
          have p165 : 0 ≤ (x5_1 : Int) := of_decide_eq_true zq0
          have q165 : x5_1 < (l0.length : Int) := of_decide_eq_true zq0
          obtain ⟨ad165, e165, hx165_0⟩ := Kd.at_int HR0.out x5_1 p165 q165
          obtain rfl : ad163 = ad165 := (by injection e165)
          replace p165 := eq_true p165
          replace q165 := eq_true q165
          have p166 : 0 ≤ (x5_1 : Int) := of_decide_eq_true zq0
          have q166 : x5_1 < (l1.length : Int) := of_decide_eq_true zq0
          obtain ⟨ad166, e166, hx166_0⟩ := Kd.at_int HR1.out x5_1 p166 q166
          obtain rfl : ad164 = ad166 := (by injection e166)
          replace p166 := eq_true p166
          replace q166 := eq_true q166
          go_wp2
          repeat (go_quiet (fail); try go_wp2)
          go_ret
          exact ⟨zq3, zq4⟩
        ·rw [if_neg c8] at H
         exact absurd H zq24
       ·rw [if_neg c7] at H
        exact absurd H zq24
      ·rw [if_neg c6] at H
       exact absurd H zq24
     ·replace c5 := Bool.eq_false_iff.mpr c5
      subst c5
      rw [if_neg (show ¬ (false = true) by decide)] at H
      obtain rfl := Option.some.inj H
      go_wp2
      repeat (go_quiet (fail); try go_wp2)
      go_ret
      exact ⟨zq3, zq4⟩
/-! ### spec_alPlace: function 26 -/
def spec_alPlace.l0 : Nat → List (List Int) → List Int → Int → Int → Option (Int)
 | 0, _, _, _, _ => none
 | k + 1, x0, x1, x5, x6 => if x5 < x6 then (if 0 ≤ (wrap64 (Int.tdiv (wrap64 (x5 + x6)) 2)) then (if (wrap64 (Int.tdiv (wrap64 (x5 + x6)) 2)) < (x0.length : Int) then ((spec_lsLess.f k (rd_L1 x0 (wrap64 (Int.tdiv (wrap64 (x5 + x6)) 2))) x1).bind fun t168 => (if t168 = true then (spec_alPlace.l0 k x0 x1 (wrap64 ((wrap64 (Int.tdiv (wrap64 (x5 + x6)) 2)) + 1)) x6) else (spec_alPlace.l0 k x0 x1 x5 (wrap64 (Int.tdiv (wrap64 (x5 + x6)) 2))))) else (none)) else (none)) else (some x5)
def spec_alPlace.f (k : Nat) (l0 : List (List Int)) (l1 : List Int) : Option (Int) := spec_alPlace.l0 k l0 l1 0 (wrap64 ((l0.length : Int) - 1))
theorem spec_alPlace.mono_l : ∀ k, (∀ y0 y1 y2 y3, LeO (spec_alPlace.l0 k y0 y1 y2 y3) (spec_alPlace.l0 (k + 1) y0 y1 y2 y3))
 | 0 => fun _ _ _ _ r h => by simp [spec_alPlace.l0] at h
 | k + 1 => by
  have ih0 := spec_alPlace.mono_l k
  ·intro y0 y1 y2 y3
   unfold spec_alPlace.l0
   repeat' first | (with_reducible first | exact ih0 _ _ _ _ | exact spec_lsLess.mono _ _ _ | exact LeO.refl _ | exact LeO.none _ | refine LeO.ite ?_ ?_ | refine LeO.bind ?_ (fun _ => ?_))
theorem spec_alPlace.mono : ∀ a0 a1 k, LeO (spec_alPlace.f k a0 a1) (spec_alPlace.f (k + 1) a0 a1) := by
 intro a0 a1 k
 have ih0 := spec_alPlace.mono_l k
 unfold spec_alPlace.f
 repeat' first | (with_reducible first | exact ih0 _ _ _ _ | exact spec_lsLess.mono _ _ _ | exact LeO.refl _ | exact LeO.none _ | refine LeO.ite ?_ ?_ | refine LeO.bind ?_ (fun _ => ?_))
theorem spec_alPlace.calls (k : Nat) (A0 : Option Addr) (c0 : Nat) (l0 : List (List Int)) (A1 : Option Addr) (c1 : Nat) (l1 : List Int) (r : Int) (w : World) (hr0 : Kd.C (Kd.slice 3 (Kd.int .i64)) w A0 l0.length l0) (hc0 : l0.length ≤ c0) (hr1 : Kd.C (Kd.int .i64) w A1 l1.length l1) (hc1 : l1.length ≤ c1) (h : spec_alPlace.f k l0 l1 = some r) :
  Calls Try.prog 26 #[.slice A0 l0.length c0, .slice A1 l1.length c1] w fun e w' => e = .returned (.int .i64 r) ∧ Drawn0 w w' := by
 have HR0 := am hr0
 have HC0 := am hc0
 clear hr0 hc0
 have HR1 := am hr1
 have HC1 := am hc1
 clear hr1 hc1
 have H : (spec_alPlace.l0 k l0 l1 0 (wrap64 ((l0.length : Int) - 1))) = some r := h
 clear h
 have H' := am H
 clear H
 go_enter Try.func26, Try.ntmps26
 go_wp2
 go_loopg [5, 6] k (fun kq v5 v6 w' => ∃ (x5_1 : Int) (x6_1 : Int), v5 = .int .i64 x5_1 ∧ v6 = .int .i64 x6_1 ∧ Aside0 (spec_alPlace.l0 kq l0 l1 x5_1 x6_1 = some r) ∧ Aside0 (kq ≤ k) ∧ Drawn0 w w')
 case atStart => exact ⟨(0), (wrap64 ((l0.length : Int) - 1)), zq3, zq3, H', ⟨Nat.le_refl _⟩, zq4⟩
 case round =>
  clear H'
  try clear c1
  try clear c2
  try clear p2
  obtain ⟨x5_1, x6_1, rfl, rfl, HA, HK1, ⟨m1, rfl⟩⟩ := hrel
  cases gk with
  | zero => exact absurd HA.out (by simp [spec_alPlace.l0])
  | succ k1 =>
   have H := HA.out
   clear HA
   simp only [spec_alPlace.l0] at H
   by_cases c3 : x5_1 < x6_1
   ·rw [if_pos c3] at H
    have c3b0 : decide (x5_1 < x6_1) = true := decide_eq_true c3
    clear c3
    obtain ⟨ji4, hji4⟩ : ∃ j_ : Int, (wrap64 (Int.tdiv (wrap64 (x5_1 + x6_1)) 2)) = j_ := ⟨_, rfl⟩
    replace H : (if 0 ≤ (ji4) then (if (ji4) < (l0.length : Int) then ((spec_lsLess.f k1 (rd_L1 l0 (ji4)) l1).bind fun t168 => (if t168 = true then (spec_alPlace.l0 k1 l0 l1 (wrap64 ((ji4) + 1)) x6_1) else (spec_alPlace.l0 k1 l0 l1 x5_1 ji4))) else (none)) else (none)) = some r := zq85
    have hji4w : (IntKind.i64.wrap (Int.tdiv (wrap64 (x5_1 + x6_1)) 2)) = ji4 := (i64_w _).trans hji4
    by_cases c5 : 0 ≤ (ji4)
    ·rw [if_pos c5] at H
     have c5b0 : decide (0 ≤ (ji4)) = true := decide_eq_true c5
     clear c5
     by_cases c6 : (ji4) < (l0.length : Int)
     ·rw [if_pos c6] at H
      have c6b0 : decide ((ji4) < (l0.length : Int)) = true := decide_eq_true c6
      clear c6
      obtain ⟨t168, A7, H⟩ := zS H
      (try dsimp only at H)
      by_cases c8 : t168 = true
      ·subst c8
       rw [if_pos rfl] at H
       have H' := am H
       clear H
       have p167 : 0 ≤ ((ji4) : Int) := of_decide_eq_true zq0
       have q167 : (ji4) < (l0.length : Int) := of_decide_eq_true zq0
       obtain ⟨ad167, A167_0, c167_0, e167, hx167_0, hl167_0, hi167_0⟩ := at_L1 HR0.out (ji4) p167 q167
       cases e167
       have HR167_0 := am hi167_0
       have HC167_0 := am hl167_0
       clear hi167_0 hl167_0
       replace p167 := eq_true p167
       replace q167 := eq_true q167
       go_wp2_with (first | ((with_reducible refine gate_callee (f := 38) rfl ?_); refine goesL_ (some 23) rfl rfl Try.func38 zq20 rfl #[.slice A167_0 (rd_L1 l0 (ji4)).length c167_0, .slice A1 l1.length c1] rfl zq69 ?_; (with_reducible refine (spec_lsLess.calls k1 _ _ (rd_L1 l0 (ji4)) _ _ l1 true _ ?side1 ?side2 ?side3 ?side4 A7.out).mono ?_); (case side1 => exact zq83); (case side2 => exact HC167_0.out); (case side3 => exact zq90); (case side4 => exact HC1.out); rintro e w' ⟨rfl, ⟨nd, rfl⟩⟩; refine ⟨_, rfl, ?_⟩))
       go_roundg k1
       case measure => have := HK1.out; omega
       case rel => exact ⟨(wrap64 ((ji4) + 1)), (x6_1), (by first | rfl | (simp; done) | (simp only [← hji4] <;> (first | rfl | simp)) | (simp [*]; done)), zq3, H', ⟨zq32⟩, zq4⟩
      ·replace c8 := Bool.eq_false_iff.mpr c8
       subst c8
       rw [if_neg (show ¬ (false = true) by decide)] at H
       have H' := am H
       clear H
       have p167 : 0 ≤ ((ji4) : Int) := of_decide_eq_true zq0
       have q167 : (ji4) < (l0.length : Int) := of_decide_eq_true zq0
       obtain ⟨ad167, A167_0, c167_0, e167, hx167_0, hl167_0, hi167_0⟩ := at_L1 HR0.out (ji4) p167 q167
       cases e167
       have HR167_0 := am hi167_0
       have HC167_0 := am hl167_0
       clear hi167_0 hl167_0
       replace p167 := eq_true p167
       replace q167 := eq_true q167
       go_wp2_with (first | ((with_reducible refine gate_callee (f := 38) rfl ?_); refine goesL_ (some 23) rfl rfl Try.func38 zq20 rfl #[.slice A167_0 (rd_L1 l0 (ji4)).length c167_0, .slice A1 l1.length c1] rfl zq69 ?_; (with_reducible refine (spec_lsLess.calls k1 _ _ (rd_L1 l0 (ji4)) _ _ l1 false _ ?side1 ?side2 ?side3 ?side4 A7.out).mono ?_); (case side1 => exact zq83); (case side2 => exact HC167_0.out); (case side3 => exact zq90); (case side4 => exact HC1.out); rintro e w' ⟨rfl, ⟨nd, rfl⟩⟩; refine ⟨_, rfl, ?_⟩))
       go_roundg k1
       case measure => have := HK1.out; omega
       case rel => exact ⟨(x5_1), (ji4), zq3, (by first | rfl | (simp; done) | (simp only [← hji4] <;> (first | rfl | simp)) | (simp [*]; done)), H', ⟨zq32⟩, zq4⟩
     ·rw [if_neg c6] at H
      exact absurd H zq24
    ·rw [if_neg c5] at H
     exact absurd H zq24
   ·rw [if_neg c3] at H
    have c3b0 : decide (x5_1 < x6_1) = false := decide_eq_false c3
    clear c3
    obtain rfl := Option.some.inj H
    go_wp2
    go_ret
    exact ⟨zq3, zq4⟩
end
end Go.Proofs.Ytlmiiijjjcddkaa.PKb
