-- Written for this claim by a program of this session (myprint.py) over the kit's printer.
import Derived.Test.YtlmiiijjjcddkaaPKbx0
import Derived.Test.YtlmiiijjjcddkaaPKbx1
import Derived.Test.YtlmiiijjjcddkaaPKbx2
namespace Go.Proofs.Ytlmiiijjjcddkaa.PKb
noncomputable section
open Go.RowKit Go.Proofs.YtlmiiijjjcddkaaW.PrintWords Go.Proofs.YtlmiiijjjcddkaaW.PrintLast Go.Proofs.YtlmiiijjjcddkaaW.PrintMore
attribute [local go_sem] max2_int min2_int max_two min_two max_three min_three max_four min_four   -- for this text's walks alone
set_option maxHeartbeats 8000000
set_option maxRecDepth 100000
set_option linter.unusedVariables false
set_option linter.unusedSimpArgs false
theorem pRq3 {α : Type} {d : Kd α} {e base : Nat} {ok : Nat → Prop} {v : Value} {xs : List α} {w W : World} (h0 : Aside0 (Kd.R d e w base ok v xs)) (hp : Kd.R d e W base ok v xs := by (with_reducible repeat (first | apply Kd.R_alloc | apply Kd.R_drewN | apply Kd.R_drew)); exact Aside0.out (by with_reducible assumption)) : Kd.R d e W base ok v xs := hp
theorem pKq3 {g : Nat} {o : Obj} {w W : World} (h0 : Aside0 (w.heap[g]? = some o)) (hp : W.heap[g]? = some o := by (with_reducible repeat (first | refine blk_drewN ?_ _ | refine blk_drew ?_ | refine blk_alloc ?_ _)); exact Aside0.out (by with_reducible assumption)) : W.heap[g]? = some o := hp
theorem pBq3 {b : Nat} {w0 w W : World} (h0 : Aside0 (Below b w0 w)) (hp : Below b w0 W := by repeat (first | (with_reducible first | exact Aside0.out (by assumption) | apply below_alloc | apply pw_below_drewN | apply below_drew1 | refine below_set ?_ (Aside0.out (by assumption))))) : Below b w0 W := hp
/-! ### spec_alClasses: function 17 -/
mutual
def spec_alClasses.l0 : Nat → List (List Int) → List Int → Int → Int → Option (List Int × List Int)
 | 0, _, _, _, _ => none
 | k + 1, x0, x4, x18, x19 => if x19 < x18 then (if 0 ≤ x19 then (if x19 < (x4.length : Int) then (spec_alClasses.l0 k x0 (x4.set (x19 : Int).toNat (-1)) x18 (wrap64 (x19 + 1))) else (none)) else (none)) else (spec_alClasses.l1 k x0 x4 ([] : List Int) (x0.length : Int) 0)
def spec_alClasses.l1 : Nat → List (List Int) → List Int → List Int → Int → Int → Option (List Int × List Int)
 | 0, _, _, _, _, _ => none
 | k + 1, x0, x4, x5, x27, x28 => if x28 < x27 then (if 0 ≤ x28 then (if x28 < (x4.length : Int) then (if (rd x4 x28) ≥ 0 then (spec_alClasses.l1 k x0 x4 x5 x27 (wrap64 (x28 + 1))) else (spec_alClasses.l2 k x0 (x4.set (x28 : Int).toNat (x5.length : Int)) x5 x28 (([x28] : List Int)) 0 x27 x28)) else (none)) else (none)) else (some (x4, x5))
def spec_alClasses.l2 : Nat → List (List Int) → List Int → List Int → Int → List Int → Int → Int → Int → Option (List Int × List Int)
 | 0, _, _, _, _, _, _, _, _ => none
 | k + 1, x0, x4, x5, x7, x8, x9, x27, x28 => if x9 < (x8.length : Int) then (if 0 ≤ x9 then (if 0 ≤ (rd x8 x9) then (if (rd x8 x9) < (x0.length : Int) then (spec_alClasses.l3 k x0 x4 x5 x7 x8 x9 (rd_L1 x0 (rd x8 x9)) 0 x27 x28) else (none)) else (none)) else (none)) else (if x5.length < 17592186044416 then (spec_alClasses.l1 k x0 x4 (x5 ++ [x7]) x27 (wrap64 (x28 + 1))) else (none))
def spec_alClasses.l3 : Nat → List (List Int) → List Int → List Int → Int → List Int → Int → List Int → Int → Int → Int → Option (List Int × List Int)
 | 0, _, _, _, _, _, _, _, _, _, _ => none
 | k + 1, x0, x4, x5, x7, x8, x9, x10, x11, x27, x28 => if (wrap64 (x11 + 1)) < (x10.length : Int) then (if 0 ≤ x11 then (if x11 < (x10.length : Int) then (if 0 ≤ (wrap64 (x11 + 1)) then ((spec_l1Abs.f (wrap64 ((rd x10 x11) - (rd x10 (wrap64 (x11 + 1)))))).bind fun t185 => (if t185 < 2 then (spec_alClasses.l3 k x0 x4 x5 x7 x8 x9 x10 (wrap64 (x11 + 1)) x27 x28) else ((spec_l1Own.f x10).bind fun t186 => (if x11 < (t186.length : Int) then (if (wrap64 (x11 + 1)) < (t186.length : Int) then ((spec_alPlace.f k x0 ((t186.set (x11 : Int).toNat (rd x10 (wrap64 (x11 + 1)))).set ((wrap64 (x11 + 1)) : Int).toNat (rd x10 x11))).bind fun t193 => (if 0 ≤ t193 then (if t193 < (x4.length : Int) then (if (rd x4 t193) < 0 then (if 0 ≤ x7 then (if x7 < (x4.length : Int) then (if x8.length < 17592186044416 then (spec_alClasses.l3 k x0 (x4.set (t193 : Int).toNat (rd x4 x7)) x5 x7 (x8 ++ [t193]) x9 x10 (wrap64 (x11 + 1)) x27 x28) else (none)) else (none)) else (none)) else (spec_alClasses.l3 k x0 x4 x5 x7 x8 x9 x10 (wrap64 (x11 + 1)) x27 x28)) else (none)) else (none))) else (none)) else (none))))) else (none)) else (none)) else (none)) else (spec_alClasses.l2 k x0 x4 x5 x7 x8 (wrap64 (x9 + 1)) x27 x28)
end
def spec_alClasses.f (k : Nat) (l0 : List (List Int)) : Option (List Int × List Int) := if 0 ≤ (l0.length : Int) then (if ((l0.length : Int) : Int).toNat ≤ 35184372088832 then (spec_alClasses.l0 k l0 (List.replicate ((l0.length : Int) : Int).toNat 0) (l0.length : Int) 0) else (none)) else (none)
theorem spec_alClasses.mono_l : ∀ k, (∀ y0 y1 y2 y3, LeO (spec_alClasses.l0 k y0 y1 y2 y3) (spec_alClasses.l0 (k + 1) y0 y1 y2 y3)) ∧ (∀ y0 y1 y2 y3 y4, LeO (spec_alClasses.l1 k y0 y1 y2 y3 y4) (spec_alClasses.l1 (k + 1) y0 y1 y2 y3 y4)) ∧ (∀ y0 y1 y2 y3 y4 y5 y6 y7, LeO (spec_alClasses.l2 k y0 y1 y2 y3 y4 y5 y6 y7) (spec_alClasses.l2 (k + 1) y0 y1 y2 y3 y4 y5 y6 y7)) ∧ (∀ y0 y1 y2 y3 y4 y5 y6 y7 y8 y9, LeO (spec_alClasses.l3 k y0 y1 y2 y3 y4 y5 y6 y7 y8 y9) (spec_alClasses.l3 (k + 1) y0 y1 y2 y3 y4 y5 y6 y7 y8 y9))
 | 0 => ⟨fun _ _ _ _ r h => by simp [spec_alClasses.l0] at h, fun _ _ _ _ _ r h => by simp [spec_alClasses.l1] at h, fun _ _ _ _ _ _ _ _ r h => by simp [spec_alClasses.l2] at h, fun _ _ _ _ _ _ _ _ _ _ r h => by simp [spec_alClasses.l3] at h⟩
 | k + 1 => by
  obtain ⟨ih0, ih1, ih2, ih3⟩ := spec_alClasses.mono_l k
  refine ⟨?_, ?_, ?_, ?_⟩
  ·intro y0 y1 y2 y3
   unfold spec_alClasses.l0
   repeat' first | (with_reducible first | exact ih0 _ _ _ _ | exact ih1 _ _ _ _ _ | exact ih2 _ _ _ _ _ _ _ _ | exact ih3 _ _ _ _ _ _ _ _ _ _ | exact spec_alPlace.mono _ _ _ | exact LeO.refl _ | exact LeO.none _ | refine LeO.ite ?_ ?_ | refine LeO.bind ?_ (fun _ => ?_))
  ·intro y0 y1 y2 y3 y4
   unfold spec_alClasses.l1
   repeat' first | (with_reducible first | exact ih0 _ _ _ _ | exact ih1 _ _ _ _ _ | exact ih2 _ _ _ _ _ _ _ _ | exact ih3 _ _ _ _ _ _ _ _ _ _ | exact spec_alPlace.mono _ _ _ | exact LeO.refl _ | exact LeO.none _ | refine LeO.ite ?_ ?_ | refine LeO.bind ?_ (fun _ => ?_))
  ·intro y0 y1 y2 y3 y4 y5 y6 y7
   unfold spec_alClasses.l2
   repeat' first | (with_reducible first | exact ih0 _ _ _ _ | exact ih1 _ _ _ _ _ | exact ih2 _ _ _ _ _ _ _ _ | exact ih3 _ _ _ _ _ _ _ _ _ _ | exact spec_alPlace.mono _ _ _ | exact LeO.refl _ | exact LeO.none _ | refine LeO.ite ?_ ?_ | refine LeO.bind ?_ (fun _ => ?_))
  ·intro y0 y1 y2 y3 y4 y5 y6 y7 y8 y9
   unfold spec_alClasses.l3
   repeat' first | (with_reducible first | exact ih0 _ _ _ _ | exact ih1 _ _ _ _ _ | exact ih2 _ _ _ _ _ _ _ _ | exact ih3 _ _ _ _ _ _ _ _ _ _ | exact spec_alPlace.mono _ _ _ | exact LeO.refl _ | exact LeO.none _ | refine LeO.ite ?_ ?_ | refine LeO.bind ?_ (fun _ => ?_))
theorem spec_alClasses.mono : ∀ a0 k, LeO (spec_alClasses.f k a0) (spec_alClasses.f (k + 1) a0) := by
 intro a0 k
 obtain ⟨ih0, ih1, ih2, ih3⟩ := spec_alClasses.mono_l k
 unfold spec_alClasses.f
 repeat' first | (with_reducible first | exact ih0 _ _ _ _ | exact ih1 _ _ _ _ _ | exact ih2 _ _ _ _ _ _ _ _ | exact ih3 _ _ _ _ _ _ _ _ _ _ | exact spec_alPlace.mono _ _ _ | exact LeO.refl _ | exact LeO.none _ | refine LeO.ite ?_ ?_ | refine LeO.bind ?_ (fun _ => ?_))
theorem spec_alClasses.calls (k : Nat) (A0 : Option Addr) (c0 : Nat) (l0 : List (List Int)) (r1 : List Int) (r2 : List Int) (w : World) (hr0 : Kd.C (Kd.slice 3 (Kd.int .i64)) w A0 l0.length l0) (hc0 : l0.length ≤ c0) (h : spec_alClasses.f k l0 = some (r1, r2)) :
  Calls Try.prog 17 #[.slice A0 l0.length c0] w fun e w' => ∃ v0_ v1_ : Value, e = .returned (.tuple #[v0_, v1_]) ∧ Kd.R (Kd.int .i64) 3 w' w.heap.size (fun k_ => some k_ ≠ (v1_ : Value).ownBlock) v0_ r1 ∧ Kd.R (Kd.int .i64) 3 w' w.heap.size (fun k_ => some k_ ≠ (v0_ : Value).ownBlock) v1_ r2 ∧ Below w.heap.size w w' := by
 have HR0 := am hr0
 have HC0 := am hc0
 clear hr0 hc0
 have HB := am (Below.refl w.heap.size w)
 have H : (if 0 ≤ (l0.length : Int) then (if ((l0.length : Int) : Int).toNat ≤ 35184372088832 then (spec_alClasses.l0 k l0 (List.replicate ((l0.length : Int) : Int).toNat 0) (l0.length : Int) 0) else (none)) else (none)) = some (r1, r2) := h
 clear h
 by_cases c2 : 0 ≤ (l0.length : Int)
 ·rw [if_pos c2] at H
  have c2b0 := eq_true c2
  have c2b1 : decide (0 ≤ (l0.length : Int)) = true := decide_eq_true c2
  clear c2
  by_cases c3 : ((l0.length : Int) : Int).toNat ≤ 35184372088832
  ·rw [if_pos c3] at H
   have c3b0 := eq_true c3
   have c3b1 : decide (((l0.length : Int) : Int).toNat ≤ 35184372088832) = true := decide_eq_true c3
   clear c3
   obtain ⟨y169, hy169⟩ : ∃ y_ : List Int, y_ = (List.replicate ((l0.length : Int) : Int).toNat 0) := ⟨_, rfl⟩
   replace H : (spec_alClasses.l0 k l0 y169 (l0.length : Int) 0) = some (r1, r2) := by first | (rw [hy169]; exact zH) | exact zH
   have Ny169 := am hy169
   clear hy169
   have H' := am H
   clear H
   go_enter Try.func17, Try.ntmps17
   go_wp2_with (first | ((with_reducible refine gate_dst (N := 16) rfl ?_); refine Kd.R_make (Kd.int .i64) _ 3 rfl (N := 16) rfl 22 _ _ rfl (l0.length : Int) rfl rfl Try.underlying22 (.int .i64 0) 8 info3 rfl zq33 zq10 0 (ok := fun _ => True) (okp := fun _ => True) rfl (fun _ hk => hk) trivial (of_decide_eq_true zq0) (Nat.le_trans (Nat.mul_le_mul_right _ (of_decide_eq_true zq0 : (l0.length : Int).toNat ≤ 35184372088832)) zq10) (Below.refl _ _) (Nat.le_refl _) ?_; intro v170 w4 ho5 hb hg_ hnew_; clear hg_ hnew_; (first | rw [← Ny169.out] at ho5 | (simp only [Int.reduceToNat] at ho5; rw [← Ny169.out] at ho5)); have HO171 := am (Kd.R_lower ho5 (below_size (pBq3 HB))); replace HB := am (below_step (pBq3 HB) hb); clear hb ho5))
   repeat (go_quiet (first | ((with_reducible refine gate_dst (N := 16) rfl ?_); refine Kd.R_make (Kd.int .i64) _ 3 rfl (N := 16) rfl 22 _ _ rfl (l0.length : Int) rfl rfl Try.underlying22 (.int .i64 0) 8 info3 rfl zq33 zq10 0 (ok := fun _ => True) (okp := fun _ => True) rfl (fun _ hk => hk) trivial (of_decide_eq_true zq0) (Nat.le_trans (Nat.mul_le_mul_right _ (of_decide_eq_true zq0 : (l0.length : Int).toNat ≤ 35184372088832)) zq10) (Below.refl _ _) (Nat.le_refl _) ?_; intro v170 w4 ho5 hb hg_ hnew_; clear hg_ hnew_; (first | rw [← Ny169.out] at ho5 | (simp only [Int.reduceToNat] at ho5; rw [← Ny169.out] at ho5)); have HO171 := am (Kd.R_lower ho5 (below_size (pBq3 HB))); replace HB := am (below_step (pBq3 HB) hb); clear hb ho5)); try go_wp2_with (first | ((with_reducible refine gate_dst (N := 16) rfl ?_); refine Kd.R_make (Kd.int .i64) _ 3 rfl (N := 16) rfl 22 _ _ rfl (l0.length : Int) rfl rfl Try.underlying22 (.int .i64 0) 8 info3 rfl zq33 zq10 0 (ok := fun _ => True) (okp := fun _ => True) rfl (fun _ hk => hk) trivial (of_decide_eq_true zq0) (Nat.le_trans (Nat.mul_le_mul_right _ (of_decide_eq_true zq0 : (l0.length : Int).toNat ≤ 35184372088832)) zq10) (Below.refl _ _) (Nat.le_refl _) ?_; intro v170 w4 ho5 hb hg_ hnew_; clear hg_ hnew_; (first | rw [← Ny169.out] at ho5 | (simp only [Int.reduceToNat] at ho5; rw [← Ny169.out] at ho5)); have HO171 := am (Kd.R_lower ho5 (below_size (pBq3 HB))); replace HB := am (below_step (pBq3 HB) hb); clear hb ho5)))
   go_loopg [19] k (fun kq v19 w' => ∃ (x4_1 : List Int) (x19_1 : Int), v19 = .int .i64 x19_1 ∧ Aside0 (spec_alClasses.l0 kq l0 x4_1 (l0.length : Int) x19_1 = some (r1, r2)) ∧ Aside0 (kq ≤ k) ∧ Aside0 (Kd.R (Kd.int .i64) 3 w' w.heap.size (fun _ => True) v170 x4_1) ∧ Aside0 (Below w.heap.size w w'))
   case atStart => exact ⟨(y169), (0), zq3, H', ⟨Nat.le_refl _⟩, ⟨by (with_reducible repeat (first | apply Kd.R_alloc | apply Kd.R_drewN | apply Kd.R_drew)); exact HO171.out⟩, ⟨zq1⟩⟩
   case round =>
    clear H'
    try clear c1
    try clear c2
    try clear c2b0
    try clear c2b1
    try clear p2
    try clear c3
    try clear c3b0
    try clear c3b1
    obtain ⟨x4_1, x19_1, rfl, HA, HK1, HO_4, HB⟩ := hrel
    cases gk with
    | zero => exact absurd HA.out (by simp [spec_alClasses.l0])
    | succ k1 =>
     have H := HA.out
     clear HA
     simp only [spec_alClasses.l0] at H
     by_cases c6 : x19_1 < (l0.length : Int)
     ·rw [if_pos c6] at H
      have c6b0 : decide (x19_1 < (l0.length : Int)) = true := decide_eq_true c6
      clear c6
      by_cases c7 : 0 ≤ x19_1
      ·rw [if_pos c7] at H
       have c7b0 : decide (0 ≤ x19_1) = true := decide_eq_true c7
       clear c7
       by_cases c8 : x19_1 < (x4_1.length : Int)
       ·rw [if_pos c8] at H
        have c8b0 : decide (x19_1 < (x4_1.length : Int)) = true := decide_eq_true c8
        clear c8
        obtain ⟨y172, hy172⟩ : ∃ y_ : List Int, y_ = (x4_1.set (x19_1 : Int).toNat (-1)) := ⟨_, rfl⟩
        replace H : (spec_alClasses.l0 k1 l0 y172 (l0.length : Int) (wrap64 (x19_1 + 1))) = some (r1, r2) := by first | (rw [hy172]; exact zH) | exact zH
        have Ny172 := am hy172
        clear hy172
        have H' := am H
        clear H
        have p9 : 0 ≤ (x19_1 : Int) := of_decide_eq_true zq0
        have q9 : (x19_1 : Int) < ((x4_1.length : Int) : Int) := of_decide_eq_true zq0
        obtain ⟨go9, co9, eo9, gb9, gl9, cl9, HG9⟩ := Kd.R_form HO_4.out zq10
        (first | cases eo9 | (injection eo9 with ea_ en_ ec_; (first | subst ea_ | (injection ea_ with ea_; subst ea_)); subst ec_; clear en_))
        have GB9 := am gb9
        have GG9 := am HG9
        clear gb9 gl9 HG9
        obtain ⟨hx9_0, hf9_0⟩ := Kd.R_celln 0 HO_4.out (x19_1 : Int) p9 q9
        replace p9 := eq_true p9
        replace q9 := eq_true q9
        have HP10 := Kd.R_putg HO_4.out (x19_1 : Int) (-1)
        go_wp2_with (first | ((with_reducible refine gate_store (t := 3) (p := 24) rfl ?_); (try (rw [drewN_self wr]; generalize hq_ : World.drewN wr _ = wr; replace HO_4 := am (Kd.R_at hq_ HO_4.out); replace HB := am (below_at hq_ HB.out); clear hq_; (try (have HP10 := Kd.R_putg HO_4.out (x19_1 : Int) (-1))))); refine store_event (t := 3) (p := 24) (v := ?vo_w11) (w1 := (wr.setCell ⟨go9, (x19_1 : Int).toNat, none⟩ (.int .i64 (-1)))) ?hg ?ho ?hn ?hr ?_; (case ho => rfl); (case hg => rfl); (case hn => rfl); (case hr => exact zq8); intro w11 hw; have hg : wr.grownBy w11 (some go9) := (by rw [hw]; exact HP10.2); have hp_ : Kd.R (Kd.int .i64) 3 w11 w.heap.size (fun _ => True) (.slice (some ⟨go9, 0, none⟩) x4_1.length co9) y172 := (by rw [hw, Ny172.out]; exact HP10.1); clear HP10; replace HO_4 := am (hp_); replace HB := am ((zq62 : Below w.heap.size w w11)); clear hg hw hp_))
        repeat (go_quiet (first | ((with_reducible refine gate_store (t := 3) (p := 24) rfl ?_); (try (rw [drewN_self wr]; generalize hq_ : World.drewN wr _ = wr; replace HO_4 := am (Kd.R_at hq_ HO_4.out); replace HB := am (below_at hq_ HB.out); clear hq_; (try (have HP10 := Kd.R_putg HO_4.out (x19_1 : Int) (-1))))); refine store_event (t := 3) (p := 24) (v := ?vo_w11) (w1 := (wr.setCell ⟨go9, (x19_1 : Int).toNat, none⟩ (.int .i64 (-1)))) ?hg ?ho ?hn ?hr ?_; (case ho => rfl); (case hg => rfl); (case hn => rfl); (case hr => exact zq8); intro w11 hw; have hg : wr.grownBy w11 (some go9) := (by rw [hw]; exact HP10.2); have hp_ : Kd.R (Kd.int .i64) 3 w11 w.heap.size (fun _ => True) (.slice (some ⟨go9, 0, none⟩) x4_1.length co9) y172 := (by rw [hw, Ny172.out]; exact HP10.1); clear HP10; replace HO_4 := am (hp_); replace HB := am ((zq62 : Below w.heap.size w w11)); clear hg hw hp_)); try go_wp2_with (first | ((with_reducible refine gate_store (t := 3) (p := 24) rfl ?_); (try (rw [drewN_self wr]; generalize hq_ : World.drewN wr _ = wr; replace HO_4 := am (Kd.R_at hq_ HO_4.out); replace HB := am (below_at hq_ HB.out); clear hq_; (try (have HP10 := Kd.R_putg HO_4.out (x19_1 : Int) (-1))))); refine store_event (t := 3) (p := 24) (v := ?vo_w11) (w1 := (wr.setCell ⟨go9, (x19_1 : Int).toNat, none⟩ (.int .i64 (-1)))) ?hg ?ho ?hn ?hr ?_; (case ho => rfl); (case hg => rfl); (case hn => rfl); (case hr => exact zq8); intro w11 hw; have hg : wr.grownBy w11 (some go9) := (by rw [hw]; exact HP10.2); have hp_ : Kd.R (Kd.int .i64) 3 w11 w.heap.size (fun _ => True) (.slice (some ⟨go9, 0, none⟩) x4_1.length co9) y172 := (by rw [hw, Ny172.out]; exact HP10.1); clear HP10; replace HO_4 := am (hp_); replace HB := am ((zq62 : Below w.heap.size w w11)); clear hg hw hp_)))
        go_roundg k1
        case measure => have := HK1.out; omega
        case rel => exact ⟨(y172), (wrap64 (x19_1 + 1)), zq3, H', ⟨zq32⟩, ⟨zq45⟩, ⟨zq1⟩⟩
       ·rw [if_neg c8] at H
        exact absurd H zq24
      ·rw [if_neg c7] at H
       exact absurd H zq24
     ·rw [if_neg c6] at H
      have c6b0 : decide (x19_1 < (l0.length : Int)) = false := decide_eq_false c6
      clear c6
      have H' := am H
      clear H
      go_wp2
      repeat (go_quiet (fail); try go_wp2)
      go_loopg [5, 28] k1 (fun kq v5 v28 w' => ∃ (x4_2 : List Int) (x5_2 : List Int) (x28_2 : Int), v28 = .int .i64 x28_2 ∧ Aside0 (spec_alClasses.l1 kq l0 x4_2 x5_2 (l0.length : Int) x28_2 = some (r1, r2)) ∧ Aside0 (kq ≤ k1) ∧ Aside0 (Kd.R (Kd.int .i64) 3 w' w.heap.size (fun k_ => some k_ ≠ (v5 : Value).ownBlock) v170 x4_2) ∧ Aside0 (Kd.R (Kd.int .i64) 3 w' w.heap.size (fun k_ => some k_ ≠ (v170 : Value).ownBlock) v5 x5_2) ∧ Aside0 (Below w.heap.size w w'))
      case atStart => exact ⟨(x4_1), (([] : List Int)), (0), zq3, H', ⟨Nat.le_refl _⟩, ⟨by (with_reducible repeat (first | apply Kd.R_alloc | apply Kd.R_drewN | apply Kd.R_drew)); exact Kd.R_mono HO_4.out (fun _ hk => (by simp [Value.ownBlock]))⟩, ⟨zq82⟩, ⟨zq1⟩⟩
      case round =>
       clear H'
       try clear c1
       try clear c2
       try clear c2b0
       try clear c2b1
       try clear p2
       try clear c3
       try clear c3b0
       try clear c3b1
       try clear c6
       try clear c6b0
       try clear p6
       try clear c7
       try clear c7b0
       try clear c8
       try clear c8b0
       try clear p9
       try clear q9
       try clear hx9
       try clear hf9
       try clear hx9_0
       try clear p2
       try clear p9
       try clear q9
       obtain ⟨x4_2, x5_2, x28_2, rfl, HA, HK2, HO_4, HO_5, HB⟩ := hrel
       cases gk with
       | zero => exact absurd HA.out (by simp [spec_alClasses.l1])
       | succ k2 =>
        have H := HA.out
        clear HA
        simp only [spec_alClasses.l1] at H
        by_cases c12 : x28_2 < (l0.length : Int)
        ·rw [if_pos c12] at H
         have c12b0 : decide (x28_2 < (l0.length : Int)) = true := decide_eq_true c12
         clear c12
         by_cases c13 : 0 ≤ x28_2
         ·rw [if_pos c13] at H
          have c13b0 : decide (0 ≤ x28_2) = true := decide_eq_true c13
          clear c13
          by_cases c14 : x28_2 < (x4_2.length : Int)
          ·rw [if_pos c14] at H
           have c14b0 : decide (x28_2 < (x4_2.length : Int)) = true := decide_eq_true c14
           clear c14
           by_cases c15 : (rd x4_2 x28_2) ≥ 0
           ·rw [if_pos c15] at H
            have c15b0 : decide (0 ≤ (rd x4_2 x28_2)) = true := decide_eq_true c15
            clear c15
            have H' := am H
            clear H
            obtain ⟨Ao16, co16, eo16⟩ := Kd.R_slice HO_4.out
            subst eo16
            have p173 : 0 ≤ (x28_2 : Int) := of_decide_eq_true zq0
            have q173 : x28_2 < (x4_2.length : Int) := of_decide_eq_true zq0
            obtain ⟨ad173, e173, hx173_0⟩ := Kd.at_int (Kd.R_reads' HO_4.out).2.2 x28_2 p173 q173
            cases e173
            replace p173 := eq_true p173
            replace q173 := eq_true q173
            go_wp2
            repeat (go_quiet (fail); try go_wp2)
            go_roundg k2
            case measure => have := HK1.out; have := HK2.out; omega
            case rel => exact ⟨(x4_2), (x5_2), (wrap64 (x28_2 + 1)), zq3, H', ⟨zq64⟩, ⟨zq45⟩, ⟨by (with_reducible repeat (first | apply Kd.R_alloc | apply Kd.R_drewN | apply Kd.R_drew)); exact HO_5.out⟩, ⟨zq1⟩⟩
           ·rw [if_neg c15] at H
            have c15b0 : decide (0 ≤ (rd x4_2 x28_2)) = false := decide_eq_false c15
            clear c15
            obtain ⟨y174, hy174⟩ : ∃ y_ : List Int, y_ = (x4_2.set (x28_2 : Int).toNat (x5_2.length : Int)) := ⟨_, rfl⟩
            replace H : (spec_alClasses.l2 k2 l0 y174 x5_2 x28_2 (([x28_2] : List Int)) 0 (l0.length : Int) x28_2) = some (r1, r2) := by first | (rw [hy174]; exact zH) | exact zH
            have Ny174 := am hy174
            clear hy174
            obtain ⟨y175, hy175⟩ : ∃ y_ : List Int, y_ = (([x28_2] : List Int)) := ⟨_, rfl⟩
            replace H : (spec_alClasses.l2 k2 l0 y174 x5_2 x28_2 y175 0 (l0.length : Int) x28_2) = some (r1, r2) := by first | (rw [hy175]; exact zH) | exact zH
            have Ny175 := am hy175
            clear hy175
            have H' := am H
            clear H
            obtain ⟨Ao18, co18, eo18⟩ := Kd.R_slice HO_4.out
            subst eo18
            have p173 : 0 ≤ (x28_2 : Int) := of_decide_eq_true zq0
            have q173 : x28_2 < (x4_2.length : Int) := of_decide_eq_true zq0
            obtain ⟨ad173, e173, hx173_0⟩ := Kd.at_int (Kd.R_reads' HO_4.out).2.2 x28_2 p173 q173
            cases e173
            replace p173 := eq_true p173
            replace q173 := eq_true q173
            obtain ⟨Ao19, co19, eo19⟩ := Kd.R_slice HO_5.out
            subst eo19
            have p17 : 0 ≤ (x28_2 : Int) := of_decide_eq_true zq0
            have q17 : (x28_2 : Int) < ((x4_2.length : Int) : Int) := of_decide_eq_true zq0
            obtain ⟨go17, co17, eo17, gb17, gl17, cl17, HG17⟩ := Kd.R_form HO_4.out zq10
            (first | cases eo17 | (injection eo17 with ea_ en_ ec_; (first | subst ea_ | (injection ea_ with ea_; subst ea_)); subst ec_; clear en_))
            have GB17 := am gb17
            have GG17 := am HG17
            clear gb17 gl17 HG17
            (first | simp only [add_plain] at hx173_0 | skip)
            obtain ⟨hx17_0, hf17_0⟩ := Kd.R_celln 0 HO_4.out (x28_2 : Int) p17 q17
            replace p17 := eq_true p17
            replace q17 := eq_true q17
            have HP20 := Kd.R_putg HO_4.out (x28_2 : Int) (x5_2.length : Int)
            go_wp2_with (first | ((with_reducible refine gate_store (t := 3) (p := 40) rfl ?_); (try (rw [drewN_self wr]; generalize hq_ : World.drewN wr _ = wr; replace HO_4 := am (Kd.R_at hq_ HO_4.out); replace HO_5 := am (Kd.R_at hq_ HO_5.out); replace HB := am (below_at hq_ HB.out); clear hq_; (try (have HP20 := Kd.R_putg HO_4.out (x28_2 : Int) (x5_2.length : Int))))); refine store_event (t := 3) (p := 40) (v := ?vo_w21) (w1 := (wr.setCell ⟨go17, (x28_2 : Int).toNat, none⟩ (.int .i64 (x5_2.length : Int)))) ?hg ?ho ?hn ?hr ?_; (case ho => rfl); (case hg => rfl); (case hn => rfl); (case hr => exact zq8); intro w21 hw; have hg : wr.grownBy w21 (some go17) := (by rw [hw]; exact HP20.2); have hp_ : Kd.R (Kd.int .i64) 3 w21 w.heap.size (fun k_ => some k_ ≠ (.slice Ao19 x5_2.length co19 : Value).ownBlock) (.slice (some ⟨go17, 0, none⟩) x4_2.length co18) y174 := (by rw [hw, Ny174.out]; exact HP20.1); clear HP20; replace HO_4 := am (hp_); replace HO_5 := am (Kd.R_after (v := (.slice (some ⟨go17, 0, none⟩) x4_2.length co18)) (v1 := (.slice (some ⟨go17, 0, none⟩) x4_2.length co18)) (ok := (fun _ => True)) zq47 hg (.inl rfl)); replace HB := am ((zq61 : Below w.heap.size w w21)); clear hg hw hp_) | ((with_reducible refine gate_dst (N := 42) rfl ?_); refine Kd.R_lit (Kd.int .i64) _ 3 ?hg (N := 42) ?hd (xs := ([x28_2] : List Int)) (inner := [.int .i64 x28_2]) (ok := fun _ => True) (okp := fun _ => True) ?hr ?hp (fun _ hk => hk) trivial (Below.refl _ _) (Nat.le_refl _) zq24 ?_; (case hd => rfl); (case hg => rfl); (case hr => exact zq8); (case hp => exact zq70); intro v176 w22 ho23 hb hg_ hnew_; clear hg_ hnew_; (first | rw [← Ny175.out] at ho23 | (simp only [Int.reduceToNat] at ho23; rw [← Ny175.out] at ho23)); have HO177 := am (Kd.R_lower (Kd.R_new' (Kd.R_new' ho23 (Kd.R_lt (pRq3 HO_4))) (Kd.R_lt (pRq3 HO_5))) (below_size (pBq3 HB))); replace HO_4 := am (Kd.R_elder' (pRq3 HO_4) (Kd.R_base ho23) hb); replace HO_5 := am (Kd.R_elder' (pRq3 HO_5) (Kd.R_base ho23) hb); replace HB := am (below_step (pBq3 HB) hb); clear hb ho23))
            repeat (go_quiet (first | ((with_reducible refine gate_store (t := 3) (p := 40) rfl ?_); (try (rw [drewN_self wr]; generalize hq_ : World.drewN wr _ = wr; replace HO_4 := am (Kd.R_at hq_ HO_4.out); replace HO_5 := am (Kd.R_at hq_ HO_5.out); replace HB := am (below_at hq_ HB.out); clear hq_; (try (have HP20 := Kd.R_putg HO_4.out (x28_2 : Int) (x5_2.length : Int))))); refine store_event (t := 3) (p := 40) (v := ?vo_w21) (w1 := (wr.setCell ⟨go17, (x28_2 : Int).toNat, none⟩ (.int .i64 (x5_2.length : Int)))) ?hg ?ho ?hn ?hr ?_; (case ho => rfl); (case hg => rfl); (case hn => rfl); (case hr => exact zq8); intro w21 hw; have hg : wr.grownBy w21 (some go17) := (by rw [hw]; exact HP20.2); have hp_ : Kd.R (Kd.int .i64) 3 w21 w.heap.size (fun k_ => some k_ ≠ (.slice Ao19 x5_2.length co19 : Value).ownBlock) (.slice (some ⟨go17, 0, none⟩) x4_2.length co18) y174 := (by rw [hw, Ny174.out]; exact HP20.1); clear HP20; replace HO_4 := am (hp_); replace HO_5 := am (Kd.R_after (v := (.slice (some ⟨go17, 0, none⟩) x4_2.length co18)) (v1 := (.slice (some ⟨go17, 0, none⟩) x4_2.length co18)) (ok := (fun _ => True)) zq47 hg (.inl rfl)); replace HB := am ((zq61 : Below w.heap.size w w21)); clear hg hw hp_) | ((with_reducible refine gate_dst (N := 42) rfl ?_); refine Kd.R_lit (Kd.int .i64) _ 3 ?hg (N := 42) ?hd (xs := ([x28_2] : List Int)) (inner := [.int .i64 x28_2]) (ok := fun _ => True) (okp := fun _ => True) ?hr ?hp (fun _ hk => hk) trivial (Below.refl _ _) (Nat.le_refl _) zq24 ?_; (case hd => rfl); (case hg => rfl); (case hr => exact zq8); (case hp => exact zq70); intro v176 w22 ho23 hb hg_ hnew_; clear hg_ hnew_; (first | rw [← Ny175.out] at ho23 | (simp only [Int.reduceToNat] at ho23; rw [← Ny175.out] at ho23)); have HO177 := am (Kd.R_lower (Kd.R_new' (Kd.R_new' ho23 (Kd.R_lt (pRq3 HO_4))) (Kd.R_lt (pRq3 HO_5))) (below_size (pBq3 HB))); replace HO_4 := am (Kd.R_elder' (pRq3 HO_4) (Kd.R_base ho23) hb); replace HO_5 := am (Kd.R_elder' (pRq3 HO_5) (Kd.R_base ho23) hb); replace HB := am (below_step (pBq3 HB) hb); clear hb ho23)); try go_wp2_with (first | ((with_reducible refine gate_store (t := 3) (p := 40) rfl ?_); (try (rw [drewN_self wr]; generalize hq_ : World.drewN wr _ = wr; replace HO_4 := am (Kd.R_at hq_ HO_4.out); replace HO_5 := am (Kd.R_at hq_ HO_5.out); replace HB := am (below_at hq_ HB.out); clear hq_; (try (have HP20 := Kd.R_putg HO_4.out (x28_2 : Int) (x5_2.length : Int))))); refine store_event (t := 3) (p := 40) (v := ?vo_w21) (w1 := (wr.setCell ⟨go17, (x28_2 : Int).toNat, none⟩ (.int .i64 (x5_2.length : Int)))) ?hg ?ho ?hn ?hr ?_; (case ho => rfl); (case hg => rfl); (case hn => rfl); (case hr => exact zq8); intro w21 hw; have hg : wr.grownBy w21 (some go17) := (by rw [hw]; exact HP20.2); have hp_ : Kd.R (Kd.int .i64) 3 w21 w.heap.size (fun k_ => some k_ ≠ (.slice Ao19 x5_2.length co19 : Value).ownBlock) (.slice (some ⟨go17, 0, none⟩) x4_2.length co18) y174 := (by rw [hw, Ny174.out]; exact HP20.1); clear HP20; replace HO_4 := am (hp_); replace HO_5 := am (Kd.R_after (v := (.slice (some ⟨go17, 0, none⟩) x4_2.length co18)) (v1 := (.slice (some ⟨go17, 0, none⟩) x4_2.length co18)) (ok := (fun _ => True)) zq47 hg (.inl rfl)); replace HB := am ((zq61 : Below w.heap.size w w21)); clear hg hw hp_) | ((with_reducible refine gate_dst (N := 42) rfl ?_); refine Kd.R_lit (Kd.int .i64) _ 3 ?hg (N := 42) ?hd (xs := ([x28_2] : List Int)) (inner := [.int .i64 x28_2]) (ok := fun _ => True) (okp := fun _ => True) ?hr ?hp (fun _ hk => hk) trivial (Below.refl _ _) (Nat.le_refl _) zq24 ?_; (case hd => rfl); (case hg => rfl); (case hr => exact zq8); (case hp => exact zq70); intro v176 w22 ho23 hb hg_ hnew_; clear hg_ hnew_; (first | rw [← Ny175.out] at ho23 | (simp only [Int.reduceToNat] at ho23; rw [← Ny175.out] at ho23)); have HO177 := am (Kd.R_lower (Kd.R_new' (Kd.R_new' ho23 (Kd.R_lt (pRq3 HO_4))) (Kd.R_lt (pRq3 HO_5))) (below_size (pBq3 HB))); replace HO_4 := am (Kd.R_elder' (pRq3 HO_4) (Kd.R_base ho23) hb); replace HO_5 := am (Kd.R_elder' (pRq3 HO_5) (Kd.R_base ho23) hb); replace HB := am (below_step (pBq3 HB) hb); clear hb ho23)))
            go_loopg [8, 9] k2 (fun kq v8 v9 w' => ∃ (x4_3 : List Int) (x5_3 : List Int) (x8_3 : List Int) (x9_3 : Int), v9 = .int .i64 x9_3 ∧ Aside0 (spec_alClasses.l2 kq l0 x4_3 x5_3 x28_2 x8_3 x9_3 (l0.length : Int) x28_2 = some (r1, r2)) ∧ Aside0 (kq ≤ k2) ∧ Aside0 (Kd.R (Kd.int .i64) 3 w' w.heap.size (fun k_ => some k_ ≠ ((.slice Ao19 x5_2.length co19) : Value).ownBlock ∧ some k_ ≠ (v8 : Value).ownBlock) (.slice (some ⟨go17, 0, none⟩) x4_2.length co18) x4_3) ∧ Aside0 (Kd.R (Kd.int .i64) 3 w' w.heap.size (fun k_ => some k_ ≠ ((.slice (some ⟨go17, 0, none⟩) x4_2.length co18) : Value).ownBlock ∧ some k_ ≠ (v8 : Value).ownBlock) (.slice Ao19 x5_2.length co19) x5_3) ∧ Aside0 (Kd.R (Kd.int .i64) 3 w' w.heap.size (fun k_ => some k_ ≠ ((.slice (some ⟨go17, 0, none⟩) x4_2.length co18) : Value).ownBlock ∧ some k_ ≠ ((.slice Ao19 x5_2.length co19) : Value).ownBlock) v8 x8_3) ∧ Aside0 (Below w.heap.size w w'))
            case atStart => exact ⟨(y174), (x5_2), (y175), (0), zq3, H', ⟨Nat.le_refl _⟩, ⟨zq45⟩, ⟨by (with_reducible repeat (first | apply Kd.R_alloc | apply Kd.R_drewN | apply Kd.R_drew)); exact Kd.R_mono HO_5.out (fun _ hk => ⟨hk.1.2, hk.2⟩)⟩, ⟨by (with_reducible repeat (first | apply Kd.R_alloc | apply Kd.R_drewN | apply Kd.R_drew)); exact Kd.R_mono HO177.out (fun _ hk => ⟨hk.1.2, hk.2⟩)⟩, ⟨zq1⟩⟩
            case round =>
             clear H'
             try clear c1
             try clear p1
             try clear q1
             try clear hx1
             try clear hf1
             try clear c2
             try clear c2b0
             try clear c2b1
             try clear p2
             try clear c3
             try clear c3b0
             try clear c3b1
             try clear c6
             try clear c6b0
             try clear p6
             try clear c7
             try clear c7b0
             try clear c8
             try clear c8b0
             try clear p9
             try clear q9
             try clear hx9
             try clear hf9
             try clear c12
             try clear c12b0
             try clear c13
             try clear c13b0
             try clear c14
             try clear c14b0
             try clear c15
             try clear c15b0
             try clear c17
             try clear p17
             try clear q17
             try clear hx17
             try clear hf17
             try clear hx173_0
             try clear hx17_0
             try clear hx9_0
             try clear p17
             try clear p173
             try clear p2
             try clear p6
             try clear p9
             try clear q17
             try clear q173
             try clear q9
             obtain ⟨x4_3, x5_3, x8_3, x9_3, rfl, HA, HK3, HO_4, HO_5, HO_8, HB⟩ := hrel
             have hl4_3 := (Kd.R_reads' HO_4.out).1
             rw [hl4_3] at HO_4
             (try simp only [hl4_3])
             (try simp only [hl4_3] at HO_5)
             (try simp only [hl4_3] at HO_8)
             have hl5_3 := (Kd.R_reads' HO_5.out).1
             rw [hl5_3] at HO_5
             (try simp only [hl5_3])
             (try simp only [hl5_3] at HO_4)
             (try simp only [hl5_3] at HO_8)
             cases gk with
             | zero => exact absurd HA.out (by simp [spec_alClasses.l2])
             | succ k3 =>
              have H := HA.out
              clear HA
              simp only [spec_alClasses.l2] at H
              by_cases c24 : x9_3 < (x8_3.length : Int)
              ·rw [if_pos c24] at H
               have c24b0 : decide (x9_3 < (x8_3.length : Int)) = true := decide_eq_true c24
               clear c24
               by_cases c25 : 0 ≤ x9_3
               ·rw [if_pos c25] at H
                have c25b0 : decide (0 ≤ x9_3) = true := decide_eq_true c25
                clear c25
                by_cases c26 : 0 ≤ (rd x8_3 x9_3)
                ·rw [if_pos c26] at H
                 have c26b0 : decide (0 ≤ (rd x8_3 x9_3)) = true := decide_eq_true c26
                 clear c26
                 by_cases c27 : (rd x8_3 x9_3) < (l0.length : Int)
                 ·rw [if_pos c27] at H
                  have c27b0 : decide ((rd x8_3 x9_3) < (l0.length : Int)) = true := decide_eq_true c27
                  clear c27
                  have H' := am H
                  clear H
                  obtain ⟨Ao28, co28, eo28⟩ := Kd.R_slice HO_8.out
                  subst eo28
                  have p181 : 0 ≤ (x9_3 : Int) := of_decide_eq_true zq0
                  have q181 : x9_3 < (x8_3.length : Int) := of_decide_eq_true zq0
                  obtain ⟨ad181, e181, hx181_0⟩ := Kd.at_int (Kd.R_reads' HO_8.out).2.2 x9_3 p181 q181
                  cases e181
                  replace p181 := eq_true p181
                  replace q181 := eq_true q181
                  have p182 : 0 ≤ ((rd x8_3 x9_3) : Int) := of_decide_eq_true zq0
                  have q182 : (rd x8_3 x9_3) < (l0.length : Int) := of_decide_eq_true zq0
                  obtain ⟨ad182, A182_0, c182_0, e182, hx182_0, hl182_0, hi182_0⟩ := at_L1 HR0.out (rd x8_3 x9_3) p182 q182
                  cases e182
                  replace hx182_0 := (HB.out.cell (World.block_lt_of_cell? w _ hx182_0)).trans hx182_0
                  have HR182_0 := am hi182_0
                  have HC182_0 := am hl182_0
                  clear hi182_0 hl182_0
                  replace p182 := eq_true p182
                  replace q182 := eq_true q182
                  go_wp2
                  repeat (go_quiet (fail); try go_wp2)
                  go_loopg [8, 11] k3 (fun kq v8 v11 w' => ∃ (x4_4 : List Int) (x5_4 : List Int) (x8_4 : List Int) (x11_4 : Int), v11 = .int .i64 x11_4 ∧ Aside0 (spec_alClasses.l3 kq l0 x4_4 x5_4 x28_2 x8_4 x9_3 (rd_L1 l0 (rd x8_3 x9_3)) x11_4 (l0.length : Int) x28_2 = some (r1, r2)) ∧ Aside0 (kq ≤ k3) ∧ Aside0 (Kd.R (Kd.int .i64) 3 w' w.heap.size (fun k_ => some k_ ≠ ((.slice Ao19 x5_3.length co19) : Value).ownBlock ∧ some k_ ≠ (v8 : Value).ownBlock) (.slice (some ⟨go17, 0, none⟩) x4_3.length co18) x4_4) ∧ Aside0 (Kd.R (Kd.int .i64) 3 w' w.heap.size (fun k_ => some k_ ≠ ((.slice (some ⟨go17, 0, none⟩) x4_3.length co18) : Value).ownBlock ∧ some k_ ≠ (v8 : Value).ownBlock) (.slice Ao19 x5_3.length co19) x5_4) ∧ Aside0 (Kd.R (Kd.int .i64) 3 w' w.heap.size (fun k_ => some k_ ≠ ((.slice (some ⟨go17, 0, none⟩) x4_3.length co18) : Value).ownBlock ∧ some k_ ≠ ((.slice Ao19 x5_3.length co19) : Value).ownBlock) v8 x8_4) ∧ Aside0 (Below w.heap.size w w'))
                  case atStart => exact ⟨(x4_3), (x5_3), (x8_3), (0), zq3, H', ⟨Nat.le_refl _⟩, ⟨by (try simp only [hl4_3]); (try simp only [hl5_3]); (with_reducible repeat (first | apply Kd.R_alloc | apply Kd.R_drewN | apply Kd.R_drew)); exact HO_4.out⟩, ⟨by (try simp only [hl4_3]); (try simp only [hl5_3]); (with_reducible repeat (first | apply Kd.R_alloc | apply Kd.R_drewN | apply Kd.R_drew)); exact HO_5.out⟩, ⟨by (try simp only [hl4_3]); (try simp only [hl5_3]); (with_reducible repeat (first | apply Kd.R_alloc | apply Kd.R_drewN | apply Kd.R_drew)); exact HO_8.out⟩, ⟨zq1⟩⟩
                  case round =>
                   clear H'
                   try clear c1
                   try clear p1
                   try clear q1
                   try clear hx1
                   try clear hf1
                   try clear c2
                   try clear c2b0
                   try clear c2b1
                   try clear p2
                   try clear c3
                   try clear c3b0
                   try clear c3b1
                   try clear c6
                   try clear c6b0
                   try clear p6
                   try clear c7
                   try clear c7b0
                   try clear c8
                   try clear c8b0
                   try clear p9
                   try clear q9
                   try clear hx9
                   try clear hf9
                   try clear c12
                   try clear c12b0
                   try clear c13
                   try clear c13b0
                   try clear c14
                   try clear c14b0
                   try clear c15
                   try clear c15b0
                   try clear c17
                   try clear p17
                   try clear q17
                   try clear hx17
                   try clear hf17
                   try clear c18
                   try clear p18
                   try clear q18
                   try clear hx18
                   try clear c24
                   try clear c24b0
                   try clear c25
                   try clear c25b0
                   try clear c26
                   try clear c26b0
                   try clear c27
                   try clear c27b0
                   try clear hx173_0
                   try clear hx17_0
                   try clear hx181_0
                   try clear hx182_0
                   try clear hx9_0
                   try clear p1
                   try clear p17
                   try clear p173
                   try clear p181
                   try clear p182
                   try clear p2
                   try clear p6
                   try clear p9
                   try clear q1
                   try clear q17
                   try clear q173
                   try clear q181
                   try clear q182
                   try clear q9
                   obtain ⟨x4_4, x5_4, x8_4, x11_4, rfl, HA, HK4, HO_4, HO_5, HO_8, HB⟩ := hrel
                   have hl4_4 := (Kd.R_reads' HO_4.out).1
                   rw [hl4_4] at HO_4
                   (try simp only [hl4_4])
                   (try simp only [hl4_4] at HO_5)
                   (try simp only [hl4_4] at HO_8)
                   have hl5_4 := (Kd.R_reads' HO_5.out).1
                   rw [hl5_4] at HO_5
                   (try simp only [hl5_4])
                   (try simp only [hl5_4] at HO_4)
                   (try simp only [hl5_4] at HO_8)
                   cases gk with
                   | zero => exact absurd HA.out (by simp [spec_alClasses.l3])
                   | succ k4 =>
                    have H := HA.out
                    clear HA
                    simp only [spec_alClasses.l3] at H
                    by_cases c29 : (wrap64 (x11_4 + 1)) < ((rd_L1 l0 (rd x8_3 x9_3)).length : Int)
                    ·rw [if_pos c29] at H
                     have c29b0 : decide ((wrap64 (x11_4 + 1)) < ((rd_L1 l0 (rd x8_3 x9_3)).length : Int)) = true := decide_eq_true c29
                     clear c29
                     by_cases c30 : 0 ≤ x11_4
                     ·rw [if_pos c30] at H
                      have c30b0 : decide (0 ≤ x11_4) = true := decide_eq_true c30
                      clear c30
                      by_cases c31 : x11_4 < ((rd_L1 l0 (rd x8_3 x9_3)).length : Int)
                      ·rw [if_pos c31] at H
                       have c31b0 : decide (x11_4 < ((rd_L1 l0 (rd x8_3 x9_3)).length : Int)) = true := decide_eq_true c31
                       clear c31
                       obtain ⟨ji32, hji32⟩ : ∃ j_ : Int, (wrap64 (x11_4 + 1)) = j_ := ⟨_, rfl⟩
                       replace H : (if 0 ≤ (ji32) then ((spec_l1Abs.f (wrap64 ((rd (rd_L1 l0 (rd x8_3 x9_3)) x11_4) - (rd (rd_L1 l0 (rd x8_3 x9_3)) (ji32))))).bind fun t185 => (if t185 < 2 then (spec_alClasses.l3 k4 l0 x4_4 x5_4 x28_2 x8_4 x9_3 (rd_L1 l0 (rd x8_3 x9_3)) ji32 (l0.length : Int) x28_2) else ((spec_l1Own.f (rd_L1 l0 (rd x8_3 x9_3))).bind fun t186 => (if x11_4 < (t186.length : Int) then (if (ji32) < (t186.length : Int) then ((spec_alPlace.f k4 l0 ((t186.set (x11_4 : Int).toNat (rd (rd_L1 l0 (rd x8_3 x9_3)) (ji32))).set ((ji32) : Int).toNat (rd (rd_L1 l0 (rd x8_3 x9_3)) x11_4))).bind fun t193 => (if 0 ≤ t193 then (if t193 < (x4_4.length : Int) then (if (rd x4_4 t193) < 0 then (if 0 ≤ x28_2 then (if x28_2 < (x4_4.length : Int) then (if x8_4.length < 17592186044416 then (spec_alClasses.l3 k4 l0 (x4_4.set (t193 : Int).toNat (rd x4_4 x28_2)) x5_4 x28_2 (x8_4 ++ [t193]) x9_3 (rd_L1 l0 (rd x8_3 x9_3)) ji32 (l0.length : Int) x28_2) else (none)) else (none)) else (none)) else (spec_alClasses.l3 k4 l0 x4_4 x5_4 x28_2 x8_4 x9_3 (rd_L1 l0 (rd x8_3 x9_3)) ji32 (l0.length : Int) x28_2)) else (none)) else (none))) else (none)) else (none))))) else (none)) = some (r1, r2) := by first | (rw [hji32] at H; exact H) | (simp only [hji32] at H ⊢; exact H)
                       (try rw [hji32] at c29b0)
                       have hji32w : (IntKind.i64.wrap (x11_4 + 1)) = ji32 := (i64_w _).trans hji32
                       by_cases c33 : 0 ≤ (ji32)
                       ·rw [if_pos c33] at H
                        have c33b0 : decide (0 ≤ (ji32)) = true := decide_eq_true c33
                        clear c33
                        obtain ⟨t185, A34, H⟩ := zS H
                        (try dsimp only at H)
                        by_cases c35 : t185 < 2
                        ·rw [if_pos c35] at H
                         have c35b0 : decide (t185 < 2) = true := decide_eq_true c35
                         clear c35
                         have H' := am H
                         clear H
                         have p183 : 0 ≤ (x11_4 : Int) := of_decide_eq_true zq0
                         have q183 : x11_4 < ((rd_L1 l0 (rd x8_3 x9_3)).length : Int) := of_decide_eq_true zq0
                         obtain ⟨ad183, e183, hx183_0⟩ := Kd.at_int HR182_0.out x11_4 p183 q183
                         cases e183
                         replace hx183_0 := (HB.out.cell (World.block_lt_of_cell? w _ hx183_0)).trans hx183_0
                         replace p183 := eq_true p183
                         replace q183 := eq_true q183
                         have p184 : 0 ≤ ((ji32) : Int) := of_decide_eq_true zq0
                         have q184 : (ji32) < ((rd_L1 l0 (rd x8_3 x9_3)).length : Int) := of_decide_eq_true zq0
                         obtain ⟨ad184, e184, hx184_0⟩ := Kd.at_int HR182_0.out (ji32) p184 q184
                         obtain rfl : ad183 = ad184 := (by injection e184)
                         replace hx184_0 := (HB.out.cell (World.block_lt_of_cell? w _ hx184_0)).trans hx184_0
                         replace p184 := eq_true p184
                         replace q184 := eq_true q184
                         go_wp2_with (first | (go_at_call 24; (with_reducible refine (spec_l1Abs.calls (wrap64 ((rd (rd_L1 l0 (rd x8_3 x9_3)) x11_4) - (rd (rd_L1 l0 (rd x8_3 x9_3)) (ji32)))) t185 _ A34.out).mono ?_); rintro e w' ⟨rfl, ⟨nd, rfl⟩⟩; (try first | exact ⟨rfl, _, World.drewN_drewN _ _ _⟩ | exact ⟨rfl, _, Eq.trans (World.drewN_drewN _ _ _) (congrArg (World.drewN _) (Nat.add_assoc _ _ _))⟩)))
                         repeat (go_quiet (first | (go_at_call 24; (with_reducible refine (spec_l1Abs.calls (wrap64 ((rd (rd_L1 l0 (rd x8_3 x9_3)) x11_4) - (rd (rd_L1 l0 (rd x8_3 x9_3)) (ji32)))) t185 _ A34.out).mono ?_); rintro e w' ⟨rfl, ⟨nd, rfl⟩⟩; (try first | exact ⟨rfl, _, World.drewN_drewN _ _ _⟩ | exact ⟨rfl, _, Eq.trans (World.drewN_drewN _ _ _) (congrArg (World.drewN _) (Nat.add_assoc _ _ _))⟩))); try go_wp2_with (first | (go_at_call 24; (with_reducible refine (spec_l1Abs.calls (wrap64 ((rd (rd_L1 l0 (rd x8_3 x9_3)) x11_4) - (rd (rd_L1 l0 (rd x8_3 x9_3)) (ji32)))) t185 _ A34.out).mono ?_); rintro e w' ⟨rfl, ⟨nd, rfl⟩⟩; (try first | exact ⟨rfl, _, World.drewN_drewN _ _ _⟩ | exact ⟨rfl, _, Eq.trans (World.drewN_drewN _ _ _) (congrArg (World.drewN _) (Nat.add_assoc _ _ _))⟩))))
                         (try simp only [← hl4_4, ← hl5_4])
                         go_roundg k4
                         case measure => have := HK1.out; have := HK2.out; have := HK3.out; have := HK4.out; omega
                         case rel => exact ⟨(x4_4), (x5_4), (x8_4), (ji32), zq63, H', ⟨zq56⟩, ⟨zq60⟩, ⟨zq59⟩, ⟨zq58⟩, ⟨zq1⟩⟩
                        ·rw [if_neg c35] at H
                         have c35b0 : decide (t185 < 2) = false := decide_eq_false c35
                         clear c35
                         obtain ⟨t186, A36, H⟩ := zS H
                         (try dsimp only at H)
                         by_cases c37 : x11_4 < (t186.length : Int)
                         ·rw [if_pos c37] at H
                          have c37b0 : decide (x11_4 < (t186.length : Int)) = true := decide_eq_true c37
                          clear c37
                          obtain ⟨y190, hy190⟩ : ∃ y_ : List Int, y_ = (t186.set (x11_4 : Int).toNat (rd (rd_L1 l0 (rd x8_3 x9_3)) (ji32))) := ⟨_, rfl⟩
                          replace H : (if (ji32) < (t186.length : Int) then ((spec_alPlace.f k4 l0 (y190.set ((ji32) : Int).toNat (rd (rd_L1 l0 (rd x8_3 x9_3)) x11_4))).bind fun t193 => (if 0 ≤ t193 then (if t193 < (x4_4.length : Int) then (if (rd x4_4 t193) < 0 then (if 0 ≤ x28_2 then (if x28_2 < (x4_4.length : Int) then (if x8_4.length < 17592186044416 then (spec_alClasses.l3 k4 l0 (x4_4.set (t193 : Int).toNat (rd x4_4 x28_2)) x5_4 x28_2 (x8_4 ++ [t193]) x9_3 (rd_L1 l0 (rd x8_3 x9_3)) ji32 (l0.length : Int) x28_2) else (none)) else (none)) else (none)) else (spec_alClasses.l3 k4 l0 x4_4 x5_4 x28_2 x8_4 x9_3 (rd_L1 l0 (rd x8_3 x9_3)) ji32 (l0.length : Int) x28_2)) else (none)) else (none))) else (none)) = some (r1, r2) := by first | (rw [hy190]; exact zH) | exact zH
                          have Ny190 := am hy190
                          clear hy190
                          by_cases c39 : (ji32) < (t186.length : Int)
                          ·rw [if_pos c39] at H
                           have c39b0 : decide ((ji32) < (t186.length : Int)) = true := decide_eq_true c39
                           clear c39
                           obtain ⟨y192, hy192⟩ : ∃ y_ : List Int, y_ = (y190.set ((ji32) : Int).toNat (rd (rd_L1 l0 (rd x8_3 x9_3)) x11_4)) := ⟨_, rfl⟩
                           replace H : ((spec_alPlace.f k4 l0 y192).bind fun t193 => (if 0 ≤ t193 then (if t193 < (x4_4.length : Int) then (if (rd x4_4 t193) < 0 then (if 0 ≤ x28_2 then (if x28_2 < (x4_4.length : Int) then (if x8_4.length < 17592186044416 then (spec_alClasses.l3 k4 l0 (x4_4.set (t193 : Int).toNat (rd x4_4 x28_2)) x5_4 x28_2 (x8_4 ++ [t193]) x9_3 (rd_L1 l0 (rd x8_3 x9_3)) ji32 (l0.length : Int) x28_2) else (none)) else (none)) else (none)) else (spec_alClasses.l3 k4 l0 x4_4 x5_4 x28_2 x8_4 x9_3 (rd_L1 l0 (rd x8_3 x9_3)) ji32 (l0.length : Int) x28_2)) else (none)) else (none))) = some (r1, r2) := by first | (rw [hy192]; exact zH) | exact zH
                           have Ny192 := am hy192
                           clear hy192
                           obtain ⟨t193, A41, H⟩ := zS H
                           (try dsimp only at H)
                           by_cases c42 : 0 ≤ t193
                           ·rw [if_pos c42] at H
                            have c42b0 : decide (0 ≤ t193) = true := decide_eq_true c42
                            clear c42
                            by_cases c43 : t193 < (x4_4.length : Int)
                            ·rw [if_pos c43] at H
                             have c43b0 : decide (t193 < (x4_4.length : Int)) = true := decide_eq_true c43
                             clear c43
                             by_cases c44 : (rd x4_4 t193) < 0
                             ·rw [if_pos c44] at H
                              have c44b0 : decide ((rd x4_4 t193) < 0) = true := decide_eq_true c44
                              clear c44
                              by_cases c45 : 0 ≤ x28_2
                              ·rw [if_pos c45] at H
                               have c45b0 : decide (0 ≤ x28_2) = true := decide_eq_true c45
                               clear c45
                               by_cases c46 : x28_2 < (x4_4.length : Int)
                               ·rw [if_pos c46] at H
                                have c46b0 : decide (x28_2 < (x4_4.length : Int)) = true := decide_eq_true c46
                                clear c46
                                obtain ⟨y196, hy196⟩ : ∃ y_ : List Int, y_ = (x4_4.set (t193 : Int).toNat (rd x4_4 x28_2)) := ⟨_, rfl⟩
                                replace H : (if x8_4.length < 17592186044416 then (spec_alClasses.l3 k4 l0 y196 x5_4 x28_2 (x8_4 ++ [t193]) x9_3 (rd_L1 l0 (rd x8_3 x9_3)) ji32 (l0.length : Int) x28_2) else (none)) = some (r1, r2) := by first | (rw [hy196]; exact zH) | exact zH
                                have Ny196 := am hy196
                                clear hy196
                                by_cases c48 : x8_4.length < 17592186044416
                                ·rw [if_pos c48] at H
                                 have LMc48 := am c48
                                 clear c48
                                 obtain ⟨y197, hy197⟩ : ∃ y_ : List Int, y_ = (x8_4 ++ [t193]) := ⟨_, rfl⟩
                                 replace H : (spec_alClasses.l3 k4 l0 y196 x5_4 x28_2 y197 x9_3 (rd_L1 l0 (rd x8_3 x9_3)) ji32 (l0.length : Int) x28_2) = some (r1, r2) := by first | (rw [hy197]; exact zH) | exact zH
                                 have Ny197 := am hy197
                                 clear hy197
                                 have H' := am H
                                 clear H
                                 have p183 : 0 ≤ (x11_4 : Int) := of_decide_eq_true zq0
                                 have q183 : x11_4 < ((rd_L1 l0 (rd x8_3 x9_3)).length : Int) := of_decide_eq_true zq0
                                 obtain ⟨ad183, e183, hx183_0⟩ := Kd.at_int HR182_0.out x11_4 p183 q183
                                 cases e183
                                 replace hx183_0 := (HB.out.cell (World.block_lt_of_cell? w _ hx183_0)).trans hx183_0
                                 replace p183 := eq_true p183
                                 replace q183 := eq_true q183
                                 have p184 : 0 ≤ ((ji32) : Int) := of_decide_eq_true zq0
                                 have q184 : (ji32) < ((rd_L1 l0 (rd x8_3 x9_3)).length : Int) := of_decide_eq_true zq0
                                 obtain ⟨ad184, e184, hx184_0⟩ := Kd.at_int HR182_0.out (ji32) p184 q184
                                 obtain rfl : ad183 = ad184 := (by injection e184)
                                 replace hx184_0 := (HB.out.cell (World.block_lt_of_cell? w _ hx184_0)).trans hx184_0
                                 replace p184 := eq_true p184
                                 replace q184 := eq_true q184
                                 go_wp2_with (first | (go_at_call 24; (with_reducible refine (spec_l1Abs.calls (wrap64 ((rd (rd_L1 l0 (rd x8_3 x9_3)) x11_4) - (rd (rd_L1 l0 (rd x8_3 x9_3)) (ji32)))) t185 _ A34.out).mono ?_); rintro e w' ⟨rfl, ⟨nd, rfl⟩⟩; (try first | exact ⟨rfl, _, World.drewN_drewN _ _ _⟩ | exact ⟨rfl, _, Eq.trans (World.drewN_drewN _ _ _) (congrArg (World.drewN _) (Nat.add_assoc _ _ _))⟩)) | (go_at_call 25; (with_reducible refine (spec_l1Own.calls _ _ (rd_L1 l0 (rd x8_3 x9_3)) t186 _ ?side1 ?side2 A36.out).mono ?_); (case side1 => exact zq18); (case side2 => exact HC182_0.out); rintro e w49 ⟨v187, rfl, ho0, hb⟩; have HO188 := am (Kd.R_lower (Kd.R_new' (Kd.R_new' (Kd.R_new' ho0 (Kd.R_lt (pRq3 HO_4))) (Kd.R_lt (pRq3 HO_5))) (Kd.R_lt (pRq3 HO_8))) (below_size (pBq3 HB))); replace HO_4 := am (Kd.R_elder' (pRq3 HO_4) (Kd.R_base ho0) hb); replace HO_5 := am (Kd.R_elder' (pRq3 HO_5) (Kd.R_base ho0) hb); replace HO_8 := am (Kd.R_elder' (pRq3 HO_8) (Kd.R_base ho0) hb); replace HB := am (below_step (pBq3 HB) hb); (try clear hb hk ho0); have p189 : 0 ≤ ((ji32) : Int) := of_decide_eq_true zq0; have q189 : (ji32) < ((rd_L1 l0 (rd x8_3 x9_3)).length : Int) := of_decide_eq_true zq0; obtain ⟨ad189, e189, hx189_0⟩ := Kd.at_int HR182_0.out (ji32) p189 q189; obtain rfl : ad183 = ad189 := (by injection e189); replace hx189_0 := (HB.out.cell (World.block_lt_of_cell? w _ hx189_0)).trans hx189_0; replace p189 := eq_true p189; replace q189 := eq_true q189; have p38 : 0 ≤ (x11_4 : Int) := of_decide_eq_true zq0; have q38 : (x11_4 : Int) < ((t186.length : Int) : Int) := of_decide_eq_true zq0; obtain ⟨go38, co38, eo38, gb38, gl38, cl38, HG38⟩ := Kd.R_form HO188.out zq10; (first | cases eo38 | (injection eo38 with ea_ en_ ec_; (first | subst ea_ | (injection ea_ with ea_; subst ea_)); subst ec_; clear en_)); have GB38 := am gb38; have GG38 := am HG38; clear gb38 gl38 HG38; obtain ⟨hx38_0, hf38_0⟩ := Kd.R_celln 0 HO188.out (x11_4 : Int) p38 q38; replace p38 := eq_true p38; replace q38 := eq_true q38; have n_ := am (Kd.R_mono (ok' := (fun k_ => some k_ ≠ (.slice (some ⟨go17, 0, none⟩) x4_4.length co18 : Value).ownBlock ∧ some k_ ≠ (.slice Ao19 x5_4.length co19 : Value).ownBlock ∧ some k_ ≠ (u8 : Value).ownBlock)) HO188.out (fun k_ hk => ⟨hk.1.1.2, ⟨hk.1.2, hk.2⟩⟩)); clear HO188; have HO188 := n_; clear n_; obtain ⟨hy50_, hz50_⟩ := Kd.R_celln 0 HO188.out (x11_4 : Int) (of_decide_eq_true zq0) (of_decide_eq_true zq0); have HP50 := Kd.R_putg HO188.out (x11_4 : Int) (rd (rd_L1 l0 (rd x8_3 x9_3)) (ji32))) | ((with_reducible refine gate_store (t := 3) (p := 84) rfl ?_); (try (rw [drewN_self w49]; generalize hq_ : World.drewN w49 _ = w49; replace HO_4 := am (Kd.R_at hq_ HO_4.out); replace HO_5 := am (Kd.R_at hq_ HO_5.out); replace HO_8 := am (Kd.R_at hq_ HO_8.out); replace HO188 := am (Kd.R_at hq_ HO188.out); replace HB := am (below_at hq_ HB.out); clear hq_; (try (have n_ := am (Kd.R_mono (ok' := (fun k_ => some k_ ≠ (.slice (some ⟨go17, 0, none⟩) x4_4.length co18 : Value).ownBlock ∧ some k_ ≠ (.slice Ao19 x5_4.length co19 : Value).ownBlock ∧ some k_ ≠ (u8 : Value).ownBlock)) HO188.out (fun k_ hk => ⟨hk.1.1.2, ⟨hk.1.2, hk.2⟩⟩)); clear HO188; have HO188 := n_; clear n_)); (try (obtain ⟨hy50_, hz50_⟩ := Kd.R_celln 0 HO188.out (x11_4 : Int) (of_decide_eq_true zq0) (of_decide_eq_true zq0))); (try (have HP50 := Kd.R_putg HO188.out (x11_4 : Int) (rd (rd_L1 l0 (rd x8_3 x9_3)) (ji32)))))); refine store_event (t := 3) (p := 84) (v := ?vo_w51) (w1 := (w49.setCell ⟨go38, (x11_4 : Int).toNat, none⟩ (.int .i64 (rd (rd_L1 l0 (rd x8_3 x9_3)) (ji32))))) ?hg ?ho ?hn ?hr ?_; (case ho => rfl); (case hg => rfl); (case hn => rfl); (case hr => exact zq8); intro w51 hw; have hg : w49.grownBy w51 (some go38) := (by rw [hw]; exact HP50.2); have hp_ : Kd.R (Kd.int .i64) 3 w51 w.heap.size (fun k_ => some k_ ≠ (.slice (some ⟨go17, 0, none⟩) x4_4.length co18 : Value).ownBlock ∧ some k_ ≠ (.slice Ao19 x5_4.length co19 : Value).ownBlock ∧ some k_ ≠ (u8 : Value).ownBlock) (.slice (some ⟨go38, 0, none⟩) t186.length co38) y190 := (by rw [hw, Ny190.out]; exact HP50.1); clear HP50; replace HO_4 := am (Kd.R_after (v := (.slice (some ⟨go38, 0, none⟩) t186.length co38)) (v1 := (.slice (some ⟨go38, 0, none⟩) t186.length co38)) (ok := (fun k_ => some k_ ≠ (.slice Ao19 x5_4.length co19 : Value).ownBlock ∧ some k_ ≠ (u8 : Value).ownBlock)) (pRq3 HO_4) hg (.inl rfl)); replace HO_5 := am (Kd.R_after (v := (.slice (some ⟨go38, 0, none⟩) t186.length co38)) (v1 := (.slice (some ⟨go38, 0, none⟩) t186.length co38)) (ok := (fun k_ => some k_ ≠ (.slice (some ⟨go17, 0, none⟩) x4_4.length co18 : Value).ownBlock ∧ some k_ ≠ (u8 : Value).ownBlock)) (pRq3 HO_5) hg (.inl rfl)); replace HO_8 := am (Kd.R_after (v := (.slice (some ⟨go38, 0, none⟩) t186.length co38)) (v1 := (.slice (some ⟨go38, 0, none⟩) t186.length co38)) (ok := (fun k_ => some k_ ≠ (.slice (some ⟨go17, 0, none⟩) x4_4.length co18 : Value).ownBlock ∧ some k_ ≠ (.slice Ao19 x5_4.length co19 : Value).ownBlock)) (pRq3 HO_8) hg (.inl rfl)); replace HO188 := am (hp_); replace HB := am ((zq31 : Below w.heap.size w w51)); clear hg hw hp_; have p191 : 0 ≤ (x11_4 : Int) := of_decide_eq_true zq0; have q191 : x11_4 < ((rd_L1 l0 (rd x8_3 x9_3)).length : Int) := of_decide_eq_true zq0; obtain ⟨ad191, e191, hx191_0⟩ := Kd.at_int HR182_0.out x11_4 p191 q191; obtain rfl : ad183 = ad191 := (by injection e191); replace hx191_0 := (HB.out.cell (World.block_lt_of_cell? w _ hx191_0)).trans hx191_0; replace p191 := eq_true p191; replace q191 := eq_true q191; have p40 : 0 ≤ ((ji32) : Int) := of_decide_eq_true zq0; have q40 : ((ji32) : Int) < ((t186.length : Int) : Int) := of_decide_eq_true zq0; obtain ⟨hx40_0, hf40_0⟩ := Kd.R_celln 0 HO188.out ((ji32) : Int) p40 q40; replace p40 := eq_true p40; replace q40 := eq_true q40; obtain ⟨hy52_, hz52_⟩ := Kd.R_celln 0 HO188.out ((ji32) : Int) (of_decide_eq_true zq0) (of_decide_eq_true zq0); have HP52 := Kd.R_putg HO188.out ((ji32) : Int) (rd (rd_L1 l0 (rd x8_3 x9_3)) x11_4)) | ((with_reducible refine gate_store (t := 3) (p := 92) rfl ?_); (try (rw [drewN_self w51]; generalize hq_ : World.drewN w51 _ = w51; replace HO_4 := am (Kd.R_at hq_ HO_4.out); replace HO_5 := am (Kd.R_at hq_ HO_5.out); replace HO_8 := am (Kd.R_at hq_ HO_8.out); replace HO188 := am (Kd.R_at hq_ HO188.out); replace HB := am (below_at hq_ HB.out); clear hq_; (try (obtain ⟨hy52_, hz52_⟩ := Kd.R_celln 0 HO188.out ((ji32) : Int) (of_decide_eq_true zq0) (of_decide_eq_true zq0))); (try (have HP52 := Kd.R_putg HO188.out ((ji32) : Int) (rd (rd_L1 l0 (rd x8_3 x9_3)) x11_4))))); refine store_event (t := 3) (p := 92) (v := ?vo_w53) (w1 := (w51.setCell ⟨go38, ((ji32) : Int).toNat, none⟩ (.int .i64 (rd (rd_L1 l0 (rd x8_3 x9_3)) x11_4)))) ?hg ?ho ?hn ?hr ?_; (case ho => rfl); (case hg => rfl); (case hn => rfl); (case hr => exact zq8); intro w53 hw; have hg : w51.grownBy w53 (some go38) := (by rw [hw]; exact HP52.2); have hp_ : Kd.R (Kd.int .i64) 3 w53 w.heap.size (fun k_ => some k_ ≠ (.slice (some ⟨go17, 0, none⟩) x4_4.length co18 : Value).ownBlock ∧ some k_ ≠ (.slice Ao19 x5_4.length co19 : Value).ownBlock ∧ some k_ ≠ (u8 : Value).ownBlock) (.slice (some ⟨go38, 0, none⟩) t186.length co38) y192 := (by rw [hw, Ny192.out]; exact HP52.1); clear HP52; replace HO_4 := am (Kd.R_after (v := (.slice (some ⟨go38, 0, none⟩) t186.length co38)) (v1 := (.slice (some ⟨go38, 0, none⟩) t186.length co38)) (ok := (fun k_ => some k_ ≠ (.slice Ao19 x5_4.length co19 : Value).ownBlock ∧ some k_ ≠ (u8 : Value).ownBlock)) (pRq3 HO_4) hg (.inl rfl)); replace HO_5 := am (Kd.R_after (v := (.slice (some ⟨go38, 0, none⟩) t186.length co38)) (v1 := (.slice (some ⟨go38, 0, none⟩) t186.length co38)) (ok := (fun k_ => some k_ ≠ (.slice (some ⟨go17, 0, none⟩) x4_4.length co18 : Value).ownBlock ∧ some k_ ≠ (u8 : Value).ownBlock)) (pRq3 HO_5) hg (.inl rfl)); replace HO_8 := am (Kd.R_after (v := (.slice (some ⟨go38, 0, none⟩) t186.length co38)) (v1 := (.slice (some ⟨go38, 0, none⟩) t186.length co38)) (ok := (fun k_ => some k_ ≠ (.slice (some ⟨go17, 0, none⟩) x4_4.length co18 : Value).ownBlock ∧ some k_ ≠ (.slice Ao19 x5_4.length co19 : Value).ownBlock)) (pRq3 HO_8) hg (.inl rfl)); replace HO188 := am (hp_); replace HB := am ((zq31 : Below w.heap.size w w53)); clear hg hw hp_) | (go_at_call 26; refine calls_of_args (args' := #[.slice (some ad182) l0.length c0, .slice (some ⟨go38, 0, none⟩) y192.length co38]) zq27 ?_; (with_reducible refine (spec_alPlace.calls k4 _ _ l0 _ _ y192 t193 _ ?side1 ?side2 ?side3 ?side4 A41.out).mono ?_); (case side1 => exact zq7); (case side2 => exact HC0.out); (case side3 => exact zq21); (case side4 => exact zq29); rintro e w' ⟨rfl, ⟨nd, rfl⟩⟩; (try first | exact ⟨rfl, _, World.drewN_drewN _ _ _⟩ | exact ⟨rfl, _, Eq.trans (World.drewN_drewN _ _ _) (congrArg (World.drewN _) (Nat.add_assoc _ _ _))⟩); have p194 : 0 ≤ (t193 : Int) := of_decide_eq_true zq0; have q194 : t193 < (x4_4.length : Int) := of_decide_eq_true zq0; obtain ⟨ad194, e194, hx194_0⟩ := Kd.at_int (Kd.R_reads' HO_4.out).2.2 t193 p194 q194; obtain rfl : (⟨go17, 0, none⟩ : Addr) = ad194 := (by injection e194); (first | simp only [add_plain] at hx194_0 | simp only [add_at] at hx194_0 | simp only [Addr.add, Nat.zero_add] at hx194_0 | skip); replace p194 := eq_true p194; replace q194 := eq_true q194; have p195 : 0 ≤ (x28_2 : Int) := of_decide_eq_true zq0; have q195 : x28_2 < (x4_4.length : Int) := of_decide_eq_true zq0; obtain ⟨ad195, e195, hx195_0⟩ := Kd.at_int (Kd.R_reads' HO_4.out).2.2 x28_2 p195 q195; obtain rfl : (⟨go17, 0, none⟩ : Addr) = ad195 := (by injection e195); (first | simp only [add_plain] at hx195_0 | simp only [add_at] at hx195_0 | simp only [Addr.add, Nat.zero_add] at hx195_0 | skip); replace p195 := eq_true p195; replace q195 := eq_true q195; have p47 : 0 ≤ (t193 : Int) := of_decide_eq_true zq0; have q47 : (t193 : Int) < ((x4_4.length : Int) : Int) := of_decide_eq_true zq0; obtain ⟨hx47_0, hf47_0⟩ := Kd.R_celln 0 HO_4.out (t193 : Int) p47 q47; replace p47 := eq_true p47; replace q47 := eq_true q47; have n_ := am (Kd.R_mono (ok' := (fun k_ => some k_ ≠ (.slice Ao19 x5_4.length co19 : Value).ownBlock ∧ some k_ ≠ (u8 : Value).ownBlock ∧ some k_ ≠ (.slice (some ⟨go38, 0, none⟩) t186.length co38 : Value).ownBlock)) HO_4.out (fun k_ hk => ⟨hk.1.1, ⟨hk.1.2, hk.2⟩⟩)); clear HO_4; have HO_4 := n_; clear n_; obtain ⟨hy54_, hz54_⟩ := Kd.R_celln 0 HO_4.out (t193 : Int) (of_decide_eq_true zq0) (of_decide_eq_true zq0); have HP54 := Kd.R_putg HO_4.out (t193 : Int) (rd x4_4 x28_2)) | ((with_reducible refine gate_store (t := 3) (p := 107) rfl ?_); (try (rw [drewN_self w53]; generalize hq_ : World.drewN w53 _ = w53; replace HO_4 := am (Kd.R_at hq_ HO_4.out); replace HO_5 := am (Kd.R_at hq_ HO_5.out); replace HO_8 := am (Kd.R_at hq_ HO_8.out); replace HO188 := am (Kd.R_at hq_ HO188.out); replace HB := am (below_at hq_ HB.out); clear hq_; (try (have n_ := am (Kd.R_mono (ok' := (fun k_ => some k_ ≠ (.slice Ao19 x5_4.length co19 : Value).ownBlock ∧ some k_ ≠ (u8 : Value).ownBlock ∧ some k_ ≠ (.slice (some ⟨go38, 0, none⟩) t186.length co38 : Value).ownBlock)) HO_4.out (fun k_ hk => ⟨hk.1.1, ⟨hk.1.2, hk.2⟩⟩)); clear HO_4; have HO_4 := n_; clear n_)); (try (obtain ⟨hy54_, hz54_⟩ := Kd.R_celln 0 HO_4.out (t193 : Int) (of_decide_eq_true zq0) (of_decide_eq_true zq0))); (try (have HP54 := Kd.R_putg HO_4.out (t193 : Int) (rd x4_4 x28_2))))); refine store_event (t := 3) (p := 107) (v := ?vo_w55) (w1 := (w53.setCell ⟨go17, (t193 : Int).toNat, none⟩ (.int .i64 (rd x4_4 x28_2)))) ?hg ?ho ?hn ?hr ?_; (case ho => rfl); (case hg => rfl); (case hn => rfl); (case hr => exact zq8); intro w55 hw; have hg : w53.grownBy w55 (some go17) := (by rw [hw]; exact HP54.2); have hp_ : Kd.R (Kd.int .i64) 3 w55 w.heap.size (fun k_ => some k_ ≠ (.slice Ao19 x5_4.length co19 : Value).ownBlock ∧ some k_ ≠ (u8 : Value).ownBlock ∧ some k_ ≠ (.slice (some ⟨go38, 0, none⟩) t186.length co38 : Value).ownBlock) (.slice (some ⟨go17, 0, none⟩) x4_4.length co18) y196 := (by rw [hw, Ny196.out]; exact HP54.1); clear HP54; replace HO_4 := am (hp_); replace HO_5 := am (Kd.R_after (v := (.slice (some ⟨go17, 0, none⟩) x4_4.length co18)) (v1 := (.slice (some ⟨go17, 0, none⟩) x4_4.length co18)) (ok := (fun k_ => some k_ ≠ (u8 : Value).ownBlock ∧ some k_ ≠ (.slice (some ⟨go38, 0, none⟩) t186.length co38 : Value).ownBlock)) zq43 hg (.inl rfl)); replace HO_8 := am (Kd.R_after (v := (.slice (some ⟨go17, 0, none⟩) x4_4.length co18)) (v1 := (.slice (some ⟨go17, 0, none⟩) x4_4.length co18)) (ok := (fun k_ => some k_ ≠ (.slice Ao19 x5_4.length co19 : Value).ownBlock ∧ some k_ ≠ (.slice (some ⟨go38, 0, none⟩) t186.length co38 : Value).ownBlock)) zq40 hg (.inl rfl)); replace HO188 := am (Kd.R_after (v := (.slice (some ⟨go17, 0, none⟩) x4_4.length co18)) (v1 := (.slice (some ⟨go17, 0, none⟩) x4_4.length co18)) (ok := (fun k_ => some k_ ≠ (.slice Ao19 x5_4.length co19 : Value).ownBlock ∧ some k_ ≠ (u8 : Value).ownBlock)) zq38 hg (.inl rfl)); replace HB := am ((zq61 : Below w.heap.size w w55)); clear hg hw hp_) | ((with_reducible refine gate_builtin (b := .append) (xs := #[.tmp 108, .tmp 110]) rfl ?_); at_builtin; refine Kd.R_append (Kd.int .i64) (w0 := w) w.heap.size rfl (.tmp 108) (.tmp 110) 22 3 (.int .i64 0) 8 rfl Try.underlying22 info3 rfl zq33 zq10 u8 x8_4 t193 [.int .i64 t193] (fun k_ => some k_ ≠ (.slice (some ⟨go17, 0, none⟩) x4_4.length co18 : Value).ownBlock ∧ some k_ ≠ (.slice Ao19 x5_4.length co19 : Value).ownBlock ∧ some k_ ≠ (.slice (some ⟨go38, 0, none⟩) t186.length co38 : Value).ownBlock) (fun _ => False) rfl rfl ?aP (fun _ hk => hk.elim) ?aF ?aO ?aB ?aS ?aL ?_; (case aP => exact rfl); (case aB => exact (pBq3 HB)); (case aF => exact zq54); (case aO => exact zq41); (case aS => exact (below_size (pBq3 HB))); (case aL => have := LMc48.out; omega); intro v198 w56 ho hb hg hat; rw [← Ny197.out] at ho; have HO199 := am (ho); replace HO_4 := am (Kd.R_after (ok := (fun k_ => some k_ ≠ (.slice Ao19 x5_4.length co19 : Value).ownBlock ∧ some k_ ≠ (.slice (some ⟨go38, 0, none⟩) t186.length co38 : Value).ownBlock)) zq44 hg hat); replace HO_5 := am (Kd.R_after (ok := (fun k_ => some k_ ≠ (.slice (some ⟨go17, 0, none⟩) x4_4.length co18 : Value).ownBlock ∧ some k_ ≠ (.slice (some ⟨go38, 0, none⟩) t186.length co38 : Value).ownBlock)) zq42 hg hat); replace HO188 := am (Kd.R_after (ok := (fun k_ => some k_ ≠ (.slice (some ⟨go17, 0, none⟩) x4_4.length co18 : Value).ownBlock ∧ some k_ ≠ (.slice Ao19 x5_4.length co19 : Value).ownBlock)) zq39 hg hat); replace HB := am (hb); clear HO_8; clear ho hb hg hat))
                                 repeat (go_quiet (first | (go_at_call 24; (with_reducible refine (spec_l1Abs.calls (wrap64 ((rd (rd_L1 l0 (rd x8_3 x9_3)) x11_4) - (rd (rd_L1 l0 (rd x8_3 x9_3)) (ji32)))) t185 _ A34.out).mono ?_); rintro e w' ⟨rfl, ⟨nd, rfl⟩⟩; (try first | exact ⟨rfl, _, World.drewN_drewN _ _ _⟩ | exact ⟨rfl, _, Eq.trans (World.drewN_drewN _ _ _) (congrArg (World.drewN _) (Nat.add_assoc _ _ _))⟩)) | (go_at_call 25; (with_reducible refine (spec_l1Own.calls _ _ (rd_L1 l0 (rd x8_3 x9_3)) t186 _ ?side1 ?side2 A36.out).mono ?_); (case side1 => exact zq18); (case side2 => exact HC182_0.out); rintro e w49 ⟨v187, rfl, ho0, hb⟩; have HO188 := am (Kd.R_lower (Kd.R_new' (Kd.R_new' (Kd.R_new' ho0 (Kd.R_lt (pRq3 HO_4))) (Kd.R_lt (pRq3 HO_5))) (Kd.R_lt (pRq3 HO_8))) (below_size (pBq3 HB))); replace HO_4 := am (Kd.R_elder' (pRq3 HO_4) (Kd.R_base ho0) hb); replace HO_5 := am (Kd.R_elder' (pRq3 HO_5) (Kd.R_base ho0) hb); replace HO_8 := am (Kd.R_elder' (pRq3 HO_8) (Kd.R_base ho0) hb); replace HB := am (below_step (pBq3 HB) hb); (try clear hb hk ho0); have p189 : 0 ≤ ((ji32) : Int) := of_decide_eq_true zq0; have q189 : (ji32) < ((rd_L1 l0 (rd x8_3 x9_3)).length : Int) := of_decide_eq_true zq0; obtain ⟨ad189, e189, hx189_0⟩ := Kd.at_int HR182_0.out (ji32) p189 q189; obtain rfl : ad183 = ad189 := (by injection e189); replace hx189_0 := (HB.out.cell (World.block_lt_of_cell? w _ hx189_0)).trans hx189_0; replace p189 := eq_true p189; replace q189 := eq_true q189; have p38 : 0 ≤ (x11_4 : Int) := of_decide_eq_true zq0; have q38 : (x11_4 : Int) < ((t186.length : Int) : Int) := of_decide_eq_true zq0; obtain ⟨go38, co38, eo38, gb38, gl38, cl38, HG38⟩ := Kd.R_form HO188.out zq10; (first | cases eo38 | (injection eo38 with ea_ en_ ec_; (first | subst ea_ | (injection ea_ with ea_; subst ea_)); subst ec_; clear en_)); have GB38 := am gb38; have GG38 := am HG38; clear gb38 gl38 HG38; obtain ⟨hx38_0, hf38_0⟩ := Kd.R_celln 0 HO188.out (x11_4 : Int) p38 q38; replace p38 := eq_true p38; replace q38 := eq_true q38; have n_ := am (Kd.R_mono (ok' := (fun k_ => some k_ ≠ (.slice (some ⟨go17, 0, none⟩) x4_4.length co18 : Value).ownBlock ∧ some k_ ≠ (.slice Ao19 x5_4.length co19 : Value).ownBlock ∧ some k_ ≠ (u8 : Value).ownBlock)) HO188.out (fun k_ hk => ⟨hk.1.1.2, ⟨hk.1.2, hk.2⟩⟩)); clear HO188; have HO188 := n_; clear n_; obtain ⟨hy50_, hz50_⟩ := Kd.R_celln 0 HO188.out (x11_4 : Int) (of_decide_eq_true zq0) (of_decide_eq_true zq0); have HP50 := Kd.R_putg HO188.out (x11_4 : Int) (rd (rd_L1 l0 (rd x8_3 x9_3)) (ji32))) | ((with_reducible refine gate_store (t := 3) (p := 84) rfl ?_); (try (rw [drewN_self w49]; generalize hq_ : World.drewN w49 _ = w49; replace HO_4 := am (Kd.R_at hq_ HO_4.out); replace HO_5 := am (Kd.R_at hq_ HO_5.out); replace HO_8 := am (Kd.R_at hq_ HO_8.out); replace HO188 := am (Kd.R_at hq_ HO188.out); replace HB := am (below_at hq_ HB.out); clear hq_; (try (have n_ := am (Kd.R_mono (ok' := (fun k_ => some k_ ≠ (.slice (some ⟨go17, 0, none⟩) x4_4.length co18 : Value).ownBlock ∧ some k_ ≠ (.slice Ao19 x5_4.length co19 : Value).ownBlock ∧ some k_ ≠ (u8 : Value).ownBlock)) HO188.out (fun k_ hk => ⟨hk.1.1.2, ⟨hk.1.2, hk.2⟩⟩)); clear HO188; have HO188 := n_; clear n_)); (try (obtain ⟨hy50_, hz50_⟩ := Kd.R_celln 0 HO188.out (x11_4 : Int) (of_decide_eq_true zq0) (of_decide_eq_true zq0))); (try (have HP50 := Kd.R_putg HO188.out (x11_4 : Int) (rd (rd_L1 l0 (rd x8_3 x9_3)) (ji32)))))); refine store_event (t := 3) (p := 84) (v := ?vo_w51) (w1 := (w49.setCell ⟨go38, (x11_4 : Int).toNat, none⟩ (.int .i64 (rd (rd_L1 l0 (rd x8_3 x9_3)) (ji32))))) ?hg ?ho ?hn ?hr ?_; (case ho => rfl); (case hg => rfl); (case hn => rfl); (case hr => exact zq8); intro w51 hw; have hg : w49.grownBy w51 (some go38) := (by rw [hw]; exact HP50.2); have hp_ : Kd.R (Kd.int .i64) 3 w51 w.heap.size (fun k_ => some k_ ≠ (.slice (some ⟨go17, 0, none⟩) x4_4.length co18 : Value).ownBlock ∧ some k_ ≠ (.slice Ao19 x5_4.length co19 : Value).ownBlock ∧ some k_ ≠ (u8 : Value).ownBlock) (.slice (some ⟨go38, 0, none⟩) t186.length co38) y190 := (by rw [hw, Ny190.out]; exact HP50.1); clear HP50; replace HO_4 := am (Kd.R_after (v := (.slice (some ⟨go38, 0, none⟩) t186.length co38)) (v1 := (.slice (some ⟨go38, 0, none⟩) t186.length co38)) (ok := (fun k_ => some k_ ≠ (.slice Ao19 x5_4.length co19 : Value).ownBlock ∧ some k_ ≠ (u8 : Value).ownBlock)) (pRq3 HO_4) hg (.inl rfl)); replace HO_5 := am (Kd.R_after (v := (.slice (some ⟨go38, 0, none⟩) t186.length co38)) (v1 := (.slice (some ⟨go38, 0, none⟩) t186.length co38)) (ok := (fun k_ => some k_ ≠ (.slice (some ⟨go17, 0, none⟩) x4_4.length co18 : Value).ownBlock ∧ some k_ ≠ (u8 : Value).ownBlock)) (pRq3 HO_5) hg (.inl rfl)); replace HO_8 := am (Kd.R_after (v := (.slice (some ⟨go38, 0, none⟩) t186.length co38)) (v1 := (.slice (some ⟨go38, 0, none⟩) t186.length co38)) (ok := (fun k_ => some k_ ≠ (.slice (some ⟨go17, 0, none⟩) x4_4.length co18 : Value).ownBlock ∧ some k_ ≠ (.slice Ao19 x5_4.length co19 : Value).ownBlock)) (pRq3 HO_8) hg (.inl rfl)); replace HO188 := am (hp_); replace HB := am ((zq31 : Below w.heap.size w w51)); clear hg hw hp_; have p191 : 0 ≤ (x11_4 : Int) := of_decide_eq_true zq0; have q191 : x11_4 < ((rd_L1 l0 (rd x8_3 x9_3)).length : Int) := of_decide_eq_true zq0; obtain ⟨ad191, e191, hx191_0⟩ := Kd.at_int HR182_0.out x11_4 p191 q191; obtain rfl : ad183 = ad191 := (by injection e191); replace hx191_0 := (HB.out.cell (World.block_lt_of_cell? w _ hx191_0)).trans hx191_0; replace p191 := eq_true p191; replace q191 := eq_true q191; have p40 : 0 ≤ ((ji32) : Int) := of_decide_eq_true zq0; have q40 : ((ji32) : Int) < ((t186.length : Int) : Int) := of_decide_eq_true zq0; obtain ⟨hx40_0, hf40_0⟩ := Kd.R_celln 0 HO188.out ((ji32) : Int) p40 q40; replace p40 := eq_true p40; replace q40 := eq_true q40; obtain ⟨hy52_, hz52_⟩ := Kd.R_celln 0 HO188.out ((ji32) : Int) (of_decide_eq_true zq0) (of_decide_eq_true zq0); have HP52 := Kd.R_putg HO188.out ((ji32) : Int) (rd (rd_L1 l0 (rd x8_3 x9_3)) x11_4)) | ((with_reducible refine gate_store (t := 3) (p := 92) rfl ?_); (try (rw [drewN_self w51]; generalize hq_ : World.drewN w51 _ = w51; replace HO_4 := am (Kd.R_at hq_ HO_4.out); replace HO_5 := am (Kd.R_at hq_ HO_5.out); replace HO_8 := am (Kd.R_at hq_ HO_8.out); replace HO188 := am (Kd.R_at hq_ HO188.out); replace HB := am (below_at hq_ HB.out); clear hq_; (try (obtain ⟨hy52_, hz52_⟩ := Kd.R_celln 0 HO188.out ((ji32) : Int) (of_decide_eq_true zq0) (of_decide_eq_true zq0))); (try (have HP52 := Kd.R_putg HO188.out ((ji32) : Int) (rd (rd_L1 l0 (rd x8_3 x9_3)) x11_4))))); refine store_event (t := 3) (p := 92) (v := ?vo_w53) (w1 := (w51.setCell ⟨go38, ((ji32) : Int).toNat, none⟩ (.int .i64 (rd (rd_L1 l0 (rd x8_3 x9_3)) x11_4)))) ?hg ?ho ?hn ?hr ?_; (case ho => rfl); (case hg => rfl); (case hn => rfl); (case hr => exact zq8); intro w53 hw; have hg : w51.grownBy w53 (some go38) := (by rw [hw]; exact HP52.2); have hp_ : Kd.R (Kd.int .i64) 3 w53 w.heap.size (fun k_ => some k_ ≠ (.slice (some ⟨go17, 0, none⟩) x4_4.length co18 : Value).ownBlock ∧ some k_ ≠ (.slice Ao19 x5_4.length co19 : Value).ownBlock ∧ some k_ ≠ (u8 : Value).ownBlock) (.slice (some ⟨go38, 0, none⟩) t186.length co38) y192 := (by rw [hw, Ny192.out]; exact HP52.1); clear HP52; replace HO_4 := am (Kd.R_after (v := (.slice (some ⟨go38, 0, none⟩) t186.length co38)) (v1 := (.slice (some ⟨go38, 0, none⟩) t186.length co38)) (ok := (fun k_ => some k_ ≠ (.slice Ao19 x5_4.length co19 : Value).ownBlock ∧ some k_ ≠ (u8 : Value).ownBlock)) (pRq3 HO_4) hg (.inl rfl)); replace HO_5 := am (Kd.R_after (v := (.slice (some ⟨go38, 0, none⟩) t186.length co38)) (v1 := (.slice (some ⟨go38, 0, none⟩) t186.length co38)) (ok := (fun k_ => some k_ ≠ (.slice (some ⟨go17, 0, none⟩) x4_4.length co18 : Value).ownBlock ∧ some k_ ≠ (u8 : Value).ownBlock)) (pRq3 HO_5) hg (.inl rfl)); replace HO_8 := am (Kd.R_after (v := (.slice (some ⟨go38, 0, none⟩) t186.length co38)) (v1 := (.slice (some ⟨go38, 0, none⟩) t186.length co38)) (ok := (fun k_ => some k_ ≠ (.slice (some ⟨go17, 0, none⟩) x4_4.length co18 : Value).ownBlock ∧ some k_ ≠ (.slice Ao19 x5_4.length co19 : Value).ownBlock)) (pRq3 HO_8) hg (.inl rfl)); replace HO188 := am (hp_); replace HB := am ((zq31 : Below w.heap.size w w53)); clear hg hw hp_) | (go_at_call 26; refine calls_of_args (args' := #[.slice (some ad182) l0.length c0, .slice (some ⟨go38, 0, none⟩) y192.length co38]) zq27 ?_; (with_reducible refine (spec_alPlace.calls k4 _ _ l0 _ _ y192 t193 _ ?side1 ?side2 ?side3 ?side4 A41.out).mono ?_); (case side1 => exact zq7); (case side2 => exact HC0.out); (case side3 => exact zq21); (case side4 => exact zq29); rintro e w' ⟨rfl, ⟨nd, rfl⟩⟩; (try first | exact ⟨rfl, _, World.drewN_drewN _ _ _⟩ | exact ⟨rfl, _, Eq.trans (World.drewN_drewN _ _ _) (congrArg (World.drewN _) (Nat.add_assoc _ _ _))⟩); have p194 : 0 ≤ (t193 : Int) := of_decide_eq_true zq0; have q194 : t193 < (x4_4.length : Int) := of_decide_eq_true zq0; obtain ⟨ad194, e194, hx194_0⟩ := Kd.at_int (Kd.R_reads' HO_4.out).2.2 t193 p194 q194; obtain rfl : (⟨go17, 0, none⟩ : Addr) = ad194 := (by injection e194); (first | simp only [add_plain] at hx194_0 | simp only [add_at] at hx194_0 | simp only [Addr.add, Nat.zero_add] at hx194_0 | skip); replace p194 := eq_true p194; replace q194 := eq_true q194; have p195 : 0 ≤ (x28_2 : Int) := of_decide_eq_true zq0; have q195 : x28_2 < (x4_4.length : Int) := of_decide_eq_true zq0; obtain ⟨ad195, e195, hx195_0⟩ := Kd.at_int (Kd.R_reads' HO_4.out).2.2 x28_2 p195 q195; obtain rfl : (⟨go17, 0, none⟩ : Addr) = ad195 := (by injection e195); (first | simp only [add_plain] at hx195_0 | simp only [add_at] at hx195_0 | simp only [Addr.add, Nat.zero_add] at hx195_0 | skip); replace p195 := eq_true p195; replace q195 := eq_true q195; have p47 : 0 ≤ (t193 : Int) := of_decide_eq_true zq0; have q47 : (t193 : Int) < ((x4_4.length : Int) : Int) := of_decide_eq_true zq0; obtain ⟨hx47_0, hf47_0⟩ := Kd.R_celln 0 HO_4.out (t193 : Int) p47 q47; replace p47 := eq_true p47; replace q47 := eq_true q47; have n_ := am (Kd.R_mono (ok' := (fun k_ => some k_ ≠ (.slice Ao19 x5_4.length co19 : Value).ownBlock ∧ some k_ ≠ (u8 : Value).ownBlock ∧ some k_ ≠ (.slice (some ⟨go38, 0, none⟩) t186.length co38 : Value).ownBlock)) HO_4.out (fun k_ hk => ⟨hk.1.1, ⟨hk.1.2, hk.2⟩⟩)); clear HO_4; have HO_4 := n_; clear n_; obtain ⟨hy54_, hz54_⟩ := Kd.R_celln 0 HO_4.out (t193 : Int) (of_decide_eq_true zq0) (of_decide_eq_true zq0); have HP54 := Kd.R_putg HO_4.out (t193 : Int) (rd x4_4 x28_2)) | ((with_reducible refine gate_store (t := 3) (p := 107) rfl ?_); (try (rw [drewN_self w53]; generalize hq_ : World.drewN w53 _ = w53; replace HO_4 := am (Kd.R_at hq_ HO_4.out); replace HO_5 := am (Kd.R_at hq_ HO_5.out); replace HO_8 := am (Kd.R_at hq_ HO_8.out); replace HO188 := am (Kd.R_at hq_ HO188.out); replace HB := am (below_at hq_ HB.out); clear hq_; (try (have n_ := am (Kd.R_mono (ok' := (fun k_ => some k_ ≠ (.slice Ao19 x5_4.length co19 : Value).ownBlock ∧ some k_ ≠ (u8 : Value).ownBlock ∧ some k_ ≠ (.slice (some ⟨go38, 0, none⟩) t186.length co38 : Value).ownBlock)) HO_4.out (fun k_ hk => ⟨hk.1.1, ⟨hk.1.2, hk.2⟩⟩)); clear HO_4; have HO_4 := n_; clear n_)); (try (obtain ⟨hy54_, hz54_⟩ := Kd.R_celln 0 HO_4.out (t193 : Int) (of_decide_eq_true zq0) (of_decide_eq_true zq0))); (try (have HP54 := Kd.R_putg HO_4.out (t193 : Int) (rd x4_4 x28_2))))); refine store_event (t := 3) (p := 107) (v := ?vo_w55) (w1 := (w53.setCell ⟨go17, (t193 : Int).toNat, none⟩ (.int .i64 (rd x4_4 x28_2)))) ?hg ?ho ?hn ?hr ?_; (case ho => rfl); (case hg => rfl); (case hn => rfl); (case hr => exact zq8); intro w55 hw; have hg : w53.grownBy w55 (some go17) := (by rw [hw]; exact HP54.2); have hp_ : Kd.R (Kd.int .i64) 3 w55 w.heap.size (fun k_ => some k_ ≠ (.slice Ao19 x5_4.length co19 : Value).ownBlock ∧ some k_ ≠ (u8 : Value).ownBlock ∧ some k_ ≠ (.slice (some ⟨go38, 0, none⟩) t186.length co38 : Value).ownBlock) (.slice (some ⟨go17, 0, none⟩) x4_4.length co18) y196 := (by rw [hw, Ny196.out]; exact HP54.1); clear HP54; replace HO_4 := am (hp_); replace HO_5 := am (Kd.R_after (v := (.slice (some ⟨go17, 0, none⟩) x4_4.length co18)) (v1 := (.slice (some ⟨go17, 0, none⟩) x4_4.length co18)) (ok := (fun k_ => some k_ ≠ (u8 : Value).ownBlock ∧ some k_ ≠ (.slice (some ⟨go38, 0, none⟩) t186.length co38 : Value).ownBlock)) zq43 hg (.inl rfl)); replace HO_8 := am (Kd.R_after (v := (.slice (some ⟨go17, 0, none⟩) x4_4.length co18)) (v1 := (.slice (some ⟨go17, 0, none⟩) x4_4.length co18)) (ok := (fun k_ => some k_ ≠ (.slice Ao19 x5_4.length co19 : Value).ownBlock ∧ some k_ ≠ (.slice (some ⟨go38, 0, none⟩) t186.length co38 : Value).ownBlock)) zq40 hg (.inl rfl)); replace HO188 := am (Kd.R_after (v := (.slice (some ⟨go17, 0, none⟩) x4_4.length co18)) (v1 := (.slice (some ⟨go17, 0, none⟩) x4_4.length co18)) (ok := (fun k_ => some k_ ≠ (.slice Ao19 x5_4.length co19 : Value).ownBlock ∧ some k_ ≠ (u8 : Value).ownBlock)) zq38 hg (.inl rfl)); replace HB := am ((zq61 : Below w.heap.size w w55)); clear hg hw hp_) | ((with_reducible refine gate_builtin (b := .append) (xs := #[.tmp 108, .tmp 110]) rfl ?_); at_builtin; refine Kd.R_append (Kd.int .i64) (w0 := w) w.heap.size rfl (.tmp 108) (.tmp 110) 22 3 (.int .i64 0) 8 rfl Try.underlying22 info3 rfl zq33 zq10 u8 x8_4 t193 [.int .i64 t193] (fun k_ => some k_ ≠ (.slice (some ⟨go17, 0, none⟩) x4_4.length co18 : Value).ownBlock ∧ some k_ ≠ (.slice Ao19 x5_4.length co19 : Value).ownBlock ∧ some k_ ≠ (.slice (some ⟨go38, 0, none⟩) t186.length co38 : Value).ownBlock) (fun _ => False) rfl rfl ?aP (fun _ hk => hk.elim) ?aF ?aO ?aB ?aS ?aL ?_; (case aP => exact rfl); (case aB => exact (pBq3 HB)); (case aF => exact zq54); (case aO => exact zq41); (case aS => exact (below_size (pBq3 HB))); (case aL => have := LMc48.out; omega); intro v198 w56 ho hb hg hat; rw [← Ny197.out] at ho; have HO199 := am (ho); replace HO_4 := am (Kd.R_after (ok := (fun k_ => some k_ ≠ (.slice Ao19 x5_4.length co19 : Value).ownBlock ∧ some k_ ≠ (.slice (some ⟨go38, 0, none⟩) t186.length co38 : Value).ownBlock)) zq44 hg hat); replace HO_5 := am (Kd.R_after (ok := (fun k_ => some k_ ≠ (.slice (some ⟨go17, 0, none⟩) x4_4.length co18 : Value).ownBlock ∧ some k_ ≠ (.slice (some ⟨go38, 0, none⟩) t186.length co38 : Value).ownBlock)) zq42 hg hat); replace HO188 := am (Kd.R_after (ok := (fun k_ => some k_ ≠ (.slice (some ⟨go17, 0, none⟩) x4_4.length co18 : Value).ownBlock ∧ some k_ ≠ (.slice Ao19 x5_4.length co19 : Value).ownBlock)) zq39 hg hat); replace HB := am (hb); clear HO_8; clear ho hb hg hat)); try go_wp2_with (first | (go_at_call 24; (with_reducible refine (spec_l1Abs.calls (wrap64 ((rd (rd_L1 l0 (rd x8_3 x9_3)) x11_4) - (rd (rd_L1 l0 (rd x8_3 x9_3)) (ji32)))) t185 _ A34.out).mono ?_); rintro e w' ⟨rfl, ⟨nd, rfl⟩⟩; (try first | exact ⟨rfl, _, World.drewN_drewN _ _ _⟩ | exact ⟨rfl, _, Eq.trans (World.drewN_drewN _ _ _) (congrArg (World.drewN _) (Nat.add_assoc _ _ _))⟩)) | (go_at_call 25; (with_reducible refine (spec_l1Own.calls _ _ (rd_L1 l0 (rd x8_3 x9_3)) t186 _ ?side1 ?side2 A36.out).mono ?_); (case side1 => exact zq18); (case side2 => exact HC182_0.out); rintro e w49 ⟨v187, rfl, ho0, hb⟩; have HO188 := am (Kd.R_lower (Kd.R_new' (Kd.R_new' (Kd.R_new' ho0 (Kd.R_lt (pRq3 HO_4))) (Kd.R_lt (pRq3 HO_5))) (Kd.R_lt (pRq3 HO_8))) (below_size (pBq3 HB))); replace HO_4 := am (Kd.R_elder' (pRq3 HO_4) (Kd.R_base ho0) hb); replace HO_5 := am (Kd.R_elder' (pRq3 HO_5) (Kd.R_base ho0) hb); replace HO_8 := am (Kd.R_elder' (pRq3 HO_8) (Kd.R_base ho0) hb); replace HB := am (below_step (pBq3 HB) hb); (try clear hb hk ho0); have p189 : 0 ≤ ((ji32) : Int) := of_decide_eq_true zq0; have q189 : (ji32) < ((rd_L1 l0 (rd x8_3 x9_3)).length : Int) := of_decide_eq_true zq0; obtain ⟨ad189, e189, hx189_0⟩ := Kd.at_int HR182_0.out (ji32) p189 q189; obtain rfl : ad183 = ad189 := (by injection e189); replace hx189_0 := (HB.out.cell (World.block_lt_of_cell? w _ hx189_0)).trans hx189_0; replace p189 := eq_true p189; replace q189 := eq_true q189; have p38 : 0 ≤ (x11_4 : Int) := of_decide_eq_true zq0; have q38 : (x11_4 : Int) < ((t186.length : Int) : Int) := of_decide_eq_true zq0; obtain ⟨go38, co38, eo38, gb38, gl38, cl38, HG38⟩ := Kd.R_form HO188.out zq10; (first | cases eo38 | (injection eo38 with ea_ en_ ec_; (first | subst ea_ | (injection ea_ with ea_; subst ea_)); subst ec_; clear en_)); have GB38 := am gb38; have GG38 := am HG38; clear gb38 gl38 HG38; obtain ⟨hx38_0, hf38_0⟩ := Kd.R_celln 0 HO188.out (x11_4 : Int) p38 q38; replace p38 := eq_true p38; replace q38 := eq_true q38; have n_ := am (Kd.R_mono (ok' := (fun k_ => some k_ ≠ (.slice (some ⟨go17, 0, none⟩) x4_4.length co18 : Value).ownBlock ∧ some k_ ≠ (.slice Ao19 x5_4.length co19 : Value).ownBlock ∧ some k_ ≠ (u8 : Value).ownBlock)) HO188.out (fun k_ hk => ⟨hk.1.1.2, ⟨hk.1.2, hk.2⟩⟩)); clear HO188; have HO188 := n_; clear n_; obtain ⟨hy50_, hz50_⟩ := Kd.R_celln 0 HO188.out (x11_4 : Int) (of_decide_eq_true zq0) (of_decide_eq_true zq0); have HP50 := Kd.R_putg HO188.out (x11_4 : Int) (rd (rd_L1 l0 (rd x8_3 x9_3)) (ji32))) | ((with_reducible refine gate_store (t := 3) (p := 84) rfl ?_); (try (rw [drewN_self w49]; generalize hq_ : World.drewN w49 _ = w49; replace HO_4 := am (Kd.R_at hq_ HO_4.out); replace HO_5 := am (Kd.R_at hq_ HO_5.out); replace HO_8 := am (Kd.R_at hq_ HO_8.out); replace HO188 := am (Kd.R_at hq_ HO188.out); replace HB := am (below_at hq_ HB.out); clear hq_; (try (have n_ := am (Kd.R_mono (ok' := (fun k_ => some k_ ≠ (.slice (some ⟨go17, 0, none⟩) x4_4.length co18 : Value).ownBlock ∧ some k_ ≠ (.slice Ao19 x5_4.length co19 : Value).ownBlock ∧ some k_ ≠ (u8 : Value).ownBlock)) HO188.out (fun k_ hk => ⟨hk.1.1.2, ⟨hk.1.2, hk.2⟩⟩)); clear HO188; have HO188 := n_; clear n_)); (try (obtain ⟨hy50_, hz50_⟩ := Kd.R_celln 0 HO188.out (x11_4 : Int) (of_decide_eq_true zq0) (of_decide_eq_true zq0))); (try (have HP50 := Kd.R_putg HO188.out (x11_4 : Int) (rd (rd_L1 l0 (rd x8_3 x9_3)) (ji32)))))); refine store_event (t := 3) (p := 84) (v := ?vo_w51) (w1 := (w49.setCell ⟨go38, (x11_4 : Int).toNat, none⟩ (.int .i64 (rd (rd_L1 l0 (rd x8_3 x9_3)) (ji32))))) ?hg ?ho ?hn ?hr ?_; (case ho => rfl); (case hg => rfl); (case hn => rfl); (case hr => exact zq8); intro w51 hw; have hg : w49.grownBy w51 (some go38) := (by rw [hw]; exact HP50.2); have hp_ : Kd.R (Kd.int .i64) 3 w51 w.heap.size (fun k_ => some k_ ≠ (.slice (some ⟨go17, 0, none⟩) x4_4.length co18 : Value).ownBlock ∧ some k_ ≠ (.slice Ao19 x5_4.length co19 : Value).ownBlock ∧ some k_ ≠ (u8 : Value).ownBlock) (.slice (some ⟨go38, 0, none⟩) t186.length co38) y190 := (by rw [hw, Ny190.out]; exact HP50.1); clear HP50; replace HO_4 := am (Kd.R_after (v := (.slice (some ⟨go38, 0, none⟩) t186.length co38)) (v1 := (.slice (some ⟨go38, 0, none⟩) t186.length co38)) (ok := (fun k_ => some k_ ≠ (.slice Ao19 x5_4.length co19 : Value).ownBlock ∧ some k_ ≠ (u8 : Value).ownBlock)) (pRq3 HO_4) hg (.inl rfl)); replace HO_5 := am (Kd.R_after (v := (.slice (some ⟨go38, 0, none⟩) t186.length co38)) (v1 := (.slice (some ⟨go38, 0, none⟩) t186.length co38)) (ok := (fun k_ => some k_ ≠ (.slice (some ⟨go17, 0, none⟩) x4_4.length co18 : Value).ownBlock ∧ some k_ ≠ (u8 : Value).ownBlock)) (pRq3 HO_5) hg (.inl rfl)); replace HO_8 := am (Kd.R_after (v := (.slice (some ⟨go38, 0, none⟩) t186.length co38)) (v1 := (.slice (some ⟨go38, 0, none⟩) t186.length co38)) (ok := (fun k_ => some k_ ≠ (.slice (some ⟨go17, 0, none⟩) x4_4.length co18 : Value).ownBlock ∧ some k_ ≠ (.slice Ao19 x5_4.length co19 : Value).ownBlock)) (pRq3 HO_8) hg (.inl rfl)); replace HO188 := am (hp_); replace HB := am ((zq31 : Below w.heap.size w w51)); clear hg hw hp_; have p191 : 0 ≤ (x11_4 : Int) := of_decide_eq_true zq0; have q191 : x11_4 < ((rd_L1 l0 (rd x8_3 x9_3)).length : Int) := of_decide_eq_true zq0; obtain ⟨ad191, e191, hx191_0⟩ := Kd.at_int HR182_0.out x11_4 p191 q191; obtain rfl : ad183 = ad191 := (by injection e191); replace hx191_0 := (HB.out.cell (World.block_lt_of_cell? w _ hx191_0)).trans hx191_0; replace p191 := eq_true p191; replace q191 := eq_true q191; have p40 : 0 ≤ ((ji32) : Int) := of_decide_eq_true zq0; have q40 : ((ji32) : Int) < ((t186.length : Int) : Int) := of_decide_eq_true zq0; obtain ⟨hx40_0, hf40_0⟩ := Kd.R_celln 0 HO188.out ((ji32) : Int) p40 q40; replace p40 := eq_true p40; replace q40 := eq_true q40; obtain ⟨hy52_, hz52_⟩ := Kd.R_celln 0 HO188.out ((ji32) : Int) (of_decide_eq_true zq0) (of_decide_eq_true zq0); have HP52 := Kd.R_putg HO188.out ((ji32) : Int) (rd (rd_L1 l0 (rd x8_3 x9_3)) x11_4)) | ((with_reducible refine gate_store (t := 3) (p := 92) rfl ?_); (try (rw [drewN_self w51]; generalize hq_ : World.drewN w51 _ = w51; replace HO_4 := am (Kd.R_at hq_ HO_4.out); replace HO_5 := am (Kd.R_at hq_ HO_5.out); replace HO_8 := am (Kd.R_at hq_ HO_8.out); replace HO188 := am (Kd.R_at hq_ HO188.out); replace HB := am (below_at hq_ HB.out); clear hq_; (try (obtain ⟨hy52_, hz52_⟩ := Kd.R_celln 0 HO188.out ((ji32) : Int) (of_decide_eq_true zq0) (of_decide_eq_true zq0))); (try (have HP52 := Kd.R_putg HO188.out ((ji32) : Int) (rd (rd_L1 l0 (rd x8_3 x9_3)) x11_4))))); refine store_event (t := 3) (p := 92) (v := ?vo_w53) (w1 := (w51.setCell ⟨go38, ((ji32) : Int).toNat, none⟩ (.int .i64 (rd (rd_L1 l0 (rd x8_3 x9_3)) x11_4)))) ?hg ?ho ?hn ?hr ?_; (case ho => rfl); (case hg => rfl); (case hn => rfl); (case hr => exact zq8); intro w53 hw; have hg : w51.grownBy w53 (some go38) := (by rw [hw]; exact HP52.2); have hp_ : Kd.R (Kd.int .i64) 3 w53 w.heap.size (fun k_ => some k_ ≠ (.slice (some ⟨go17, 0, none⟩) x4_4.length co18 : Value).ownBlock ∧ some k_ ≠ (.slice Ao19 x5_4.length co19 : Value).ownBlock ∧ some k_ ≠ (u8 : Value).ownBlock) (.slice (some ⟨go38, 0, none⟩) t186.length co38) y192 := (by rw [hw, Ny192.out]; exact HP52.1); clear HP52; replace HO_4 := am (Kd.R_after (v := (.slice (some ⟨go38, 0, none⟩) t186.length co38)) (v1 := (.slice (some ⟨go38, 0, none⟩) t186.length co38)) (ok := (fun k_ => some k_ ≠ (.slice Ao19 x5_4.length co19 : Value).ownBlock ∧ some k_ ≠ (u8 : Value).ownBlock)) (pRq3 HO_4) hg (.inl rfl)); replace HO_5 := am (Kd.R_after (v := (.slice (some ⟨go38, 0, none⟩) t186.length co38)) (v1 := (.slice (some ⟨go38, 0, none⟩) t186.length co38)) (ok := (fun k_ => some k_ ≠ (.slice (some ⟨go17, 0, none⟩) x4_4.length co18 : Value).ownBlock ∧ some k_ ≠ (u8 : Value).ownBlock)) (pRq3 HO_5) hg (.inl rfl)); replace HO_8 := am (Kd.R_after (v := (.slice (some ⟨go38, 0, none⟩) t186.length co38)) (v1 := (.slice (some ⟨go38, 0, none⟩) t186.length co38)) (ok := (fun k_ => some k_ ≠ (.slice (some ⟨go17, 0, none⟩) x4_4.length co18 : Value).ownBlock ∧ some k_ ≠ (.slice Ao19 x5_4.length co19 : Value).ownBlock)) (pRq3 HO_8) hg (.inl rfl)); replace HO188 := am (hp_); replace HB := am ((zq31 : Below w.heap.size w w53)); clear hg hw hp_) | (go_at_call 26; refine calls_of_args (args' := #[.slice (some ad182) l0.length c0, .slice (some ⟨go38, 0, none⟩) y192.length co38]) zq27 ?_; (with_reducible refine (spec_alPlace.calls k4 _ _ l0 _ _ y192 t193 _ ?side1 ?side2 ?side3 ?side4 A41.out).mono ?_); (case side1 => exact zq7); (case side2 => exact HC0.out); (case side3 => exact zq21); (case side4 => exact zq29); rintro e w' ⟨rfl, ⟨nd, rfl⟩⟩; (try first | exact ⟨rfl, _, World.drewN_drewN _ _ _⟩ | exact ⟨rfl, _, Eq.trans (World.drewN_drewN _ _ _) (congrArg (World.drewN _) (Nat.add_assoc _ _ _))⟩); have p194 : 0 ≤ (t193 : Int) := of_decide_eq_true zq0; have q194 : t193 < (x4_4.length : Int) := of_decide_eq_true zq0; obtain ⟨ad194, e194, hx194_0⟩ := Kd.at_int (Kd.R_reads' HO_4.out).2.2 t193 p194 q194; obtain rfl : (⟨go17, 0, none⟩ : Addr) = ad194 := (by injection e194); (first | simp only [add_plain] at hx194_0 | simp only [add_at] at hx194_0 | simp only [Addr.add, Nat.zero_add] at hx194_0 | skip); replace p194 := eq_true p194; replace q194 := eq_true q194; have p195 : 0 ≤ (x28_2 : Int) := of_decide_eq_true zq0; have q195 : x28_2 < (x4_4.length : Int) := of_decide_eq_true zq0; obtain ⟨ad195, e195, hx195_0⟩ := Kd.at_int (Kd.R_reads' HO_4.out).2.2 x28_2 p195 q195; obtain rfl : (⟨go17, 0, none⟩ : Addr) = ad195 := (by injection e195); (first | simp only [add_plain] at hx195_0 | simp only [add_at] at hx195_0 | simp only [Addr.add, Nat.zero_add] at hx195_0 | skip); replace p195 := eq_true p195; replace q195 := eq_true q195; have p47 : 0 ≤ (t193 : Int) := of_decide_eq_true zq0; have q47 : (t193 : Int) < ((x4_4.length : Int) : Int) := of_decide_eq_true zq0; obtain ⟨hx47_0, hf47_0⟩ := Kd.R_celln 0 HO_4.out (t193 : Int) p47 q47; replace p47 := eq_true p47; replace q47 := eq_true q47; have n_ := am (Kd.R_mono (ok' := (fun k_ => some k_ ≠ (.slice Ao19 x5_4.length co19 : Value).ownBlock ∧ some k_ ≠ (u8 : Value).ownBlock ∧ some k_ ≠ (.slice (some ⟨go38, 0, none⟩) t186.length co38 : Value).ownBlock)) HO_4.out (fun k_ hk => ⟨hk.1.1, ⟨hk.1.2, hk.2⟩⟩)); clear HO_4; have HO_4 := n_; clear n_; obtain ⟨hy54_, hz54_⟩ := Kd.R_celln 0 HO_4.out (t193 : Int) (of_decide_eq_true zq0) (of_decide_eq_true zq0); have HP54 := Kd.R_putg HO_4.out (t193 : Int) (rd x4_4 x28_2)) | ((with_reducible refine gate_store (t := 3) (p := 107) rfl ?_); (try (rw [drewN_self w53]; generalize hq_ : World.drewN w53 _ = w53; replace HO_4 := am (Kd.R_at hq_ HO_4.out); replace HO_5 := am (Kd.R_at hq_ HO_5.out); replace HO_8 := am (Kd.R_at hq_ HO_8.out); replace HO188 := am (Kd.R_at hq_ HO188.out); replace HB := am (below_at hq_ HB.out); clear hq_; (try (have n_ := am (Kd.R_mono (ok' := (fun k_ => some k_ ≠ (.slice Ao19 x5_4.length co19 : Value).ownBlock ∧ some k_ ≠ (u8 : Value).ownBlock ∧ some k_ ≠ (.slice (some ⟨go38, 0, none⟩) t186.length co38 : Value).ownBlock)) HO_4.out (fun k_ hk => ⟨hk.1.1, ⟨hk.1.2, hk.2⟩⟩)); clear HO_4; have HO_4 := n_; clear n_)); (try (obtain ⟨hy54_, hz54_⟩ := Kd.R_celln 0 HO_4.out (t193 : Int) (of_decide_eq_true zq0) (of_decide_eq_true zq0))); (try (have HP54 := Kd.R_putg HO_4.out (t193 : Int) (rd x4_4 x28_2))))); refine store_event (t := 3) (p := 107) (v := ?vo_w55) (w1 := (w53.setCell ⟨go17, (t193 : Int).toNat, none⟩ (.int .i64 (rd x4_4 x28_2)))) ?hg ?ho ?hn ?hr ?_; (case ho => rfl); (case hg => rfl); (case hn => rfl); (case hr => exact zq8); intro w55 hw; have hg : w53.grownBy w55 (some go17) := (by rw [hw]; exact HP54.2); have hp_ : Kd.R (Kd.int .i64) 3 w55 w.heap.size (fun k_ => some k_ ≠ (.slice Ao19 x5_4.length co19 : Value).ownBlock ∧ some k_ ≠ (u8 : Value).ownBlock ∧ some k_ ≠ (.slice (some ⟨go38, 0, none⟩) t186.length co38 : Value).ownBlock) (.slice (some ⟨go17, 0, none⟩) x4_4.length co18) y196 := (by rw [hw, Ny196.out]; exact HP54.1); clear HP54; replace HO_4 := am (hp_); replace HO_5 := am (Kd.R_after (v := (.slice (some ⟨go17, 0, none⟩) x4_4.length co18)) (v1 := (.slice (some ⟨go17, 0, none⟩) x4_4.length co18)) (ok := (fun k_ => some k_ ≠ (u8 : Value).ownBlock ∧ some k_ ≠ (.slice (some ⟨go38, 0, none⟩) t186.length co38 : Value).ownBlock)) zq43 hg (.inl rfl)); replace HO_8 := am (Kd.R_after (v := (.slice (some ⟨go17, 0, none⟩) x4_4.length co18)) (v1 := (.slice (some ⟨go17, 0, none⟩) x4_4.length co18)) (ok := (fun k_ => some k_ ≠ (.slice Ao19 x5_4.length co19 : Value).ownBlock ∧ some k_ ≠ (.slice (some ⟨go38, 0, none⟩) t186.length co38 : Value).ownBlock)) zq40 hg (.inl rfl)); replace HO188 := am (Kd.R_after (v := (.slice (some ⟨go17, 0, none⟩) x4_4.length co18)) (v1 := (.slice (some ⟨go17, 0, none⟩) x4_4.length co18)) (ok := (fun k_ => some k_ ≠ (.slice Ao19 x5_4.length co19 : Value).ownBlock ∧ some k_ ≠ (u8 : Value).ownBlock)) zq38 hg (.inl rfl)); replace HB := am ((zq61 : Below w.heap.size w w55)); clear hg hw hp_) | ((with_reducible refine gate_builtin (b := .append) (xs := #[.tmp 108, .tmp 110]) rfl ?_); at_builtin; refine Kd.R_append (Kd.int .i64) (w0 := w) w.heap.size rfl (.tmp 108) (.tmp 110) 22 3 (.int .i64 0) 8 rfl Try.underlying22 info3 rfl zq33 zq10 u8 x8_4 t193 [.int .i64 t193] (fun k_ => some k_ ≠ (.slice (some ⟨go17, 0, none⟩) x4_4.length co18 : Value).ownBlock ∧ some k_ ≠ (.slice Ao19 x5_4.length co19 : Value).ownBlock ∧ some k_ ≠ (.slice (some ⟨go38, 0, none⟩) t186.length co38 : Value).ownBlock) (fun _ => False) rfl rfl ?aP (fun _ hk => hk.elim) ?aF ?aO ?aB ?aS ?aL ?_; (case aP => exact rfl); (case aB => exact (pBq3 HB)); (case aF => exact zq54); (case aO => exact zq41); (case aS => exact (below_size (pBq3 HB))); (case aL => have := LMc48.out; omega); intro v198 w56 ho hb hg hat; rw [← Ny197.out] at ho; have HO199 := am (ho); replace HO_4 := am (Kd.R_after (ok := (fun k_ => some k_ ≠ (.slice Ao19 x5_4.length co19 : Value).ownBlock ∧ some k_ ≠ (.slice (some ⟨go38, 0, none⟩) t186.length co38 : Value).ownBlock)) zq44 hg hat); replace HO_5 := am (Kd.R_after (ok := (fun k_ => some k_ ≠ (.slice (some ⟨go17, 0, none⟩) x4_4.length co18 : Value).ownBlock ∧ some k_ ≠ (.slice (some ⟨go38, 0, none⟩) t186.length co38 : Value).ownBlock)) zq42 hg hat); replace HO188 := am (Kd.R_after (ok := (fun k_ => some k_ ≠ (.slice (some ⟨go17, 0, none⟩) x4_4.length co18 : Value).ownBlock ∧ some k_ ≠ (.slice Ao19 x5_4.length co19 : Value).ownBlock)) zq39 hg hat); replace HB := am (hb); clear HO_8; clear ho hb hg hat)))
                                 (try simp only [← hl4_4, ← hl5_4])
                                 go_roundg k4
                                 case measure => have := HK1.out; have := HK2.out; have := HK3.out; have := HK4.out; omega
                                 case rel => exact ⟨(y196), (x5_4), (y197), (ji32), zq63, H', ⟨zq56⟩, ⟨by (try simp only [hl4_3]); (try simp only [hl5_3]); (try simp only [hl4_4]); (try simp only [hl5_4]); (with_reducible repeat (first | apply Kd.R_alloc | apply Kd.R_drewN | apply Kd.R_drew)); exact Kd.R_mono HO_4.out (fun _ hk => ⟨hk.1.1, hk.2⟩)⟩, ⟨by (try simp only [hl4_3]); (try simp only [hl5_3]); (try simp only [hl4_4]); (try simp only [hl5_4]); (with_reducible repeat (first | apply Kd.R_alloc | apply Kd.R_drewN | apply Kd.R_drew)); exact Kd.R_mono HO_5.out (fun _ hk => ⟨hk.1.1, hk.2⟩)⟩, ⟨by (try simp only [hl4_3]); (try simp only [hl5_3]); (try simp only [hl4_4]); (try simp only [hl5_4]); (with_reducible repeat (first | apply Kd.R_alloc | apply Kd.R_drewN | apply Kd.R_drew)); exact Kd.R_mono HO199.out (fun _ hk => ⟨hk.1, hk.2.1⟩)⟩, ⟨zq1⟩⟩
                                ·rw [if_neg c48] at H
                                 exact absurd H zq24
                               ·rw [if_neg c46] at H
                                exact absurd H zq24
                              ·rw [if_neg c45] at H
                               exact absurd H zq24
                             ·rw [if_neg c44] at H
                              have c44b0 : decide ((rd x4_4 t193) < 0) = false := decide_eq_false c44
                              clear c44
                              have H' := am H
                              clear H
                              have p183 : 0 ≤ (x11_4 : Int) := of_decide_eq_true zq0
                              have q183 : x11_4 < ((rd_L1 l0 (rd x8_3 x9_3)).length : Int) := of_decide_eq_true zq0
                              obtain ⟨ad183, e183, hx183_0⟩ := Kd.at_int HR182_0.out x11_4 p183 q183
                              cases e183
                              replace hx183_0 := (HB.out.cell (World.block_lt_of_cell? w _ hx183_0)).trans hx183_0
                              replace p183 := eq_true p183
                              replace q183 := eq_true q183
                              have p184 : 0 ≤ ((ji32) : Int) := of_decide_eq_true zq0
                              have q184 : (ji32) < ((rd_L1 l0 (rd x8_3 x9_3)).length : Int) := of_decide_eq_true zq0
                              obtain ⟨ad184, e184, hx184_0⟩ := Kd.at_int HR182_0.out (ji32) p184 q184
                              obtain rfl : ad183 = ad184 := (by injection e184)
                              replace hx184_0 := (HB.out.cell (World.block_lt_of_cell? w _ hx184_0)).trans hx184_0
                              replace p184 := eq_true p184
                              replace q184 := eq_true q184
                              go_wp2_with (first | (go_at_call 24; (with_reducible refine (spec_l1Abs.calls (wrap64 ((rd (rd_L1 l0 (rd x8_3 x9_3)) x11_4) - (rd (rd_L1 l0 (rd x8_3 x9_3)) (ji32)))) t185 _ A34.out).mono ?_); rintro e w' ⟨rfl, ⟨nd, rfl⟩⟩; (try first | exact ⟨rfl, _, World.drewN_drewN _ _ _⟩ | exact ⟨rfl, _, Eq.trans (World.drewN_drewN _ _ _) (congrArg (World.drewN _) (Nat.add_assoc _ _ _))⟩)) | (go_at_call 25; (with_reducible refine (spec_l1Own.calls _ _ (rd_L1 l0 (rd x8_3 x9_3)) t186 _ ?side1 ?side2 A36.out).mono ?_); (case side1 => exact zq18); (case side2 => exact HC182_0.out); rintro e w57 ⟨v187, rfl, ho0, hb⟩; have HO188 := am (Kd.R_lower (Kd.R_new' (Kd.R_new' (Kd.R_new' ho0 (Kd.R_lt (pRq3 HO_4))) (Kd.R_lt (pRq3 HO_5))) (Kd.R_lt (pRq3 HO_8))) (below_size (pBq3 HB))); replace HO_4 := am (Kd.R_elder' (pRq3 HO_4) (Kd.R_base ho0) hb); replace HO_5 := am (Kd.R_elder' (pRq3 HO_5) (Kd.R_base ho0) hb); replace HO_8 := am (Kd.R_elder' (pRq3 HO_8) (Kd.R_base ho0) hb); replace HB := am (below_step (pBq3 HB) hb); (try clear hb hk ho0); have p189 : 0 ≤ ((ji32) : Int) := of_decide_eq_true zq0; have q189 : (ji32) < ((rd_L1 l0 (rd x8_3 x9_3)).length : Int) := of_decide_eq_true zq0; obtain ⟨ad189, e189, hx189_0⟩ := Kd.at_int HR182_0.out (ji32) p189 q189; obtain rfl : ad183 = ad189 := (by injection e189); replace hx189_0 := (HB.out.cell (World.block_lt_of_cell? w _ hx189_0)).trans hx189_0; replace p189 := eq_true p189; replace q189 := eq_true q189; have p38 : 0 ≤ (x11_4 : Int) := of_decide_eq_true zq0; have q38 : (x11_4 : Int) < ((t186.length : Int) : Int) := of_decide_eq_true zq0; obtain ⟨go38, co38, eo38, gb38, gl38, cl38, HG38⟩ := Kd.R_form HO188.out zq10; (first | cases eo38 | (injection eo38 with ea_ en_ ec_; (first | subst ea_ | (injection ea_ with ea_; subst ea_)); subst ec_; clear en_)); have GB38 := am gb38; have GG38 := am HG38; clear gb38 gl38 HG38; obtain ⟨hx38_0, hf38_0⟩ := Kd.R_celln 0 HO188.out (x11_4 : Int) p38 q38; replace p38 := eq_true p38; replace q38 := eq_true q38; have n_ := am (Kd.R_mono (ok' := (fun k_ => some k_ ≠ (.slice (some ⟨go17, 0, none⟩) x4_4.length co18 : Value).ownBlock ∧ some k_ ≠ (.slice Ao19 x5_4.length co19 : Value).ownBlock ∧ some k_ ≠ (u8 : Value).ownBlock)) HO188.out (fun k_ hk => ⟨hk.1.1.2, ⟨hk.1.2, hk.2⟩⟩)); clear HO188; have HO188 := n_; clear n_; obtain ⟨hy58_, hz58_⟩ := Kd.R_celln 0 HO188.out (x11_4 : Int) (of_decide_eq_true zq0) (of_decide_eq_true zq0); have HP58 := Kd.R_putg HO188.out (x11_4 : Int) (rd (rd_L1 l0 (rd x8_3 x9_3)) (ji32))) | ((with_reducible refine gate_store (t := 3) (p := 84) rfl ?_); (try (rw [drewN_self w57]; generalize hq_ : World.drewN w57 _ = w57; replace HO_4 := am (Kd.R_at hq_ HO_4.out); replace HO_5 := am (Kd.R_at hq_ HO_5.out); replace HO_8 := am (Kd.R_at hq_ HO_8.out); replace HO188 := am (Kd.R_at hq_ HO188.out); replace HB := am (below_at hq_ HB.out); clear hq_; (try (have n_ := am (Kd.R_mono (ok' := (fun k_ => some k_ ≠ (.slice (some ⟨go17, 0, none⟩) x4_4.length co18 : Value).ownBlock ∧ some k_ ≠ (.slice Ao19 x5_4.length co19 : Value).ownBlock ∧ some k_ ≠ (u8 : Value).ownBlock)) HO188.out (fun k_ hk => ⟨hk.1.1.2, ⟨hk.1.2, hk.2⟩⟩)); clear HO188; have HO188 := n_; clear n_)); (try (obtain ⟨hy58_, hz58_⟩ := Kd.R_celln 0 HO188.out (x11_4 : Int) (of_decide_eq_true zq0) (of_decide_eq_true zq0))); (try (have HP58 := Kd.R_putg HO188.out (x11_4 : Int) (rd (rd_L1 l0 (rd x8_3 x9_3)) (ji32)))))); refine store_event (t := 3) (p := 84) (v := ?vo_w59) (w1 := (w57.setCell ⟨go38, (x11_4 : Int).toNat, none⟩ (.int .i64 (rd (rd_L1 l0 (rd x8_3 x9_3)) (ji32))))) ?hg ?ho ?hn ?hr ?_; (case ho => rfl); (case hg => rfl); (case hn => rfl); (case hr => exact zq8); intro w59 hw; have hg : w57.grownBy w59 (some go38) := (by rw [hw]; exact HP58.2); have hp_ : Kd.R (Kd.int .i64) 3 w59 w.heap.size (fun k_ => some k_ ≠ (.slice (some ⟨go17, 0, none⟩) x4_4.length co18 : Value).ownBlock ∧ some k_ ≠ (.slice Ao19 x5_4.length co19 : Value).ownBlock ∧ some k_ ≠ (u8 : Value).ownBlock) (.slice (some ⟨go38, 0, none⟩) t186.length co38) y190 := (by rw [hw, Ny190.out]; exact HP58.1); clear HP58; replace HO_4 := am (Kd.R_after (v := (.slice (some ⟨go38, 0, none⟩) t186.length co38)) (v1 := (.slice (some ⟨go38, 0, none⟩) t186.length co38)) (ok := (fun k_ => some k_ ≠ (.slice Ao19 x5_4.length co19 : Value).ownBlock ∧ some k_ ≠ (u8 : Value).ownBlock)) (pRq3 HO_4) hg (.inl rfl)); replace HO_5 := am (Kd.R_after (v := (.slice (some ⟨go38, 0, none⟩) t186.length co38)) (v1 := (.slice (some ⟨go38, 0, none⟩) t186.length co38)) (ok := (fun k_ => some k_ ≠ (.slice (some ⟨go17, 0, none⟩) x4_4.length co18 : Value).ownBlock ∧ some k_ ≠ (u8 : Value).ownBlock)) (pRq3 HO_5) hg (.inl rfl)); replace HO_8 := am (Kd.R_after (v := (.slice (some ⟨go38, 0, none⟩) t186.length co38)) (v1 := (.slice (some ⟨go38, 0, none⟩) t186.length co38)) (ok := (fun k_ => some k_ ≠ (.slice (some ⟨go17, 0, none⟩) x4_4.length co18 : Value).ownBlock ∧ some k_ ≠ (.slice Ao19 x5_4.length co19 : Value).ownBlock)) (pRq3 HO_8) hg (.inl rfl)); replace HO188 := am (hp_); replace HB := am ((zq31 : Below w.heap.size w w59)); clear hg hw hp_; have p191 : 0 ≤ (x11_4 : Int) := of_decide_eq_true zq0; have q191 : x11_4 < ((rd_L1 l0 (rd x8_3 x9_3)).length : Int) := of_decide_eq_true zq0; obtain ⟨ad191, e191, hx191_0⟩ := Kd.at_int HR182_0.out x11_4 p191 q191; obtain rfl : ad183 = ad191 := (by injection e191); replace hx191_0 := (HB.out.cell (World.block_lt_of_cell? w _ hx191_0)).trans hx191_0; replace p191 := eq_true p191; replace q191 := eq_true q191; have p40 : 0 ≤ ((ji32) : Int) := of_decide_eq_true zq0; have q40 : ((ji32) : Int) < ((t186.length : Int) : Int) := of_decide_eq_true zq0; obtain ⟨hx40_0, hf40_0⟩ := Kd.R_celln 0 HO188.out ((ji32) : Int) p40 q40; replace p40 := eq_true p40; replace q40 := eq_true q40; obtain ⟨hy60_, hz60_⟩ := Kd.R_celln 0 HO188.out ((ji32) : Int) (of_decide_eq_true zq0) (of_decide_eq_true zq0); have HP60 := Kd.R_putg HO188.out ((ji32) : Int) (rd (rd_L1 l0 (rd x8_3 x9_3)) x11_4)) | ((with_reducible refine gate_store (t := 3) (p := 92) rfl ?_); (try (rw [drewN_self w59]; generalize hq_ : World.drewN w59 _ = w59; replace HO_4 := am (Kd.R_at hq_ HO_4.out); replace HO_5 := am (Kd.R_at hq_ HO_5.out); replace HO_8 := am (Kd.R_at hq_ HO_8.out); replace HO188 := am (Kd.R_at hq_ HO188.out); replace HB := am (below_at hq_ HB.out); clear hq_; (try (obtain ⟨hy60_, hz60_⟩ := Kd.R_celln 0 HO188.out ((ji32) : Int) (of_decide_eq_true zq0) (of_decide_eq_true zq0))); (try (have HP60 := Kd.R_putg HO188.out ((ji32) : Int) (rd (rd_L1 l0 (rd x8_3 x9_3)) x11_4))))); refine store_event (t := 3) (p := 92) (v := ?vo_w61) (w1 := (w59.setCell ⟨go38, ((ji32) : Int).toNat, none⟩ (.int .i64 (rd (rd_L1 l0 (rd x8_3 x9_3)) x11_4)))) ?hg ?ho ?hn ?hr ?_; (case ho => rfl); (case hg => rfl); (case hn => rfl); (case hr => exact zq8); intro w61 hw; have hg : w59.grownBy w61 (some go38) := (by rw [hw]; exact HP60.2); have hp_ : Kd.R (Kd.int .i64) 3 w61 w.heap.size (fun k_ => some k_ ≠ (.slice (some ⟨go17, 0, none⟩) x4_4.length co18 : Value).ownBlock ∧ some k_ ≠ (.slice Ao19 x5_4.length co19 : Value).ownBlock ∧ some k_ ≠ (u8 : Value).ownBlock) (.slice (some ⟨go38, 0, none⟩) t186.length co38) y192 := (by rw [hw, Ny192.out]; exact HP60.1); clear HP60; replace HO_4 := am (Kd.R_after (v := (.slice (some ⟨go38, 0, none⟩) t186.length co38)) (v1 := (.slice (some ⟨go38, 0, none⟩) t186.length co38)) (ok := (fun k_ => some k_ ≠ (.slice Ao19 x5_4.length co19 : Value).ownBlock ∧ some k_ ≠ (u8 : Value).ownBlock)) (pRq3 HO_4) hg (.inl rfl)); replace HO_5 := am (Kd.R_after (v := (.slice (some ⟨go38, 0, none⟩) t186.length co38)) (v1 := (.slice (some ⟨go38, 0, none⟩) t186.length co38)) (ok := (fun k_ => some k_ ≠ (.slice (some ⟨go17, 0, none⟩) x4_4.length co18 : Value).ownBlock ∧ some k_ ≠ (u8 : Value).ownBlock)) (pRq3 HO_5) hg (.inl rfl)); replace HO_8 := am (Kd.R_after (v := (.slice (some ⟨go38, 0, none⟩) t186.length co38)) (v1 := (.slice (some ⟨go38, 0, none⟩) t186.length co38)) (ok := (fun k_ => some k_ ≠ (.slice (some ⟨go17, 0, none⟩) x4_4.length co18 : Value).ownBlock ∧ some k_ ≠ (.slice Ao19 x5_4.length co19 : Value).ownBlock)) (pRq3 HO_8) hg (.inl rfl)); replace HO188 := am (hp_); replace HB := am ((zq31 : Below w.heap.size w w61)); clear hg hw hp_) | (go_at_call 26; refine calls_of_args (args' := #[.slice (some ad182) l0.length c0, .slice (some ⟨go38, 0, none⟩) y192.length co38]) zq27 ?_; (with_reducible refine (spec_alPlace.calls k4 _ _ l0 _ _ y192 t193 _ ?side1 ?side2 ?side3 ?side4 A41.out).mono ?_); (case side1 => exact zq7); (case side2 => exact HC0.out); (case side3 => exact zq21); (case side4 => exact zq29); rintro e w' ⟨rfl, ⟨nd, rfl⟩⟩; (try first | exact ⟨rfl, _, World.drewN_drewN _ _ _⟩ | exact ⟨rfl, _, Eq.trans (World.drewN_drewN _ _ _) (congrArg (World.drewN _) (Nat.add_assoc _ _ _))⟩); have p194 : 0 ≤ (t193 : Int) := of_decide_eq_true zq0; have q194 : t193 < (x4_4.length : Int) := of_decide_eq_true zq0; obtain ⟨ad194, e194, hx194_0⟩ := Kd.at_int (Kd.R_reads' HO_4.out).2.2 t193 p194 q194; obtain rfl : (⟨go17, 0, none⟩ : Addr) = ad194 := (by injection e194); (first | simp only [add_plain] at hx194_0 | simp only [add_at] at hx194_0 | simp only [Addr.add, Nat.zero_add] at hx194_0 | skip); replace p194 := eq_true p194; replace q194 := eq_true q194))
                              repeat (go_quiet (first | (go_at_call 24; (with_reducible refine (spec_l1Abs.calls (wrap64 ((rd (rd_L1 l0 (rd x8_3 x9_3)) x11_4) - (rd (rd_L1 l0 (rd x8_3 x9_3)) (ji32)))) t185 _ A34.out).mono ?_); rintro e w' ⟨rfl, ⟨nd, rfl⟩⟩; (try first | exact ⟨rfl, _, World.drewN_drewN _ _ _⟩ | exact ⟨rfl, _, Eq.trans (World.drewN_drewN _ _ _) (congrArg (World.drewN _) (Nat.add_assoc _ _ _))⟩)) | (go_at_call 25; (with_reducible refine (spec_l1Own.calls _ _ (rd_L1 l0 (rd x8_3 x9_3)) t186 _ ?side1 ?side2 A36.out).mono ?_); (case side1 => exact zq18); (case side2 => exact HC182_0.out); rintro e w57 ⟨v187, rfl, ho0, hb⟩; have HO188 := am (Kd.R_lower (Kd.R_new' (Kd.R_new' (Kd.R_new' ho0 (Kd.R_lt (pRq3 HO_4))) (Kd.R_lt (pRq3 HO_5))) (Kd.R_lt (pRq3 HO_8))) (below_size (pBq3 HB))); replace HO_4 := am (Kd.R_elder' (pRq3 HO_4) (Kd.R_base ho0) hb); replace HO_5 := am (Kd.R_elder' (pRq3 HO_5) (Kd.R_base ho0) hb); replace HO_8 := am (Kd.R_elder' (pRq3 HO_8) (Kd.R_base ho0) hb); replace HB := am (below_step (pBq3 HB) hb); (try clear hb hk ho0); have p189 : 0 ≤ ((ji32) : Int) := of_decide_eq_true zq0; have q189 : (ji32) < ((rd_L1 l0 (rd x8_3 x9_3)).length : Int) := of_decide_eq_true zq0; obtain ⟨ad189, e189, hx189_0⟩ := Kd.at_int HR182_0.out (ji32) p189 q189; obtain rfl : ad183 = ad189 := (by injection e189); replace hx189_0 := (HB.out.cell (World.block_lt_of_cell? w _ hx189_0)).trans hx189_0; replace p189 := eq_true p189; replace q189 := eq_true q189; have p38 : 0 ≤ (x11_4 : Int) := of_decide_eq_true zq0; have q38 : (x11_4 : Int) < ((t186.length : Int) : Int) := of_decide_eq_true zq0; obtain ⟨go38, co38, eo38, gb38, gl38, cl38, HG38⟩ := Kd.R_form HO188.out zq10; (first | cases eo38 | (injection eo38 with ea_ en_ ec_; (first | subst ea_ | (injection ea_ with ea_; subst ea_)); subst ec_; clear en_)); have GB38 := am gb38; have GG38 := am HG38; clear gb38 gl38 HG38; obtain ⟨hx38_0, hf38_0⟩ := Kd.R_celln 0 HO188.out (x11_4 : Int) p38 q38; replace p38 := eq_true p38; replace q38 := eq_true q38; have n_ := am (Kd.R_mono (ok' := (fun k_ => some k_ ≠ (.slice (some ⟨go17, 0, none⟩) x4_4.length co18 : Value).ownBlock ∧ some k_ ≠ (.slice Ao19 x5_4.length co19 : Value).ownBlock ∧ some k_ ≠ (u8 : Value).ownBlock)) HO188.out (fun k_ hk => ⟨hk.1.1.2, ⟨hk.1.2, hk.2⟩⟩)); clear HO188; have HO188 := n_; clear n_; obtain ⟨hy58_, hz58_⟩ := Kd.R_celln 0 HO188.out (x11_4 : Int) (of_decide_eq_true zq0) (of_decide_eq_true zq0); have HP58 := Kd.R_putg HO188.out (x11_4 : Int) (rd (rd_L1 l0 (rd x8_3 x9_3)) (ji32))) | ((with_reducible refine gate_store (t := 3) (p := 84) rfl ?_); (try (rw [drewN_self w57]; generalize hq_ : World.drewN w57 _ = w57; replace HO_4 := am (Kd.R_at hq_ HO_4.out); replace HO_5 := am (Kd.R_at hq_ HO_5.out); replace HO_8 := am (Kd.R_at hq_ HO_8.out); replace HO188 := am (Kd.R_at hq_ HO188.out); replace HB := am (below_at hq_ HB.out); clear hq_; (try (have n_ := am (Kd.R_mono (ok' := (fun k_ => some k_ ≠ (.slice (some ⟨go17, 0, none⟩) x4_4.length co18 : Value).ownBlock ∧ some k_ ≠ (.slice Ao19 x5_4.length co19 : Value).ownBlock ∧ some k_ ≠ (u8 : Value).ownBlock)) HO188.out (fun k_ hk => ⟨hk.1.1.2, ⟨hk.1.2, hk.2⟩⟩)); clear HO188; have HO188 := n_; clear n_)); (try (obtain ⟨hy58_, hz58_⟩ := Kd.R_celln 0 HO188.out (x11_4 : Int) (of_decide_eq_true zq0) (of_decide_eq_true zq0))); (try (have HP58 := Kd.R_putg HO188.out (x11_4 : Int) (rd (rd_L1 l0 (rd x8_3 x9_3)) (ji32)))))); refine store_event (t := 3) (p := 84) (v := ?vo_w59) (w1 := (w57.setCell ⟨go38, (x11_4 : Int).toNat, none⟩ (.int .i64 (rd (rd_L1 l0 (rd x8_3 x9_3)) (ji32))))) ?hg ?ho ?hn ?hr ?_; (case ho => rfl); (case hg => rfl); (case hn => rfl); (case hr => exact zq8); intro w59 hw; have hg : w57.grownBy w59 (some go38) := (by rw [hw]; exact HP58.2); have hp_ : Kd.R (Kd.int .i64) 3 w59 w.heap.size (fun k_ => some k_ ≠ (.slice (some ⟨go17, 0, none⟩) x4_4.length co18 : Value).ownBlock ∧ some k_ ≠ (.slice Ao19 x5_4.length co19 : Value).ownBlock ∧ some k_ ≠ (u8 : Value).ownBlock) (.slice (some ⟨go38, 0, none⟩) t186.length co38) y190 := (by rw [hw, Ny190.out]; exact HP58.1); clear HP58; replace HO_4 := am (Kd.R_after (v := (.slice (some ⟨go38, 0, none⟩) t186.length co38)) (v1 := (.slice (some ⟨go38, 0, none⟩) t186.length co38)) (ok := (fun k_ => some k_ ≠ (.slice Ao19 x5_4.length co19 : Value).ownBlock ∧ some k_ ≠ (u8 : Value).ownBlock)) (pRq3 HO_4) hg (.inl rfl)); replace HO_5 := am (Kd.R_after (v := (.slice (some ⟨go38, 0, none⟩) t186.length co38)) (v1 := (.slice (some ⟨go38, 0, none⟩) t186.length co38)) (ok := (fun k_ => some k_ ≠ (.slice (some ⟨go17, 0, none⟩) x4_4.length co18 : Value).ownBlock ∧ some k_ ≠ (u8 : Value).ownBlock)) (pRq3 HO_5) hg (.inl rfl)); replace HO_8 := am (Kd.R_after (v := (.slice (some ⟨go38, 0, none⟩) t186.length co38)) (v1 := (.slice (some ⟨go38, 0, none⟩) t186.length co38)) (ok := (fun k_ => some k_ ≠ (.slice (some ⟨go17, 0, none⟩) x4_4.length co18 : Value).ownBlock ∧ some k_ ≠ (.slice Ao19 x5_4.length co19 : Value).ownBlock)) (pRq3 HO_8) hg (.inl rfl)); replace HO188 := am (hp_); replace HB := am ((zq31 : Below w.heap.size w w59)); clear hg hw hp_; have p191 : 0 ≤ (x11_4 : Int) := of_decide_eq_true zq0; have q191 : x11_4 < ((rd_L1 l0 (rd x8_3 x9_3)).length : Int) := of_decide_eq_true zq0; obtain ⟨ad191, e191, hx191_0⟩ := Kd.at_int HR182_0.out x11_4 p191 q191; obtain rfl : ad183 = ad191 := (by injection e191); replace hx191_0 := (HB.out.cell (World.block_lt_of_cell? w _ hx191_0)).trans hx191_0; replace p191 := eq_true p191; replace q191 := eq_true q191; have p40 : 0 ≤ ((ji32) : Int) := of_decide_eq_true zq0; have q40 : ((ji32) : Int) < ((t186.length : Int) : Int) := of_decide_eq_true zq0; obtain ⟨hx40_0, hf40_0⟩ := Kd.R_celln 0 HO188.out ((ji32) : Int) p40 q40; replace p40 := eq_true p40; replace q40 := eq_true q40; obtain ⟨hy60_, hz60_⟩ := Kd.R_celln 0 HO188.out ((ji32) : Int) (of_decide_eq_true zq0) (of_decide_eq_true zq0); have HP60 := Kd.R_putg HO188.out ((ji32) : Int) (rd (rd_L1 l0 (rd x8_3 x9_3)) x11_4)) | ((with_reducible refine gate_store (t := 3) (p := 92) rfl ?_); (try (rw [drewN_self w59]; generalize hq_ : World.drewN w59 _ = w59; replace HO_4 := am (Kd.R_at hq_ HO_4.out); replace HO_5 := am (Kd.R_at hq_ HO_5.out); replace HO_8 := am (Kd.R_at hq_ HO_8.out); replace HO188 := am (Kd.R_at hq_ HO188.out); replace HB := am (below_at hq_ HB.out); clear hq_; (try (obtain ⟨hy60_, hz60_⟩ := Kd.R_celln 0 HO188.out ((ji32) : Int) (of_decide_eq_true zq0) (of_decide_eq_true zq0))); (try (have HP60 := Kd.R_putg HO188.out ((ji32) : Int) (rd (rd_L1 l0 (rd x8_3 x9_3)) x11_4))))); refine store_event (t := 3) (p := 92) (v := ?vo_w61) (w1 := (w59.setCell ⟨go38, ((ji32) : Int).toNat, none⟩ (.int .i64 (rd (rd_L1 l0 (rd x8_3 x9_3)) x11_4)))) ?hg ?ho ?hn ?hr ?_; (case ho => rfl); (case hg => rfl); (case hn => rfl); (case hr => exact zq8); intro w61 hw; have hg : w59.grownBy w61 (some go38) := (by rw [hw]; exact HP60.2); have hp_ : Kd.R (Kd.int .i64) 3 w61 w.heap.size (fun k_ => some k_ ≠ (.slice (some ⟨go17, 0, none⟩) x4_4.length co18 : Value).ownBlock ∧ some k_ ≠ (.slice Ao19 x5_4.length co19 : Value).ownBlock ∧ some k_ ≠ (u8 : Value).ownBlock) (.slice (some ⟨go38, 0, none⟩) t186.length co38) y192 := (by rw [hw, Ny192.out]; exact HP60.1); clear HP60; replace HO_4 := am (Kd.R_after (v := (.slice (some ⟨go38, 0, none⟩) t186.length co38)) (v1 := (.slice (some ⟨go38, 0, none⟩) t186.length co38)) (ok := (fun k_ => some k_ ≠ (.slice Ao19 x5_4.length co19 : Value).ownBlock ∧ some k_ ≠ (u8 : Value).ownBlock)) (pRq3 HO_4) hg (.inl rfl)); replace HO_5 := am (Kd.R_after (v := (.slice (some ⟨go38, 0, none⟩) t186.length co38)) (v1 := (.slice (some ⟨go38, 0, none⟩) t186.length co38)) (ok := (fun k_ => some k_ ≠ (.slice (some ⟨go17, 0, none⟩) x4_4.length co18 : Value).ownBlock ∧ some k_ ≠ (u8 : Value).ownBlock)) (pRq3 HO_5) hg (.inl rfl)); replace HO_8 := am (Kd.R_after (v := (.slice (some ⟨go38, 0, none⟩) t186.length co38)) (v1 := (.slice (some ⟨go38, 0, none⟩) t186.length co38)) (ok := (fun k_ => some k_ ≠ (.slice (some ⟨go17, 0, none⟩) x4_4.length co18 : Value).ownBlock ∧ some k_ ≠ (.slice Ao19 x5_4.length co19 : Value).ownBlock)) (pRq3 HO_8) hg (.inl rfl)); replace HO188 := am (hp_); replace HB := am ((zq31 : Below w.heap.size w w61)); clear hg hw hp_) | (go_at_call 26; refine calls_of_args (args' := #[.slice (some ad182) l0.length c0, .slice (some ⟨go38, 0, none⟩) y192.length co38]) zq27 ?_; (with_reducible refine (spec_alPlace.calls k4 _ _ l0 _ _ y192 t193 _ ?side1 ?side2 ?side3 ?side4 A41.out).mono ?_); (case side1 => exact zq7); (case side2 => exact HC0.out); (case side3 => exact zq21); (case side4 => exact zq29); rintro e w' ⟨rfl, ⟨nd, rfl⟩⟩; (try first | exact ⟨rfl, _, World.drewN_drewN _ _ _⟩ | exact ⟨rfl, _, Eq.trans (World.drewN_drewN _ _ _) (congrArg (World.drewN _) (Nat.add_assoc _ _ _))⟩); have p194 : 0 ≤ (t193 : Int) := of_decide_eq_true zq0; have q194 : t193 < (x4_4.length : Int) := of_decide_eq_true zq0; obtain ⟨ad194, e194, hx194_0⟩ := Kd.at_int (Kd.R_reads' HO_4.out).2.2 t193 p194 q194; obtain rfl : (⟨go17, 0, none⟩ : Addr) = ad194 := (by injection e194); (first | simp only [add_plain] at hx194_0 | simp only [add_at] at hx194_0 | simp only [Addr.add, Nat.zero_add] at hx194_0 | skip); replace p194 := eq_true p194; replace q194 := eq_true q194)); try go_wp2_with (first | (go_at_call 24; (with_reducible refine (spec_l1Abs.calls (wrap64 ((rd (rd_L1 l0 (rd x8_3 x9_3)) x11_4) - (rd (rd_L1 l0 (rd x8_3 x9_3)) (ji32)))) t185 _ A34.out).mono ?_); rintro e w' ⟨rfl, ⟨nd, rfl⟩⟩; (try first | exact ⟨rfl, _, World.drewN_drewN _ _ _⟩ | exact ⟨rfl, _, Eq.trans (World.drewN_drewN _ _ _) (congrArg (World.drewN _) (Nat.add_assoc _ _ _))⟩)) | (go_at_call 25; (with_reducible refine (spec_l1Own.calls _ _ (rd_L1 l0 (rd x8_3 x9_3)) t186 _ ?side1 ?side2 A36.out).mono ?_); (case side1 => exact zq18); (case side2 => exact HC182_0.out); rintro e w57 ⟨v187, rfl, ho0, hb⟩; have HO188 := am (Kd.R_lower (Kd.R_new' (Kd.R_new' (Kd.R_new' ho0 (Kd.R_lt (pRq3 HO_4))) (Kd.R_lt (pRq3 HO_5))) (Kd.R_lt (pRq3 HO_8))) (below_size (pBq3 HB))); replace HO_4 := am (Kd.R_elder' (pRq3 HO_4) (Kd.R_base ho0) hb); replace HO_5 := am (Kd.R_elder' (pRq3 HO_5) (Kd.R_base ho0) hb); replace HO_8 := am (Kd.R_elder' (pRq3 HO_8) (Kd.R_base ho0) hb); replace HB := am (below_step (pBq3 HB) hb); (try clear hb hk ho0); have p189 : 0 ≤ ((ji32) : Int) := of_decide_eq_true zq0; have q189 : (ji32) < ((rd_L1 l0 (rd x8_3 x9_3)).length : Int) := of_decide_eq_true zq0; obtain ⟨ad189, e189, hx189_0⟩ := Kd.at_int HR182_0.out (ji32) p189 q189; obtain rfl : ad183 = ad189 := (by injection e189); replace hx189_0 := (HB.out.cell (World.block_lt_of_cell? w _ hx189_0)).trans hx189_0; replace p189 := eq_true p189; replace q189 := eq_true q189; have p38 : 0 ≤ (x11_4 : Int) := of_decide_eq_true zq0; have q38 : (x11_4 : Int) < ((t186.length : Int) : Int) := of_decide_eq_true zq0; obtain ⟨go38, co38, eo38, gb38, gl38, cl38, HG38⟩ := Kd.R_form HO188.out zq10; (first | cases eo38 | (injection eo38 with ea_ en_ ec_; (first | subst ea_ | (injection ea_ with ea_; subst ea_)); subst ec_; clear en_)); have GB38 := am gb38; have GG38 := am HG38; clear gb38 gl38 HG38; obtain ⟨hx38_0, hf38_0⟩ := Kd.R_celln 0 HO188.out (x11_4 : Int) p38 q38; replace p38 := eq_true p38; replace q38 := eq_true q38; have n_ := am (Kd.R_mono (ok' := (fun k_ => some k_ ≠ (.slice (some ⟨go17, 0, none⟩) x4_4.length co18 : Value).ownBlock ∧ some k_ ≠ (.slice Ao19 x5_4.length co19 : Value).ownBlock ∧ some k_ ≠ (u8 : Value).ownBlock)) HO188.out (fun k_ hk => ⟨hk.1.1.2, ⟨hk.1.2, hk.2⟩⟩)); clear HO188; have HO188 := n_; clear n_; obtain ⟨hy58_, hz58_⟩ := Kd.R_celln 0 HO188.out (x11_4 : Int) (of_decide_eq_true zq0) (of_decide_eq_true zq0); have HP58 := Kd.R_putg HO188.out (x11_4 : Int) (rd (rd_L1 l0 (rd x8_3 x9_3)) (ji32))) | ((with_reducible refine gate_store (t := 3) (p := 84) rfl ?_); (try (rw [drewN_self w57]; generalize hq_ : World.drewN w57 _ = w57; replace HO_4 := am (Kd.R_at hq_ HO_4.out); replace HO_5 := am (Kd.R_at hq_ HO_5.out); replace HO_8 := am (Kd.R_at hq_ HO_8.out); replace HO188 := am (Kd.R_at hq_ HO188.out); replace HB := am (below_at hq_ HB.out); clear hq_; (try (have n_ := am (Kd.R_mono (ok' := (fun k_ => some k_ ≠ (.slice (some ⟨go17, 0, none⟩) x4_4.length co18 : Value).ownBlock ∧ some k_ ≠ (.slice Ao19 x5_4.length co19 : Value).ownBlock ∧ some k_ ≠ (u8 : Value).ownBlock)) HO188.out (fun k_ hk => ⟨hk.1.1.2, ⟨hk.1.2, hk.2⟩⟩)); clear HO188; have HO188 := n_; clear n_)); (try (obtain ⟨hy58_, hz58_⟩ := Kd.R_celln 0 HO188.out (x11_4 : Int) (of_decide_eq_true zq0) (of_decide_eq_true zq0))); (try (have HP58 := Kd.R_putg HO188.out (x11_4 : Int) (rd (rd_L1 l0 (rd x8_3 x9_3)) (ji32)))))); refine store_event (t := 3) (p := 84) (v := ?vo_w59) (w1 := (w57.setCell ⟨go38, (x11_4 : Int).toNat, none⟩ (.int .i64 (rd (rd_L1 l0 (rd x8_3 x9_3)) (ji32))))) ?hg ?ho ?hn ?hr ?_; (case ho => rfl); (case hg => rfl); (case hn => rfl); (case hr => exact zq8); intro w59 hw; have hg : w57.grownBy w59 (some go38) := (by rw [hw]; exact HP58.2); have hp_ : Kd.R (Kd.int .i64) 3 w59 w.heap.size (fun k_ => some k_ ≠ (.slice (some ⟨go17, 0, none⟩) x4_4.length co18 : Value).ownBlock ∧ some k_ ≠ (.slice Ao19 x5_4.length co19 : Value).ownBlock ∧ some k_ ≠ (u8 : Value).ownBlock) (.slice (some ⟨go38, 0, none⟩) t186.length co38) y190 := (by rw [hw, Ny190.out]; exact HP58.1); clear HP58; replace HO_4 := am (Kd.R_after (v := (.slice (some ⟨go38, 0, none⟩) t186.length co38)) (v1 := (.slice (some ⟨go38, 0, none⟩) t186.length co38)) (ok := (fun k_ => some k_ ≠ (.slice Ao19 x5_4.length co19 : Value).ownBlock ∧ some k_ ≠ (u8 : Value).ownBlock)) (pRq3 HO_4) hg (.inl rfl)); replace HO_5 := am (Kd.R_after (v := (.slice (some ⟨go38, 0, none⟩) t186.length co38)) (v1 := (.slice (some ⟨go38, 0, none⟩) t186.length co38)) (ok := (fun k_ => some k_ ≠ (.slice (some ⟨go17, 0, none⟩) x4_4.length co18 : Value).ownBlock ∧ some k_ ≠ (u8 : Value).ownBlock)) (pRq3 HO_5) hg (.inl rfl)); replace HO_8 := am (Kd.R_after (v := (.slice (some ⟨go38, 0, none⟩) t186.length co38)) (v1 := (.slice (some ⟨go38, 0, none⟩) t186.length co38)) (ok := (fun k_ => some k_ ≠ (.slice (some ⟨go17, 0, none⟩) x4_4.length co18 : Value).ownBlock ∧ some k_ ≠ (.slice Ao19 x5_4.length co19 : Value).ownBlock)) (pRq3 HO_8) hg (.inl rfl)); replace HO188 := am (hp_); replace HB := am ((zq31 : Below w.heap.size w w59)); clear hg hw hp_; have p191 : 0 ≤ (x11_4 : Int) := of_decide_eq_true zq0; have q191 : x11_4 < ((rd_L1 l0 (rd x8_3 x9_3)).length : Int) := of_decide_eq_true zq0; obtain ⟨ad191, e191, hx191_0⟩ := Kd.at_int HR182_0.out x11_4 p191 q191; obtain rfl : ad183 = ad191 := (by injection e191); replace hx191_0 := (HB.out.cell (World.block_lt_of_cell? w _ hx191_0)).trans hx191_0; replace p191 := eq_true p191; replace q191 := eq_true q191; have p40 : 0 ≤ ((ji32) : Int) := of_decide_eq_true zq0; have q40 : ((ji32) : Int) < ((t186.length : Int) : Int) := of_decide_eq_true zq0; obtain ⟨hx40_0, hf40_0⟩ := Kd.R_celln 0 HO188.out ((ji32) : Int) p40 q40; replace p40 := eq_true p40; replace q40 := eq_true q40; obtain ⟨hy60_, hz60_⟩ := Kd.R_celln 0 HO188.out ((ji32) : Int) (of_decide_eq_true zq0) (of_decide_eq_true zq0); have HP60 := Kd.R_putg HO188.out ((ji32) : Int) (rd (rd_L1 l0 (rd x8_3 x9_3)) x11_4)) | ((with_reducible refine gate_store (t := 3) (p := 92) rfl ?_); (try (rw [drewN_self w59]; generalize hq_ : World.drewN w59 _ = w59; replace HO_4 := am (Kd.R_at hq_ HO_4.out); replace HO_5 := am (Kd.R_at hq_ HO_5.out); replace HO_8 := am (Kd.R_at hq_ HO_8.out); replace HO188 := am (Kd.R_at hq_ HO188.out); replace HB := am (below_at hq_ HB.out); clear hq_; (try (obtain ⟨hy60_, hz60_⟩ := Kd.R_celln 0 HO188.out ((ji32) : Int) (of_decide_eq_true zq0) (of_decide_eq_true zq0))); (try (have HP60 := Kd.R_putg HO188.out ((ji32) : Int) (rd (rd_L1 l0 (rd x8_3 x9_3)) x11_4))))); refine store_event (t := 3) (p := 92) (v := ?vo_w61) (w1 := (w59.setCell ⟨go38, ((ji32) : Int).toNat, none⟩ (.int .i64 (rd (rd_L1 l0 (rd x8_3 x9_3)) x11_4)))) ?hg ?ho ?hn ?hr ?_; (case ho => rfl); (case hg => rfl); (case hn => rfl); (case hr => exact zq8); intro w61 hw; have hg : w59.grownBy w61 (some go38) := (by rw [hw]; exact HP60.2); have hp_ : Kd.R (Kd.int .i64) 3 w61 w.heap.size (fun k_ => some k_ ≠ (.slice (some ⟨go17, 0, none⟩) x4_4.length co18 : Value).ownBlock ∧ some k_ ≠ (.slice Ao19 x5_4.length co19 : Value).ownBlock ∧ some k_ ≠ (u8 : Value).ownBlock) (.slice (some ⟨go38, 0, none⟩) t186.length co38) y192 := (by rw [hw, Ny192.out]; exact HP60.1); clear HP60; replace HO_4 := am (Kd.R_after (v := (.slice (some ⟨go38, 0, none⟩) t186.length co38)) (v1 := (.slice (some ⟨go38, 0, none⟩) t186.length co38)) (ok := (fun k_ => some k_ ≠ (.slice Ao19 x5_4.length co19 : Value).ownBlock ∧ some k_ ≠ (u8 : Value).ownBlock)) (pRq3 HO_4) hg (.inl rfl)); replace HO_5 := am (Kd.R_after (v := (.slice (some ⟨go38, 0, none⟩) t186.length co38)) (v1 := (.slice (some ⟨go38, 0, none⟩) t186.length co38)) (ok := (fun k_ => some k_ ≠ (.slice (some ⟨go17, 0, none⟩) x4_4.length co18 : Value).ownBlock ∧ some k_ ≠ (u8 : Value).ownBlock)) (pRq3 HO_5) hg (.inl rfl)); replace HO_8 := am (Kd.R_after (v := (.slice (some ⟨go38, 0, none⟩) t186.length co38)) (v1 := (.slice (some ⟨go38, 0, none⟩) t186.length co38)) (ok := (fun k_ => some k_ ≠ (.slice (some ⟨go17, 0, none⟩) x4_4.length co18 : Value).ownBlock ∧ some k_ ≠ (.slice Ao19 x5_4.length co19 : Value).ownBlock)) (pRq3 HO_8) hg (.inl rfl)); replace HO188 := am (hp_); replace HB := am ((zq31 : Below w.heap.size w w61)); clear hg hw hp_) | (go_at_call 26; refine calls_of_args (args' := #[.slice (some ad182) l0.length c0, .slice (some ⟨go38, 0, none⟩) y192.length co38]) zq27 ?_; (with_reducible refine (spec_alPlace.calls k4 _ _ l0 _ _ y192 t193 _ ?side1 ?side2 ?side3 ?side4 A41.out).mono ?_); (case side1 => exact zq7); (case side2 => exact HC0.out); (case side3 => exact zq21); (case side4 => exact zq29); rintro e w' ⟨rfl, ⟨nd, rfl⟩⟩; (try first | exact ⟨rfl, _, World.drewN_drewN _ _ _⟩ | exact ⟨rfl, _, Eq.trans (World.drewN_drewN _ _ _) (congrArg (World.drewN _) (Nat.add_assoc _ _ _))⟩); have p194 : 0 ≤ (t193 : Int) := of_decide_eq_true zq0; have q194 : t193 < (x4_4.length : Int) := of_decide_eq_true zq0; obtain ⟨ad194, e194, hx194_0⟩ := Kd.at_int (Kd.R_reads' HO_4.out).2.2 t193 p194 q194; obtain rfl : (⟨go17, 0, none⟩ : Addr) = ad194 := (by injection e194); (first | simp only [add_plain] at hx194_0 | simp only [add_at] at hx194_0 | simp only [Addr.add, Nat.zero_add] at hx194_0 | skip); replace p194 := eq_true p194; replace q194 := eq_true q194)))
                              (try simp only [← hl4_4, ← hl5_4])
                              go_roundg k4
                              case measure => have := HK1.out; have := HK2.out; have := HK3.out; have := HK4.out; omega
                              case rel => exact ⟨(x4_4), (x5_4), (x8_4), (ji32), zq63, H', ⟨zq56⟩, ⟨by (try simp only [hl4_3]); (try simp only [hl5_3]); (try simp only [hl4_4]); (try simp only [hl5_4]); (with_reducible repeat (first | apply Kd.R_alloc | apply Kd.R_drewN | apply Kd.R_drew)); exact Kd.R_mono HO_4.out (fun _ hk => ⟨hk.1.1, hk.1.2⟩)⟩, ⟨by (try simp only [hl4_3]); (try simp only [hl5_3]); (try simp only [hl4_4]); (try simp only [hl5_4]); (with_reducible repeat (first | apply Kd.R_alloc | apply Kd.R_drewN | apply Kd.R_drew)); exact Kd.R_mono HO_5.out (fun _ hk => ⟨hk.1.1, hk.1.2⟩)⟩, ⟨by (try simp only [hl4_3]); (try simp only [hl5_3]); (try simp only [hl4_4]); (try simp only [hl5_4]); (with_reducible repeat (first | apply Kd.R_alloc | apply Kd.R_drewN | apply Kd.R_drew)); exact Kd.R_mono HO_8.out (fun _ hk => ⟨hk.1.1, hk.1.2⟩)⟩, ⟨zq1⟩⟩
                            ·rw [if_neg c43] at H
                             exact absurd H zq24
                           ·rw [if_neg c42] at H
                            exact absurd H zq24
                          ·rw [if_neg c39] at H
                           exact absurd H zq24
                         ·rw [if_neg c37] at H
                          exact absurd H zq24
                       ·rw [if_neg c33] at H
                        exact absurd H zq24
                      ·rw [if_neg c31] at H
                       exact absurd H zq24
                     ·rw [if_neg c30] at H
                      exact absurd H zq24
                    ·rw [if_neg c29] at H
                     have c29b0 : decide ((wrap64 (x11_4 + 1)) < ((rd_L1 l0 (rd x8_3 x9_3)).length : Int)) = false := decide_eq_false c29
                     clear c29
                     have H' := am H
                     clear H
                     go_wp2
                     repeat (go_quiet (fail); try go_wp2)
                     (try simp only [← hl4_3, ← hl5_3, ← hl4_4, ← hl5_4])
                     go_roundg k4
                     case measure => have := HK1.out; have := HK2.out; have := HK3.out; have := HK4.out; omega
                     case rel => exact ⟨(x4_4), (x5_4), (x8_4), (wrap64 (x9_3 + 1)), zq3, H', ⟨zq56⟩, ⟨zq60⟩, ⟨zq59⟩, ⟨zq58⟩, ⟨zq1⟩⟩
                 ·rw [if_neg c27] at H
                  exact absurd H zq24
                ·rw [if_neg c26] at H
                 exact absurd H zq24
               ·rw [if_neg c25] at H
                exact absurd H zq24
              ·rw [if_neg c24] at H
               have c24b0 : decide (x9_3 < (x8_3.length : Int)) = false := decide_eq_false c24
               clear c24
               by_cases c62 : x5_3.length < 17592186044416
               ·rw [if_pos c62] at H
                have LMc62 := am c62
                clear c62
                obtain ⟨y178, hy178⟩ : ∃ y_ : List Int, y_ = (x5_3 ++ [x28_2]) := ⟨_, rfl⟩
                replace H : (spec_alClasses.l1 k3 l0 x4_3 y178 (l0.length : Int) (wrap64 (x28_2 + 1))) = some (r1, r2) := by first | (rw [hy178]; exact zH) | exact zH
                have Ny178 := am hy178
                clear hy178
                have H' := am H
                clear H
                obtain ⟨Ao63, co63, eo63⟩ := Kd.R_slice HO_8.out
                subst eo63
                go_wp2_with (first | ((with_reducible refine gate_builtin (b := .append) (xs := #[.tmp 112, .tmp 114]) rfl ?_); at_builtin; refine Kd.R_append (Kd.int .i64) (w0 := w) w.heap.size rfl (.tmp 112) (.tmp 114) 22 3 (.int .i64 0) 8 rfl Try.underlying22 info3 rfl zq33 zq10 (.slice Ao19 x5_3.length co19) x5_3 x28_2 [.int .i64 x28_2] (fun k_ => some k_ ≠ (.slice (some ⟨go17, 0, none⟩) x4_3.length co18 : Value).ownBlock ∧ some k_ ≠ (.slice Ao63 x8_3.length co63 : Value).ownBlock) (fun _ => False) rfl rfl ?aP (fun _ hk => hk.elim) ?aF ?aO ?aB ?aS ?aL ?_; (case aP => exact rfl); (case aB => exact (pBq3 HB)); (case aF => exact zq68); (case aO => exact (pRq3 HO_5)); (case aS => exact (below_size (pBq3 HB))); (case aL => have := LMc62.out; omega); intro v179 w64 ho hb hg hat; rw [← Ny178.out] at ho; have HO180 := am (ho); replace HO_4 := am (Kd.R_after (ok := (fun k_ => some k_ ≠ (.slice Ao63 x8_3.length co63 : Value).ownBlock)) zq49 hg hat); replace HO_8 := am (Kd.R_after (ok := (fun k_ => some k_ ≠ (.slice (some ⟨go17, 0, none⟩) x4_3.length co18 : Value).ownBlock)) (pRq3 HO_8) hg hat); replace HB := am (hb); clear HO_5; clear ho hb hg hat))
                repeat (go_quiet (first | ((with_reducible refine gate_builtin (b := .append) (xs := #[.tmp 112, .tmp 114]) rfl ?_); at_builtin; refine Kd.R_append (Kd.int .i64) (w0 := w) w.heap.size rfl (.tmp 112) (.tmp 114) 22 3 (.int .i64 0) 8 rfl Try.underlying22 info3 rfl zq33 zq10 (.slice Ao19 x5_3.length co19) x5_3 x28_2 [.int .i64 x28_2] (fun k_ => some k_ ≠ (.slice (some ⟨go17, 0, none⟩) x4_3.length co18 : Value).ownBlock ∧ some k_ ≠ (.slice Ao63 x8_3.length co63 : Value).ownBlock) (fun _ => False) rfl rfl ?aP (fun _ hk => hk.elim) ?aF ?aO ?aB ?aS ?aL ?_; (case aP => exact rfl); (case aB => exact (pBq3 HB)); (case aF => exact zq68); (case aO => exact (pRq3 HO_5)); (case aS => exact (below_size (pBq3 HB))); (case aL => have := LMc62.out; omega); intro v179 w64 ho hb hg hat; rw [← Ny178.out] at ho; have HO180 := am (ho); replace HO_4 := am (Kd.R_after (ok := (fun k_ => some k_ ≠ (.slice Ao63 x8_3.length co63 : Value).ownBlock)) zq49 hg hat); replace HO_8 := am (Kd.R_after (ok := (fun k_ => some k_ ≠ (.slice (some ⟨go17, 0, none⟩) x4_3.length co18 : Value).ownBlock)) (pRq3 HO_8) hg hat); replace HB := am (hb); clear HO_5; clear ho hb hg hat)); try go_wp2_with (first | ((with_reducible refine gate_builtin (b := .append) (xs := #[.tmp 112, .tmp 114]) rfl ?_); at_builtin; refine Kd.R_append (Kd.int .i64) (w0 := w) w.heap.size rfl (.tmp 112) (.tmp 114) 22 3 (.int .i64 0) 8 rfl Try.underlying22 info3 rfl zq33 zq10 (.slice Ao19 x5_3.length co19) x5_3 x28_2 [.int .i64 x28_2] (fun k_ => some k_ ≠ (.slice (some ⟨go17, 0, none⟩) x4_3.length co18 : Value).ownBlock ∧ some k_ ≠ (.slice Ao63 x8_3.length co63 : Value).ownBlock) (fun _ => False) rfl rfl ?aP (fun _ hk => hk.elim) ?aF ?aO ?aB ?aS ?aL ?_; (case aP => exact rfl); (case aB => exact (pBq3 HB)); (case aF => exact zq68); (case aO => exact (pRq3 HO_5)); (case aS => exact (below_size (pBq3 HB))); (case aL => have := LMc62.out; omega); intro v179 w64 ho hb hg hat; rw [← Ny178.out] at ho; have HO180 := am (ho); replace HO_4 := am (Kd.R_after (ok := (fun k_ => some k_ ≠ (.slice Ao63 x8_3.length co63 : Value).ownBlock)) zq49 hg hat); replace HO_8 := am (Kd.R_after (ok := (fun k_ => some k_ ≠ (.slice (some ⟨go17, 0, none⟩) x4_3.length co18 : Value).ownBlock)) (pRq3 HO_8) hg hat); replace HB := am (hb); clear HO_5; clear ho hb hg hat)))
                (try simp only [← hl4_3, ← hl5_3])
                go_roundg k3
                case measure => have := HK1.out; have := HK2.out; have := HK3.out; omega
                case rel => exact ⟨(x4_3), (y178), (wrap64 (x28_2 + 1)), zq3, H', ⟨by have := HK1.out; have := HK2.out; have := HK3.out; omega⟩, ⟨by (try simp only [hl4_3]); (try simp only [hl5_3]); (with_reducible repeat (first | apply Kd.R_alloc | apply Kd.R_drewN | apply Kd.R_drew)); exact Kd.R_mono HO_4.out (fun _ hk => hk.2)⟩, ⟨by (try simp only [hl4_3]); (try simp only [hl5_3]); (with_reducible repeat (first | apply Kd.R_alloc | apply Kd.R_drewN | apply Kd.R_drew)); exact Kd.R_mono HO180.out (fun _ hk => hk.1)⟩, ⟨zq1⟩⟩
               ·rw [if_neg c62] at H
                exact absurd H zq24
          ·rw [if_neg c14] at H
           exact absurd H zq24
         ·rw [if_neg c13] at H
          exact absurd H zq24
        ·rw [if_neg c12] at H
         have c12b0 : decide (x28_2 < (l0.length : Int)) = false := decide_eq_false c12
         clear c12
         simp only [Option.some.injEq, Prod.mk.injEq] at H
         obtain ⟨rfl, rfl⟩ := H
         go_wp2
         repeat (go_quiet (fail); try go_wp2)
         go_ret2
         exact ⟨_, _, zq6, zq45, by (with_reducible repeat (first | apply Kd.R_alloc | apply Kd.R_drewN | apply Kd.R_drew)); exact HO_5.out, zq1⟩
  ·rw [if_neg c3] at H
   exact absurd H zq24
 ·rw [if_neg c2] at H
  exact absurd H zq24
/-! ### spec_SizesOfClasses: function 13 -/
def spec_SizesOfClasses.l0 : Nat → List Int → List Int → Int → Int → Option (List Int × Bool)
 | 0, _, _, _, _ => none
 | k + 1, x8, x26, x27, x28 => if x28 < x27 then (if 0 ≤ x28 then (if x28 < (x26.length : Int) then (if 0 ≤ (rd x26 x28) then (if (rd x26 x28) < (x8.length : Int) then (spec_SizesOfClasses.l0 k (x8.set ((rd x26 x28) : Int).toNat (wrap64 ((rd x8 (rd x26 x28)) + 1))) x26 x27 (wrap64 (x28 + 1))) else (none)) else (none)) else (none)) else (none)) else (some (x8, true))
def spec_SizesOfClasses.f (k : Nat) (l0 : List Int) : Option (List Int × Bool) := (spec_alAsked.f l0).bind fun bt200 => (if bt200.2 = true then ((spec_alClasses.f k bt200.1).bind fun bt204 => (if 0 ≤ (bt204.2.length : Int) then (if ((bt204.2.length : Int) : Int).toNat ≤ 35184372088832 then (spec_SizesOfClasses.l0 k (List.replicate ((bt204.2.length : Int) : Int).toNat 0) bt204.1 (bt204.1.length : Int) 0) else (none)) else (none))) else (some (([] : List Int), false)))
theorem spec_SizesOfClasses.mono_l : ∀ k, (∀ y0 y1 y2 y3, LeO (spec_SizesOfClasses.l0 k y0 y1 y2 y3) (spec_SizesOfClasses.l0 (k + 1) y0 y1 y2 y3))
 | 0 => fun _ _ _ _ r h => by simp [spec_SizesOfClasses.l0] at h
 | k + 1 => by
  have ih0 := spec_SizesOfClasses.mono_l k
  ·intro y0 y1 y2 y3
   unfold spec_SizesOfClasses.l0
   repeat' first | (with_reducible first | exact ih0 _ _ _ _ | exact spec_alClasses.mono _ _ | exact LeO.refl _ | exact LeO.none _ | refine LeO.ite ?_ ?_ | refine LeO.bind ?_ (fun _ => ?_))
theorem spec_SizesOfClasses.mono : ∀ a0 k, LeO (spec_SizesOfClasses.f k a0) (spec_SizesOfClasses.f (k + 1) a0) := by
 intro a0 k
 have ih0 := spec_SizesOfClasses.mono_l k
 unfold spec_SizesOfClasses.f
 repeat' first | (with_reducible first | exact ih0 _ _ _ _ | exact spec_alClasses.mono _ _ | exact LeO.refl _ | exact LeO.none _ | refine LeO.ite ?_ ?_ | refine LeO.bind ?_ (fun _ => ?_))
theorem spec_SizesOfClasses.calls (k : Nat) (A0 : Option Addr) (c0 : Nat) (l0 : List Int) (r1 : List Int) (r2 : Bool) (w : World) (hr0 : Kd.C (Kd.int .i64) w A0 l0.length l0) (hc0 : l0.length ≤ c0) (h : spec_SizesOfClasses.f k l0 = some (r1, r2)) :
  Calls Try.prog 13 #[.slice A0 l0.length c0] w fun e w' => ∃ v0_ : Value, e = .returned (.tuple #[v0_, .bool r2]) ∧ Kd.R (Kd.int .i64) 3 w' w.heap.size (fun _ => True) v0_ r1 ∧ Below w.heap.size w w' := by
 have HR0 := am hr0
 have HC0 := am hc0
 clear hr0 hc0
 have HB := am (Below.refl w.heap.size w)
 have H : ((spec_alAsked.f l0).bind fun bt200 => (if bt200.2 = true then ((spec_alClasses.f k bt200.1).bind fun bt204 => (if 0 ≤ (bt204.2.length : Int) then (if ((bt204.2.length : Int) : Int).toNat ≤ 35184372088832 then (spec_SizesOfClasses.l0 k (List.replicate ((bt204.2.length : Int) : Int).toNat 0) bt204.1 (bt204.1.length : Int) 0) else (none)) else (none))) else (some (([] : List Int), false)))) = some (r1, r2) := h
 clear h
 replace H := Option.bind_eq_some_iff.mp H
 obtain ⟨⟨t200, t201⟩, A20, H⟩ := H
 (try dsimp only at H)
 have A2 := am A20
 clear A20
 by_cases c3 : t201 = true
 ·subst c3
  rw [if_pos rfl] at H
  replace H := Option.bind_eq_some_iff.mp H
  obtain ⟨⟨t204, t205⟩, A40, H⟩ := H
  (try dsimp only at H)
  have A4 := am A40
  clear A40
  by_cases c5 : 0 ≤ (t205.length : Int)
  ·rw [if_pos c5] at H
   have c5b0 := eq_true c5
   have c5b1 : decide (0 ≤ (t205.length : Int)) = true := decide_eq_true c5
   clear c5
   by_cases c6 : ((t205.length : Int) : Int).toNat ≤ 35184372088832
   ·rw [if_pos c6] at H
    have c6b0 := eq_true c6
    have c6b1 : decide (((t205.length : Int) : Int).toNat ≤ 35184372088832) = true := decide_eq_true c6
    clear c6
    obtain ⟨y210, hy210⟩ : ∃ y_ : List Int, y_ = (List.replicate ((t205.length : Int) : Int).toNat 0) := ⟨_, rfl⟩
    replace H : (spec_SizesOfClasses.l0 k y210 t204 (t204.length : Int) 0) = some (r1, r2) := by first | (rw [hy210]; exact zH) | exact zH
    have Ny210 := am hy210
    clear hy210
    have H' := am H
    clear H
    go_enter Try.func13, Try.ntmps13
    go_wp2_with (first | ((with_reducible refine gate_callee (f := 16) rfl ?_); refine goesL_ (some 13) rfl rfl Try.func16 zq20 rfl #[.slice A0 l0.length c0] rfl zq2 ?_; (with_reducible refine (spec_alAsked.calls _ _ l0 t200 true _ ?side1 ?side2 A2.out).mono ?_); (case side1 => exact zq9); (case side2 => exact HC0.out); rintro e w7 ⟨v202, rfl, ho0, hb⟩; refine ⟨_, rfl, ?_⟩; have HO203 := am (Kd.S_lower ho0 (below_size (pBq3 HB))); replace HB := am (below_step (pBq3 HB) hb); (try clear hb ho0); obtain ⟨Ao8, co8, eo8⟩ := Kd.S_slice HO203.out; subst eo8) | ((with_reducible refine gate_callee (f := 17) rfl ?_); refine goesL_ (some 20) rfl rfl Try.func17 zq20 rfl #[.slice Ao8 t200.length co8] rfl zq2 ?_; (with_reducible refine (spec_alClasses.calls k _ _ t200 t204 t205 _ ?side1 ?side2 A4.out).mono ?_); (case side1 => repeat (first | exact (Kd.S_reads' HO203.out).2.2 | (with_reducible refine Kd.C_alloc ?_ _) | (with_reducible refine Kd.C_drewN ?_ _) | (with_reducible refine Kd.C_drew ?_))); (case side2 => exact (Kd.S_reads' HO203.out).2.1); rintro e w9 ⟨v206, v208, rfl, ho0, ho1, hb⟩; refine ⟨_, rfl, ?_⟩; have HO207 := am (Kd.R_lower ho0 (below_size (pBq3 HB))); have HO209 := am (Kd.R_lower ho1 (below_size (pBq3 HB))); replace HO203 := am (Kd.S_mono (Kd.S_told (Kd.S_told (Kd.S_old (by (with_reducible repeat (first | apply Kd.S_alloc | apply Kd.S_drewN | apply Kd.S_drew)); exact HO203.out) hb) (Kd.R_base ho0)) (Kd.R_base ho1)) (fun _ h_ => h_.1)); replace HB := am (below_step (pBq3 HB) hb); (try clear hb ho0 ho1); obtain ⟨Ao10, co10, eo10⟩ := Kd.R_slice HO209.out; subst eo10) | ((with_reducible refine gate_dst (N := 25) rfl ?_); refine Kd.R_make (Kd.int .i64) _ 3 rfl (N := 25) rfl 22 _ _ rfl (t205.length : Int) rfl rfl Try.underlying22 (.int .i64 0) 8 info3 rfl zq33 zq10 0 (ok := fun _ => True) (okp := fun _ => True) rfl (fun _ hk => hk) trivial (of_decide_eq_true zq0) (Nat.le_trans (Nat.mul_le_mul_right _ (of_decide_eq_true zq0 : (t205.length : Int).toNat ≤ 35184372088832)) zq10) (Below.refl _ _) (Nat.le_refl _) ?_; intro v211 w11 ho12 hb hg_ hnew_; clear hg_ hnew_; (first | rw [← Ny210.out] at ho12 | (simp only [Int.reduceToNat] at ho12; rw [← Ny210.out] at ho12)); have HO212 := am (Kd.R_lower (Kd.R_new' (Kd.R_new' ho12 (Kd.R_lt (pRq3 HO207))) (Kd.R_lt (pRq3 HO209))) (below_size (pBq3 HB))); replace HO203 := am (Kd.S_elder' (by (with_reducible repeat (first | apply Kd.S_alloc | apply Kd.S_drewN | apply Kd.S_drew)); exact HO203.out) (Kd.R_base ho12) hb); replace HO207 := am (Kd.R_elder' (pRq3 HO207) (Kd.R_base ho12) hb); replace HO209 := am (Kd.R_elder' (pRq3 HO209) (Kd.R_base ho12) hb); replace HB := am (below_step (pBq3 HB) hb); clear hb ho12; obtain ⟨Ao13, co13, eo13⟩ := Kd.R_slice HO207.out; subst eo13))
    go_loopg [28] k (fun kq v28 w' => ∃ (x8_1 : List Int) (x28_1 : Int), v28 = .int .i64 x28_1 ∧ Aside0 (spec_SizesOfClasses.l0 kq x8_1 t204 (t204.length : Int) x28_1 = some (r1, r2)) ∧ Aside0 (kq ≤ k) ∧ Aside0 (Kd.R (Kd.int .i64) 3 w' w.heap.size (fun k_ => some k_ ≠ ((.slice Ao13 t204.length co13) : Value).ownBlock) v211 x8_1) ∧ Aside0 (Kd.R (Kd.int .i64) 3 w' w.heap.size (fun k_ => some k_ ≠ (v211 : Value).ownBlock) (.slice Ao13 t204.length co13) t204) ∧ Aside0 (Below w.heap.size w w'))
    case atStart => exact ⟨(y210), (0), zq3, H', ⟨Nat.le_refl _⟩, ⟨by (with_reducible repeat (first | apply Kd.R_alloc | apply Kd.R_drewN | apply Kd.R_drew)); exact Kd.R_mono HO212.out (fun _ hk => hk.1.2)⟩, ⟨by (with_reducible repeat (first | apply Kd.R_alloc | apply Kd.R_drewN | apply Kd.R_drew)); exact Kd.R_mono HO207.out (fun _ hk => hk.2)⟩, ⟨zq1⟩⟩
    case round =>
     clear H'
     try clear c1
     try clear p2
     try clear c3
     try clear c5
     try clear c5b0
     try clear c5b1
     try clear c6
     try clear c6b0
     try clear c6b1
     try clear c13
     obtain ⟨x8_1, x28_1, rfl, HA, HK1, HO_8, HO_26, HB⟩ := hrel
     cases gk with
     | zero => exact absurd HA.out (by simp [spec_SizesOfClasses.l0])
     | succ k1 =>
      have H := HA.out
      clear HA
      simp only [spec_SizesOfClasses.l0] at H
      by_cases c14 : x28_1 < (t204.length : Int)
      ·rw [if_pos c14] at H
       have c14b0 : decide (x28_1 < (t204.length : Int)) = true := decide_eq_true c14
       clear c14
       by_cases c15 : 0 ≤ x28_1
       ·rw [if_pos c15] at H
        have c15b0 : decide (0 ≤ x28_1) = true := decide_eq_true c15
        clear c15
        by_cases c16 : x28_1 < (t204.length : Int)
        ·rw [if_pos c16] at H
         have c16b0 : decide (x28_1 < (t204.length : Int)) = true := decide_eq_true c16
         clear c16
         by_cases c17 : 0 ≤ (rd t204 x28_1)
         ·rw [if_pos c17] at H
          have c17b0 : decide (0 ≤ (rd t204 x28_1)) = true := decide_eq_true c17
          clear c17
          by_cases c18 : (rd t204 x28_1) < (x8_1.length : Int)
          ·rw [if_pos c18] at H
           have c18b0 : decide ((rd t204 x28_1) < (x8_1.length : Int)) = true := decide_eq_true c18
           clear c18
           obtain ⟨y215, hy215⟩ : ∃ y_ : List Int, y_ = (x8_1.set ((rd t204 x28_1) : Int).toNat (wrap64 ((rd x8_1 (rd t204 x28_1)) + 1))) := ⟨_, rfl⟩
           replace H : (spec_SizesOfClasses.l0 k1 y215 t204 (t204.length : Int) (wrap64 (x28_1 + 1))) = some (r1, r2) := by first | (rw [hy215]; exact zH) | exact zH
           have Ny215 := am hy215
           clear hy215
           have H' := am H
           clear H
           have p213 : 0 ≤ (x28_1 : Int) := of_decide_eq_true zq0
           have q213 : x28_1 < (t204.length : Int) := of_decide_eq_true zq0
           obtain ⟨ad213, e213, hx213_0⟩ := Kd.at_int (Kd.R_reads' HO_26.out).2.2 x28_1 p213 q213
           cases e213
           replace p213 := eq_true p213
           replace q213 := eq_true q213
           obtain ⟨Ao20, co20, eo20⟩ := Kd.R_slice HO_8.out
           subst eo20
           have p214 : 0 ≤ ((rd t204 x28_1) : Int) := of_decide_eq_true zq0
           have q214 : (rd t204 x28_1) < (x8_1.length : Int) := of_decide_eq_true zq0
           obtain ⟨ad214, e214, hx214_0⟩ := Kd.at_int (Kd.R_reads' HO_8.out).2.2 (rd t204 x28_1) p214 q214
           cases e214
           replace p214 := eq_true p214
           replace q214 := eq_true q214
           have p19 : 0 ≤ ((rd t204 x28_1) : Int) := of_decide_eq_true zq0
           have q19 : ((rd t204 x28_1) : Int) < ((x8_1.length : Int) : Int) := of_decide_eq_true zq0
           obtain ⟨go19, co19, eo19, gb19, gl19, cl19, HG19⟩ := Kd.R_form HO_8.out zq10
           (first | cases eo19 | (injection eo19 with ea_ en_ ec_; (first | subst ea_ | (injection ea_ with ea_; subst ea_)); subst ec_; clear en_))
           have GB19 := am gb19
           have GG19 := am HG19
           clear gb19 gl19 HG19
           (first | simp only [add_plain] at hx214_0 | skip)
           obtain ⟨hx19_0, hf19_0⟩ := Kd.R_celln 0 HO_8.out ((rd t204 x28_1) : Int) p19 q19
           replace p19 := eq_true p19
           replace q19 := eq_true q19
           have HP21 := Kd.R_putg HO_8.out ((rd t204 x28_1) : Int) (wrap64 ((rd x8_1 (rd t204 x28_1)) + 1))
           go_wp2_with (first | ((with_reducible refine gate_store (t := 3) (p := 37) rfl ?_); refine store_event (t := 3) (p := 37) (v := ?vo_w22) (w1 := (wr.setCell ⟨go19, ((rd t204 x28_1) : Int).toNat, none⟩ (.int .i64 (wrap64 ((rd x8_1 (rd t204 x28_1)) + 1))))) ?hg ?ho ?hn ?hr ?_; (case ho => rfl); (case hg => rfl); (case hn => rfl); (case hr => exact zq8); intro w22 hw; have hg : wr.grownBy w22 (some go19) := (by rw [hw]; exact HP21.2); have hp_ : Kd.R (Kd.int .i64) 3 w22 w.heap.size (fun k_ => some k_ ≠ (.slice (some ad213) t204.length co13 : Value).ownBlock) (.slice (some ⟨go19, 0, none⟩) x8_1.length co20) y215 := (by rw [hw, Ny215.out]; exact HP21.1); clear HP21; replace HO_8 := am (hp_); replace HO_26 := am (Kd.R_after (v := (.slice (some ⟨go19, 0, none⟩) x8_1.length co20)) (v1 := (.slice (some ⟨go19, 0, none⟩) x8_1.length co20)) (ok := (fun _ => True)) (by (with_reducible repeat (first | apply Kd.R_alloc | apply Kd.R_drewN | apply Kd.R_drew)); exact Kd.R_mono HO_26.out (fun _ hk => ⟨trivial, hk⟩)) hg (.inl rfl)); replace HB := am ((by rw [hw]; exact below_set (HB.out) GB19.out : Below w.heap.size w w22)); clear hg hw hp_))
           go_roundg k1
           case measure => have := HK1.out; omega
           case rel => exact ⟨(y215), (wrap64 (x28_1 + 1)), zq3, H', ⟨zq32⟩, ⟨by (with_reducible repeat (first | apply Kd.R_alloc | apply Kd.R_drewN | apply Kd.R_drew)); exact HO_8.out⟩, ⟨by (with_reducible repeat (first | apply Kd.R_alloc | apply Kd.R_drewN | apply Kd.R_drew)); exact Kd.R_mono HO_26.out (fun _ hk => hk.2)⟩, ⟨zq1⟩⟩
          ·rw [if_neg c18] at H
           exact absurd H zq24
         ·rw [if_neg c17] at H
          exact absurd H zq24
        ·rw [if_neg c16] at H
         exact absurd H zq24
       ·rw [if_neg c15] at H
        exact absurd H zq24
      ·rw [if_neg c14] at H
       have c14b0 : decide (x28_1 < (t204.length : Int)) = false := decide_eq_false c14
       clear c14
       simp only [Option.some.injEq, Prod.mk.injEq] at H
       obtain ⟨rfl, rfl⟩ := H
       go_wp2
       go_ret2
       exact ⟨_, zq6, by (with_reducible repeat (first | apply Kd.R_alloc | apply Kd.R_drewN | apply Kd.R_drew)); exact Kd.R_mono HO_8.out (fun _ hk => trivial), zq1⟩
   ·rw [if_neg c6] at H
    exact absurd H zq24
  ·rw [if_neg c5] at H
   exact absurd H zq24
 ·replace c3 := Bool.eq_false_iff.mpr c3
  subst c3
  rw [if_neg (show ¬ (false = true) by decide)] at H
  simp only [Option.some.injEq, Prod.mk.injEq] at H
  obtain ⟨rfl, rfl⟩ := H
  go_enter Try.func13, Try.ntmps13
  go_wp2_with (first | ((with_reducible refine gate_callee (f := 16) rfl ?_); refine goesL_ (some 13) rfl rfl Try.func16 zq20 rfl #[.slice A0 l0.length c0] rfl zq2 ?_; (with_reducible refine (spec_alAsked.calls _ _ l0 t200 false _ ?side1 ?side2 A2.out).mono ?_); (case side1 => exact zq9); (case side2 => exact HC0.out); rintro e w23 ⟨v202, rfl, ho0, hb⟩; refine ⟨_, rfl, ?_⟩; have HO203 := am (Kd.S_lower ho0 (below_size (pBq3 HB))); replace HB := am (below_step (pBq3 HB) hb); (try clear hb ho0)))
  go_ret2
  exact ⟨_, zq6, zq82, zq1⟩
/-! ### impl_between: function 46 -/
def impl_between.f (a0 : Int) (a1 : Int) (a2 : Int) : Option (Bool) := if a0 ≥ a1 then (some (decide (a0 ≤ a2))) else (some false)
theorem impl_between.calls (a0 : Int) (a1 : Int) (a2 : Int) (r : Bool) (w : World) (h : impl_between.f a0 a1 a2 = some r) :
  Calls Try.prog 46 #[.int .i64 a0, .int .i64 a1, .int .i64 a2] w fun e w' => e = .returned (.bool r) ∧ Drawn0 w w' := by
 have H : (if a0 ≥ a1 then (some (decide (a0 ≤ a2))) else (some false)) = some r := h
 clear h
 by_cases c4 : a0 ≥ a1
 ·rw [if_pos c4] at H
  have c4b0 : decide (a1 ≤ a0) = true := decide_eq_true c4
  clear c4
  obtain rfl := Option.some.inj H
  go_enter Try.func46, Try.ntmps46
  go_wp2
  go_ret
  exact ⟨zq3, zq4⟩
 ·rw [if_neg c4] at H
  have c4b0 : decide (a1 ≤ a0) = false := decide_eq_false c4
  clear c4
  obtain rfl := Option.some.inj H
  go_enter Try.func46, Try.ntmps46
  go_wp2
  go_ret
  exact ⟨zq3, zq4⟩
/-! ### slices_Index_int_int: function 69 -/
def slices_Index_int_int.l0 : Nat → List Int → Int → Int → Int → Option (Int)
 | 0, _, _, _, _ => none
 | k + 1, x0, x1, x7, x8 => if x8 < x7 then (if 0 ≤ x8 then (if x8 < (x0.length : Int) then (if x1 = (rd x0 x8) then (some x8) else (slices_Index_int_int.l0 k x0 x1 x7 (wrap64 (x8 + 1)))) else (none)) else (none)) else (some (-1))
def slices_Index_int_int.f (k : Nat) (l0 : List Int) (a1 : Int) : Option (Int) := slices_Index_int_int.l0 k l0 a1 (l0.length : Int) 0
theorem slices_Index_int_int.mono_l : ∀ k, (∀ y0 y1 y2 y3, LeO (slices_Index_int_int.l0 k y0 y1 y2 y3) (slices_Index_int_int.l0 (k + 1) y0 y1 y2 y3))
 | 0 => fun _ _ _ _ r h => by simp [slices_Index_int_int.l0] at h
 | k + 1 => by
  have ih0 := slices_Index_int_int.mono_l k
  ·intro y0 y1 y2 y3
   unfold slices_Index_int_int.l0
   repeat' first | (with_reducible first | exact ih0 _ _ _ _ | exact LeO.refl _ | exact LeO.none _ | refine LeO.ite ?_ ?_ | refine LeO.bind ?_ (fun _ => ?_))
theorem slices_Index_int_int.mono : ∀ a0 a1 k, LeO (slices_Index_int_int.f k a0 a1) (slices_Index_int_int.f (k + 1) a0 a1) := by
 intro a0 a1 k
 have ih0 := slices_Index_int_int.mono_l k
 unfold slices_Index_int_int.f
 repeat' first | (with_reducible first | exact ih0 _ _ _ _ | exact LeO.refl _ | exact LeO.none _ | refine LeO.ite ?_ ?_ | refine LeO.bind ?_ (fun _ => ?_))
theorem slices_Index_int_int.calls (k : Nat) (A0 : Option Addr) (c0 : Nat) (l0 : List Int) (a1 : Int) (r : Int) (w : World) (hr0 : Kd.C (Kd.int .i64) w A0 l0.length l0) (hc0 : l0.length ≤ c0) (h : slices_Index_int_int.f k l0 a1 = some r) :
  Calls Try.prog 69 #[.slice A0 l0.length c0, .int .i64 a1] w fun e w' => e = .returned (.int .i64 r) ∧ Drawn0 w w' := by
 have HR0 := am hr0
 have HC0 := am hc0
 clear hr0 hc0
 have H : (slices_Index_int_int.l0 k l0 a1 (l0.length : Int) 0) = some r := h
 clear h
 have H' := am H
 clear H
 go_enter Try.func69, Try.ntmps69
 go_wp2
 go_loopg [8] k (fun kq v8 w' => ∃ (x8_1 : Int), v8 = .int .i64 x8_1 ∧ Aside0 (slices_Index_int_int.l0 kq l0 a1 (l0.length : Int) x8_1 = some r) ∧ Aside0 (kq ≤ k) ∧ Drawn0 w w')
 case atStart => exact ⟨(0), zq3, H', ⟨Nat.le_refl _⟩, zq4⟩
 case round =>
  clear H'
  try clear p2
  obtain ⟨x8_1, rfl, HA, HK1, ⟨m1, rfl⟩⟩ := hrel
  cases gk with
  | zero => exact absurd HA.out (by simp [slices_Index_int_int.l0])
  | succ k1 =>
   have H := HA.out
   clear HA
   simp only [slices_Index_int_int.l0] at H
   by_cases c3 : x8_1 < (l0.length : Int)
   ·rw [if_pos c3] at H
    have c3b0 : decide (x8_1 < (l0.length : Int)) = true := decide_eq_true c3
    clear c3
    by_cases c4 : 0 ≤ x8_1
    ·rw [if_pos c4] at H
     have c4b0 : decide (0 ≤ x8_1) = true := decide_eq_true c4
     clear c4
     by_cases c5 : x8_1 < (l0.length : Int)
     ·rw [if_pos c5] at H
      have c5b0 : decide (x8_1 < (l0.length : Int)) = true := decide_eq_true c5
      clear c5
      by_cases c6 : a1 = (rd l0 x8_1)
      ·rw [if_pos c6] at H
       have c6b0 : (a1 == (rd l0 x8_1)) = true := beq_iff_eq.mpr c6
       have c6b1 : (a1 != (rd l0 x8_1)) = false := bne_eq_false_iff_eq.mpr c6
       clear c6
       obtain rfl := Option.some.inj H
       have p216 : 0 ≤ (x8_1 : Int) := of_decide_eq_true zq0
       have q216 : x8_1 < (l0.length : Int) := of_decide_eq_true zq0
       obtain ⟨ad216, e216, hx216_0⟩ := Kd.at_int HR0.out x8_1 p216 q216
       cases e216
       replace p216 := eq_true p216
       replace q216 := eq_true q216
       go_wp2
       go_ret
       exact ⟨zq3, zq4⟩
      ·rw [if_neg c6] at H
       have c6b0 : (a1 == (rd l0 x8_1)) = false := beq_eq_false_iff_ne.mpr c6
       have c6b1 : (a1 != (rd l0 x8_1)) = true := bne_iff_ne.mpr c6
       have H' := am H
       clear H
       have p216 : 0 ≤ (x8_1 : Int) := of_decide_eq_true zq0
       have q216 : x8_1 < (l0.length : Int) := of_decide_eq_true zq0
       obtain ⟨ad216, e216, hx216_0⟩ := Kd.at_int HR0.out x8_1 p216 q216
       cases e216
       replace p216 := eq_true p216
       replace q216 := eq_true q216
       go_wp2
       go_roundg k1
       case measure => have := HK1.out; omega
       case rel => exact ⟨(wrap64 (x8_1 + 1)), zq3, H', ⟨zq32⟩, zq4⟩
     ·rw [if_neg c5] at H
      exact absurd H zq24
    ·rw [if_neg c4] at H
     exact absurd H zq24
   ·rw [if_neg c3] at H
    have c3b0 : decide (x8_1 < (l0.length : Int)) = false := decide_eq_false c3
    clear c3
    obtain rfl := Option.some.inj H
    go_wp2
    go_ret
    exact ⟨zq3, zq4⟩
/-! ### slices_Contains_int_int: function 64 -/
def slices_Contains_int_int.f (k : Nat) (l0 : List Int) (a1 : Int) : Option (Bool) := (slices_Index_int_int.f k l0 a1).bind fun t217 => (some (decide (t217 ≥ 0)))
theorem slices_Contains_int_int.mono : ∀ a0 a1 k, LeO (slices_Contains_int_int.f k a0 a1) (slices_Contains_int_int.f (k + 1) a0 a1) := by
 intro a0 a1 k
 unfold slices_Contains_int_int.f
 repeat' first | (with_reducible first | exact slices_Index_int_int.mono _ _ _ | exact LeO.refl _ | exact LeO.none _ | refine LeO.ite ?_ ?_ | refine LeO.bind ?_ (fun _ => ?_))
theorem slices_Contains_int_int.calls (k : Nat) (A0 : Option Addr) (c0 : Nat) (l0 : List Int) (a1 : Int) (r : Bool) (w : World) (hr0 : Kd.C (Kd.int .i64) w A0 l0.length l0) (hc0 : l0.length ≤ c0) (h : slices_Contains_int_int.f k l0 a1 = some r) :
  Calls Try.prog 64 #[.slice A0 l0.length c0, .int .i64 a1] w fun e w' => e = .returned (.bool r) ∧ Drawn0 w w' := by
 have HR0 := am hr0
 have HC0 := am hc0
 clear hr0 hc0
 have H : ((slices_Index_int_int.f k l0 a1).bind fun t217 => (some (decide (t217 ≥ 0)))) = some r := h
 clear h
 obtain ⟨t217, A3, H⟩ := zS H
 (try dsimp only at H)
 obtain rfl := Option.some.inj H
 go_enter Try.func64, Try.ntmps64
 go_wp2_with (first | ((with_reducible refine gate_callee (f := 69) rfl ?_); refine goesL_ (some 7) rfl rfl Try.func69 zq20 rfl #[.slice A0 l0.length c0, .int .i64 a1] rfl zq2 ?_; (with_reducible refine (slices_Index_int_int.calls k _ _ l0 a1 t217 _ ?side1 ?side2 A3.out).mono ?_); (case side1 => exact zq9); (case side2 => exact HC0.out); rintro e w' ⟨rfl, ⟨nd, rfl⟩⟩; refine ⟨_, rfl, ?_⟩))
 go_ret
 exact ⟨zq3, zq4⟩
/-! ### impl_isOrder: function 50 -/
def impl_isOrder.l0 : Nat → List Int → List Int → Int → Int → Option (Bool)
 | 0, _, _, _, _ => none
 | k + 1, x0, x9, x10, x11 => if x11 < x10 then (if 0 ≤ x11 then (if x11 < (x9.length : Int) then ((impl_between.f (rd x9 x11) 0 (wrap64 ((x0.length : Int) - 1))).bind fun t220 => (if t220 = true then (if x11 ≤ (x0.length : Int) then ((slices_Contains_int_int.f k (x0.take (x11 : Int).toNat) (rd x9 x11)).bind fun t225 => (if t225 = true then (some false) else (impl_isOrder.l0 k x0 x9 x10 (wrap64 (x11 + 1))))) else (none)) else (some false))) else (none)) else (none)) else (some true)
def impl_isOrder.f (k : Nat) (l0 : List Int) : Option (Bool) := (impl_between.f (l0.length : Int) 1 8).bind fun t218 => (if t218 = true then (impl_isOrder.l0 k l0 l0 (l0.length : Int) 0) else (some false))
theorem impl_isOrder.mono_l : ∀ k, (∀ y0 y1 y2 y3, LeO (impl_isOrder.l0 k y0 y1 y2 y3) (impl_isOrder.l0 (k + 1) y0 y1 y2 y3))
 | 0 => fun _ _ _ _ r h => by simp [impl_isOrder.l0] at h
 | k + 1 => by
  have ih0 := impl_isOrder.mono_l k
  ·intro y0 y1 y2 y3
   unfold impl_isOrder.l0
   repeat' first | (with_reducible first | exact ih0 _ _ _ _ | exact slices_Contains_int_int.mono _ _ _ | exact LeO.refl _ | exact LeO.none _ | refine LeO.ite ?_ ?_ | refine LeO.bind ?_ (fun _ => ?_))
theorem impl_isOrder.mono : ∀ a0 k, LeO (impl_isOrder.f k a0) (impl_isOrder.f (k + 1) a0) := by
 intro a0 k
 have ih0 := impl_isOrder.mono_l k
 unfold impl_isOrder.f
 repeat' first | (with_reducible first | exact ih0 _ _ _ _ | exact slices_Contains_int_int.mono _ _ _ | exact LeO.refl _ | exact LeO.none _ | refine LeO.ite ?_ ?_ | refine LeO.bind ?_ (fun _ => ?_))
theorem impl_isOrder.calls (k : Nat) (A0 : Option Addr) (c0 : Nat) (l0 : List Int) (r : Bool) (w : World) (hr0 : Kd.C (Kd.int .i64) w A0 l0.length l0) (hc0 : l0.length ≤ c0) (h : impl_isOrder.f k l0 = some r) :
  Calls Try.prog 50 #[.slice A0 l0.length c0] w fun e w' => e = .returned (.bool r) ∧ Drawn0 w w' := by
 have HR0 := am hr0
 have HC0 := am hc0
 clear hr0 hc0
 have H : ((impl_between.f (l0.length : Int) 1 8).bind fun t218 => (if t218 = true then (impl_isOrder.l0 k l0 l0 (l0.length : Int) 0) else (some false))) = some r := h
 clear h
 obtain ⟨t218, A2, H⟩ := zS H
 (try dsimp only at H)
 by_cases c3 : t218 = true
 ·subst c3
  rw [if_pos rfl] at H
  have H' := am H
  clear H
  go_enter Try.func50, Try.ntmps50
  go_wp2_with (first | ((with_reducible refine gate_callee (f := 46) rfl ?_); refine goesL_ (some 7) rfl rfl Try.func46 zq20 rfl #[.int .i64 (l0.length : Int), .int .i64 1, .int .i64 8] rfl zq2 ?_; (with_reducible refine (impl_between.calls (l0.length : Int) 1 8 true _ A2.out).mono ?_); rintro e w' ⟨rfl, ⟨nd, rfl⟩⟩; refine ⟨_, rfl, ?_⟩))
  go_loopg [11] k (fun kq v11 w' => ∃ (x11_1 : Int), v11 = .int .i64 x11_1 ∧ Aside0 (impl_isOrder.l0 kq l0 l0 (l0.length : Int) x11_1 = some r) ∧ Aside0 (kq ≤ k) ∧ Drawn0 w w')
  case atStart => exact ⟨(0), zq3, H', ⟨Nat.le_refl _⟩, zq4⟩
  case round =>
   clear H'
   try clear p2
   try clear c3
   obtain ⟨x11_1, rfl, HA, HK1, ⟨m1, rfl⟩⟩ := hrel
   cases gk with
   | zero => exact absurd HA.out (by simp [impl_isOrder.l0])
   | succ k1 =>
    have H := HA.out
    clear HA
    simp only [impl_isOrder.l0] at H
    by_cases c4 : x11_1 < (l0.length : Int)
    ·rw [if_pos c4] at H
     have c4b0 : decide (x11_1 < (l0.length : Int)) = true := decide_eq_true c4
     clear c4
     by_cases c5 : 0 ≤ x11_1
     ·rw [if_pos c5] at H
      have c5b0 : decide (0 ≤ x11_1) = true := decide_eq_true c5
      clear c5
      by_cases c6 : x11_1 < (l0.length : Int)
      ·rw [if_pos c6] at H
       have c6b0 : decide (x11_1 < (l0.length : Int)) = true := decide_eq_true c6
       clear c6
       obtain ⟨t220, A7, H⟩ := zS H
       (try dsimp only at H)
       by_cases c8 : t220 = true
       ·subst c8
        rw [if_pos rfl] at H
        have c9b0 := eq_true (of_decide_eq_true zq0 : 0 ≤ x11_1)
        by_cases c10 : x11_1 ≤ (l0.length : Int)
        ·rw [if_pos c10] at H
         have c10b0 := eq_true c10
         have c10b1 : decide (x11_1 ≤ (l0.length : Int)) = true := decide_eq_true c10
         clear c10
         obtain ⟨y221, hy221⟩ : ∃ y_ : List Int, y_ = (l0.take (x11_1 : Int).toNat) := ⟨_, rfl⟩
         replace H : ((slices_Contains_int_int.f k1 y221 (rd l0 x11_1)).bind fun t225 => (if t225 = true then (some false) else (impl_isOrder.l0 k1 l0 l0 (l0.length : Int) (wrap64 (x11_1 + 1))))) = some r := by first | (rw [hy221]; exact zH) | exact zH
         have Ny221 := am hy221
         clear hy221
         obtain ⟨t225, A11, H⟩ := zS H
         (try dsimp only at H)
         by_cases c12 : t225 = true
         ·subst c12
          rw [if_pos rfl] at H
          obtain rfl := Option.some.inj H
          have p219 : 0 ≤ (x11_1 : Int) := of_decide_eq_true zq0
          have q219 : x11_1 < (l0.length : Int) := of_decide_eq_true zq0
          obtain ⟨ad219, e219, hx219_0⟩ := Kd.at_int HR0.out x11_1 p219 q219
          cases e219
          replace p219 := eq_true p219
          replace q219 := eq_true q219
          go_wp2_with (first | ((with_reducible refine gate_callee (f := 46) rfl ?_); refine goesL_ (some 20) rfl rfl Try.func46 zq20 rfl #[.int .i64 (rd l0 x11_1), .int .i64 0, .int .i64 (wrap64 ((l0.length : Int) - 1))] rfl zq2 ?_; (with_reducible refine (impl_between.calls (rd l0 x11_1) 0 (wrap64 ((l0.length : Int) - 1)) true _ A7.out).mono ?_); rintro e w' ⟨rfl, ⟨nd, rfl⟩⟩; refine ⟨_, rfl, ?_⟩; have q13 : (x11_1 : Int) ≤ ((l0.length : Int) : Int) := of_decide_eq_true zq0; obtain ⟨i013, hi013, _, hsz13, _⟩ := info_parts info3; have hroom13 : l0.length ≤ c0 := HC0.out; have hC13 : Kd.C (Kd.int .i64) _ (some ad219) l0.length l0 := HR0.out; have hcut13 := cut_to (P := Try.prog) 22 3 .i64 Try.underlying22 hi013 (some ad219) l0.length c0 x11_1 (of_decide_eq_true zq0) q13 hroom13; have hr13 := Kd.C_take (m := (x11_1 : Int).toNat) hC13 zq10; have hy13 : y221.length = (x11_1 : Int).toNat := (by rw [Ny221.out, List.length_take]; omega); rw [← Ny221.out] at hr13; rw [← hy13] at hcut13; have HR224 := am hr13; have HC224 := am (show y221.length ≤ c0 from zq10); clear hr13 hC13 hroom13 hi013 hsz13; have KY13 := am hy13; clear hy13; replace q13 := eq_true q13) | (go_at_call 64; refine calls_of_args (args' := #[.slice (some ad219) y221.length c0, .int .i64 (rd l0 x11_1)]) ?cuta226 ?_; (case cuta226 => exact zq14); (with_reducible refine (slices_Contains_int_int.calls k1 _ _ y221 (rd l0 x11_1) true _ ?side1 ?side2 A11.out).mono ?_); (case side1 => exact zq86); (case side2 => exact HC224.out); rintro e w' ⟨rfl, ⟨nd, rfl⟩⟩))
          go_ret
          exact ⟨zq3, zq4⟩
         ·replace c12 := Bool.eq_false_iff.mpr c12
          subst c12
          rw [if_neg (show ¬ (false = true) by decide)] at H
          have H' := am H
          clear H
          have p219 : 0 ≤ (x11_1 : Int) := of_decide_eq_true zq0
          have q219 : x11_1 < (l0.length : Int) := of_decide_eq_true zq0
          obtain ⟨ad219, e219, hx219_0⟩ := Kd.at_int HR0.out x11_1 p219 q219
          cases e219
          replace p219 := eq_true p219
          replace q219 := eq_true q219
          go_wp2_with (first | ((with_reducible refine gate_callee (f := 46) rfl ?_); refine goesL_ (some 20) rfl rfl Try.func46 zq20 rfl #[.int .i64 (rd l0 x11_1), .int .i64 0, .int .i64 (wrap64 ((l0.length : Int) - 1))] rfl zq2 ?_; (with_reducible refine (impl_between.calls (rd l0 x11_1) 0 (wrap64 ((l0.length : Int) - 1)) true _ A7.out).mono ?_); rintro e w' ⟨rfl, ⟨nd, rfl⟩⟩; refine ⟨_, rfl, ?_⟩; have q14 : (x11_1 : Int) ≤ ((l0.length : Int) : Int) := of_decide_eq_true zq0; obtain ⟨i014, hi014, _, hsz14, _⟩ := info_parts info3; have hroom14 : l0.length ≤ c0 := HC0.out; have hC14 : Kd.C (Kd.int .i64) _ (some ad219) l0.length l0 := HR0.out; have hcut14 := cut_to (P := Try.prog) 22 3 .i64 Try.underlying22 hi014 (some ad219) l0.length c0 x11_1 (of_decide_eq_true zq0) q14 hroom14; have hr14 := Kd.C_take (m := (x11_1 : Int).toNat) hC14 zq10; have hy14 : y221.length = (x11_1 : Int).toNat := (by rw [Ny221.out, List.length_take]; omega); rw [← Ny221.out] at hr14; rw [← hy14] at hcut14; have HR224 := am hr14; have HC224 := am (show y221.length ≤ c0 from zq10); clear hr14 hC14 hroom14 hi014 hsz14; have KY14 := am hy14; clear hy14; replace q14 := eq_true q14) | (go_at_call 64; refine calls_of_args (args' := #[.slice (some ad219) y221.length c0, .int .i64 (rd l0 x11_1)]) ?cuta227 ?_; (case cuta227 => exact zq14); (with_reducible refine (slices_Contains_int_int.calls k1 _ _ y221 (rd l0 x11_1) false _ ?side1 ?side2 A11.out).mono ?_); (case side1 => exact zq86); (case side2 => exact HC224.out); rintro e w' ⟨rfl, ⟨nd, rfl⟩⟩))
          go_roundg k1
          case measure => have := HK1.out; omega
          case rel => exact ⟨(wrap64 (x11_1 + 1)), zq3, H', ⟨zq32⟩, zq4⟩
        ·rw [if_neg c10] at H
         exact absurd H zq24
       ·replace c8 := Bool.eq_false_iff.mpr c8
        subst c8
        rw [if_neg (show ¬ (false = true) by decide)] at H
        obtain rfl := Option.some.inj H
        have p219 : 0 ≤ (x11_1 : Int) := of_decide_eq_true zq0
        have q219 : x11_1 < (l0.length : Int) := of_decide_eq_true zq0
        obtain ⟨ad219, e219, hx219_0⟩ := Kd.at_int HR0.out x11_1 p219 q219
        cases e219
        replace p219 := eq_true p219
        replace q219 := eq_true q219
        go_wp2_with (first | ((with_reducible refine gate_callee (f := 46) rfl ?_); refine goesL_ (some 20) rfl rfl Try.func46 zq20 rfl #[.int .i64 (rd l0 x11_1), .int .i64 0, .int .i64 (wrap64 ((l0.length : Int) - 1))] rfl zq2 ?_; (with_reducible refine (impl_between.calls (rd l0 x11_1) 0 (wrap64 ((l0.length : Int) - 1)) false _ A7.out).mono ?_); rintro e w' ⟨rfl, ⟨nd, rfl⟩⟩; refine ⟨_, rfl, ?_⟩))
        go_ret
        exact ⟨zq3, zq4⟩
      ·rw [if_neg c6] at H
       exact absurd H zq24
     ·rw [if_neg c5] at H
      exact absurd H zq24
    ·rw [if_neg c4] at H
     have c4b0 : decide (x11_1 < (l0.length : Int)) = false := decide_eq_false c4
     clear c4
     obtain rfl := Option.some.inj H
     go_wp2
     go_ret
     exact ⟨zq3, zq4⟩
 ·replace c3 := Bool.eq_false_iff.mpr c3
  subst c3
  rw [if_neg (show ¬ (false = true) by decide)] at H
  obtain rfl := Option.some.inj H
  go_enter Try.func50, Try.ntmps50
  go_wp2_with (first | ((with_reducible refine gate_callee (f := 46) rfl ?_); refine goesL_ (some 7) rfl rfl Try.func46 zq20 rfl #[.int .i64 (l0.length : Int), .int .i64 1, .int .i64 8] rfl zq2 ?_; (with_reducible refine (impl_between.calls (l0.length : Int) 1 8 false _ A2.out).mono ?_); rintro e w' ⟨rfl, ⟨nd, rfl⟩⟩; refine ⟨_, rfl, ?_⟩))
  go_ret
  exact ⟨zq3, zq4⟩
/-! ### impl_isCounted: function 39 -/
def impl_isCounted.f (k : Nat) (l0 : List Int) : Option (Bool) := (impl_isOrder.f k l0).bind fun t228 => (if t228 = true then ((impl_between.f (l0.length : Int) 2 6).bind fun t229 => (some t229)) else (some false))
theorem impl_isCounted.mono : ∀ a0 k, LeO (impl_isCounted.f k a0) (impl_isCounted.f (k + 1) a0) := by
 intro a0 k
 unfold impl_isCounted.f
 repeat' first | (with_reducible first | exact impl_isOrder.mono _ _ | exact LeO.refl _ | exact LeO.none _ | refine LeO.ite ?_ ?_ | refine LeO.bind ?_ (fun _ => ?_))
theorem impl_isCounted.calls (k : Nat) (A0 : Option Addr) (c0 : Nat) (l0 : List Int) (r : Bool) (w : World) (hr0 : Kd.C (Kd.int .i64) w A0 l0.length l0) (hc0 : l0.length ≤ c0) (h : impl_isCounted.f k l0 = some r) :
  Calls Try.prog 39 #[.slice A0 l0.length c0] w fun e w' => e = .returned (.bool r) ∧ Drawn0 w w' := by
 have HR0 := am hr0
 have HC0 := am hc0
 clear hr0 hc0
 have H : ((impl_isOrder.f k l0).bind fun t228 => (if t228 = true then ((impl_between.f (l0.length : Int) 2 6).bind fun t229 => (some t229)) else (some false))) = some r := h
 clear h
 obtain ⟨t228, A2, H⟩ := zS H
 (try dsimp only at H)
 by_cases c3 : t228 = true
 ·subst c3
  rw [if_pos rfl] at H
  obtain ⟨t229, A4, H⟩ := zS H
  (try dsimp only at H)
  obtain rfl := Option.some.inj H
  go_enter Try.func39, Try.ntmps39
  go_wp2_with (first | ((with_reducible refine gate_callee (f := 50) rfl ?_); refine goesL_ (some 4) rfl rfl Try.func50 zq20 rfl #[.slice A0 l0.length c0] rfl zq2 ?_; (with_reducible refine (impl_isOrder.calls k _ _ l0 true _ ?side1 ?side2 A2.out).mono ?_); (case side1 => exact zq9); (case side2 => exact HC0.out); rintro e w' ⟨rfl, ⟨nd, rfl⟩⟩; refine ⟨_, rfl, ?_⟩) | (go_at_call 46; (with_reducible refine (impl_between.calls (l0.length : Int) 2 6 t229 _ A4.out).mono ?_); rintro e w' ⟨rfl, ⟨nd, rfl⟩⟩))
  go_ret
  exact ⟨zq3, zq4⟩
 ·replace c3 := Bool.eq_false_iff.mpr c3
  subst c3
  rw [if_neg (show ¬ (false = true) by decide)] at H
  obtain rfl := Option.some.inj H
  go_enter Try.func39, Try.ntmps39
  go_wp2_with (first | ((with_reducible refine gate_callee (f := 50) rfl ?_); refine goesL_ (some 4) rfl rfl Try.func50 zq20 rfl #[.slice A0 l0.length c0] rfl zq2 ?_; (with_reducible refine (impl_isOrder.calls k _ _ l0 false _ ?side1 ?side2 A2.out).mono ?_); (case side1 => exact zq9); (case side2 => exact HC0.out); rintro e w' ⟨rfl, ⟨nd, rfl⟩⟩; refine ⟨_, rfl, ?_⟩))
  go_ret
  exact ⟨zq3, zq4⟩
/-! ### impl_orderKey: function 51 -/
def impl_orderKey.l0 : Nat → List Int → List Int → Int → Int → Option (ByteArray)
 | 0, _, _, _, _ => none
 | k + 1, x3, x7, x8, x9 => if x9 < x8 then (if 0 ≤ x9 then (if x9 < (x7.length : Int) then (if x3.length < 140737488355328 then (impl_orderKey.l0 k (x3 ++ [(wrap64 (48 + (rd x7 x9))) % 256]) x7 x8 (wrap64 (x9 + 1))) else (none)) else (none)) else (none)) else (some (strOfNums x3))
def impl_orderKey.f (k : Nat) (l0 : List Int) : Option (ByteArray) := impl_orderKey.l0 k (([] : List Int)) l0 (l0.length : Int) 0
theorem impl_orderKey.mono_l : ∀ k, (∀ y0 y1 y2 y3, LeO (impl_orderKey.l0 k y0 y1 y2 y3) (impl_orderKey.l0 (k + 1) y0 y1 y2 y3))
 | 0 => fun _ _ _ _ r h => by simp [impl_orderKey.l0] at h
 | k + 1 => by
  have ih0 := impl_orderKey.mono_l k
  ·intro y0 y1 y2 y3
   unfold impl_orderKey.l0
   repeat' first | (with_reducible first | exact ih0 _ _ _ _ | exact LeO.refl _ | exact LeO.none _ | refine LeO.ite ?_ ?_ | refine LeO.bind ?_ (fun _ => ?_))
theorem impl_orderKey.mono : ∀ a0 k, LeO (impl_orderKey.f k a0) (impl_orderKey.f (k + 1) a0) := by
 intro a0 k
 have ih0 := impl_orderKey.mono_l k
 unfold impl_orderKey.f
 repeat' first | (with_reducible first | exact ih0 _ _ _ _ | exact LeO.refl _ | exact LeO.none _ | refine LeO.ite ?_ ?_ | refine LeO.bind ?_ (fun _ => ?_))
theorem impl_orderKey.calls (k : Nat) (A0 : Option Addr) (c0 : Nat) (l0 : List Int) (r : ByteArray) (w : World) (hr0 : Kd.C (Kd.int .i64) w A0 l0.length l0) (hc0 : l0.length ≤ c0) (h : impl_orderKey.f k l0 = some r) :
  Calls Try.prog 51 #[.slice A0 l0.length c0] w fun e w' => e = .returned (.string r) ∧ Below w.heap.size w w' := by
 have HR0 := am hr0
 have HC0 := am hc0
 clear hr0 hc0
 have HB := am (Below.refl w.heap.size w)
 have H : (impl_orderKey.l0 k (([] : List Int)) l0 (l0.length : Int) 0) = some r := h
 clear h
 obtain ⟨y230, hy230⟩ : ∃ y_ : List Int, y_ = (([] : List Int)) := ⟨_, rfl⟩
 replace H : (impl_orderKey.l0 k y230 l0 (l0.length : Int) 0) = some r := by first | (rw [hy230]; exact zH) | exact zH
 have Ny230 := am hy230
 clear hy230
 have H' := am H
 clear H
 go_enter Try.func51, Try.ntmps51
 go_wp2_with (first | ((with_reducible refine gate_dst (N := 6) rfl ?_); refine Kd.R_lit (Kd.int .u8) _ 5 ?hg (N := 6) ?hd (xs := ([] : List Int)) (inner := []) (ok := fun _ => True) (okp := fun _ => True) ?hr ?hp (fun _ hk => hk) trivial (Below.refl _ _) (Nat.le_refl _) zq24 ?_; (case hd => rfl); (case hg => rfl); (case hr => exact zq8); (case hp => exact (Reps.none _ _)); intro v231 w2 ho3 hb hg_ hnew_; clear hg_ hnew_; (first | rw [← Ny230.out] at ho3 | (simp only [Int.reduceToNat] at ho3; rw [← Ny230.out] at ho3)); have HO232 := am (Kd.R_lower ho3 (below_size (pBq3 HB))); replace HB := am (below_step (pBq3 HB) hb); clear hb ho3))
 go_loopg [3, 9] k (fun kq v3 v9 w' => ∃ (x3_1 : List Int) (x9_1 : Int), v9 = .int .i64 x9_1 ∧ Aside0 (impl_orderKey.l0 kq x3_1 l0 (l0.length : Int) x9_1 = some r) ∧ Aside0 (kq ≤ k) ∧ Aside0 (Kd.R (Kd.int .u8) 5 w' w.heap.size (fun _ => True) v3 x3_1) ∧ Aside0 (Below w.heap.size w w'))
 case atStart => exact ⟨(y230), (0), zq3, H', ⟨Nat.le_refl _⟩, ⟨by (with_reducible repeat (first | apply Kd.R_alloc | apply Kd.R_drewN | apply Kd.R_drew)); exact HO232.out⟩, ⟨zq1⟩⟩
 case round =>
  clear H'
  try clear p2
  obtain ⟨x3_1, x9_1, rfl, HA, HK1, HO_3, HB⟩ := hrel
  cases gk with
  | zero => exact absurd HA.out (by simp [impl_orderKey.l0])
  | succ k1 =>
   have H := HA.out
   clear HA
   simp only [impl_orderKey.l0] at H
   by_cases c4 : x9_1 < (l0.length : Int)
   ·rw [if_pos c4] at H
    have c4b0 : decide (x9_1 < (l0.length : Int)) = true := decide_eq_true c4
    clear c4
    by_cases c5 : 0 ≤ x9_1
    ·rw [if_pos c5] at H
     have c5b0 : decide (0 ≤ x9_1) = true := decide_eq_true c5
     clear c5
     by_cases c6 : x9_1 < (l0.length : Int)
     ·rw [if_pos c6] at H
      have c6b0 : decide (x9_1 < (l0.length : Int)) = true := decide_eq_true c6
      clear c6
      by_cases c7 : x3_1.length < 140737488355328
      ·rw [if_pos c7] at H
       have LMc7 := am c7
       clear c7
       obtain ⟨y234, hy234⟩ : ∃ y_ : List Int, y_ = (x3_1 ++ [(wrap64 (48 + (rd l0 x9_1))) % 256]) := ⟨_, rfl⟩
       replace H : (impl_orderKey.l0 k1 y234 l0 (l0.length : Int) (wrap64 (x9_1 + 1))) = some r := by first | (rw [hy234]; exact zH) | exact zH
       have Ny234 := am hy234
       clear hy234
       have H' := am H
       clear H
       have p233 : 0 ≤ (x9_1 : Int) := of_decide_eq_true zq0
       have q233 : x9_1 < (l0.length : Int) := of_decide_eq_true zq0
       obtain ⟨ad233, e233, hx233_0⟩ := Kd.at_int HR0.out x9_1 p233 q233
       cases e233
       replace hx233_0 := (HB.out.cell (World.block_lt_of_cell? w _ hx233_0)).trans hx233_0
       replace p233 := eq_true p233
       replace q233 := eq_true q233
       go_wp2_with (first | ((with_reducible refine gate_builtin (b := .append) (xs := #[.tmp 13, .tmp 17]) rfl ?_); at_builtin; refine Kd.R_append (Kd.int .u8) (w0 := w) w.heap.size rfl (.tmp 13) (.tmp 17) 80 5 (.int .u8 0) 1 rfl Try.underlying80 info5 rfl zq33 zq10 u3 x3_1 ((wrap64 (48 + (rd l0 x9_1))) % 256) [.int .u8 ((wrap64 (48 + (rd l0 x9_1))) % 256)] (fun _ => True) (fun _ => False) rfl rfl ?aP (fun _ hk => hk.elim) ?aF ?aO ?aB ?aS ?aL ?_; (case aP => exact rfl); (case aB => exact (pBq3 HB)); (case aF => exact (fun _ _ => trivial)); (case aO => exact (pRq3 HO_3)); (case aS => exact (below_size (pBq3 HB))); (case aL => have := LMc7.out; omega); intro v235 w8 ho hb hg hat; rw [← Ny234.out] at ho; have HO236 := am (ho); replace HB := am (hb); clear HO_3; clear ho hb hg hat))
       go_roundg k1
       case measure => have := HK1.out; omega
       case rel => exact ⟨(y234), (wrap64 (x9_1 + 1)), zq3, H', ⟨zq32⟩, ⟨by (with_reducible repeat (first | apply Kd.R_alloc | apply Kd.R_drewN | apply Kd.R_drew)); exact HO236.out⟩, ⟨zq1⟩⟩
      ·rw [if_neg c7] at H
       exact absurd H zq24
     ·rw [if_neg c6] at H
      exact absurd H zq24
    ·rw [if_neg c5] at H
     exact absurd H zq24
   ·rw [if_neg c4] at H
    have c4b0 : decide (x9_1 < (l0.length : Int)) = false := decide_eq_false c4
    clear c4
    obtain rfl := Option.some.inj H
    have hcv9 := own_string (P := Try.prog) Try.underlying80 Try.underlying5 Try.underlying9 (Kd.own_of_R HO_3.out)
    go_wp2
    go_ret
    exact ⟨zq6, zq1⟩
end
end Go.Proofs.Ytlmiiijjjcddkaa.PKb
