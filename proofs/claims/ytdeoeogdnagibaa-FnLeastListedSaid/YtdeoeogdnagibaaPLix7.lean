-- Written for this claim by a program of this session (myprint.py) over the kit's printer.
import Derived.Test.YtdeoeogdnagibaaPLix0
import Derived.Test.YtdeoeogdnagibaaPLix1
import Derived.Test.YtdeoeogdnagibaaPLix2
import Derived.Test.YtdeoeogdnagibaaPLix3
import Derived.Test.YtdeoeogdnagibaaPLix6
namespace Go.Proofs.Ytdeoeogdnagibaa.PLi
noncomputable section
open Go.RowKit Go.Proofs.YtdeoeogdnagibaaW.PrintWords Go.Proofs.YtdeoeogdnagibaaW.PrintLast Go.Proofs.YtdeoeogdnagibaaW.PrintMore
attribute [local go_sem] max2_int min2_int max_two min_two max_three min_three max_four min_four   -- for this text's walks alone
open List (setIfInBounds_toArray set_cons_zero set_cons_succ)
set_option maxHeartbeats 8000000
set_option maxRecDepth 100000
set_option linter.unusedVariables false
set_option linter.unusedSimpArgs false
theorem pRq7 {α : Type} {d : Kd α} {e base : Nat} {ok : Nat → Prop} {v : Value} {xs : List α} {w W : World} (h0 : Aside0 (Kd.R d e w base ok v xs)) (hp : Kd.R d e W base ok v xs := by (with_reducible repeat (first | apply Kd.R_alloc | apply Kd.R_drewN | apply Kd.R_drew)); exact Aside0.out (by with_reducible assumption)) : Kd.R d e W base ok v xs := hp
theorem pKq7 {g : Nat} {o : Obj} {w W : World} (h0 : Aside0 (w.heap[g]? = some o)) (hp : W.heap[g]? = some o := by (with_reducible repeat (first | refine blk_drewN ?_ _ | refine blk_drew ?_ | refine blk_alloc ?_ _)); exact Aside0.out (by with_reducible assumption)) : W.heap[g]? = some o := hp
theorem pBq7 {b : Nat} {w0 w W : World} (h0 : Aside0 (Below b w0 w)) (hp : Below b w0 W := by repeat (first | (with_reducible first | exact Aside0.out (by assumption) | apply below_alloc | apply pw_below_drewN | apply below_drew1 | refine below_set ?_ (Aside0.out (by assumption))))) : Below b w0 W := hp
/-! ### spec_laDown: function 73 -/
def spec_laDown.l0 : Nat → Int → List Int → List Int → Int → Int → Option (List Int)
 | 0, _, _, _, _, _ => none
 | k + 1, x1, x5, x10, x11, x12 => if x12 < x11 then (if 0 ≤ x12 then (if x12 < (x10.length : Int) then ((spec_laOver.f x1 (rd x10 x12)).bind fun t491 => (if x5.length < 17592186044416 then (spec_laDown.l0 k t491 (x5 ++ [t491]) x10 x11 (wrap64 (x12 + 1))) else (none))) else (none)) else (none)) else (some x5)
def spec_laDown.f (k : Nat) (l0 : List Int) (a1 : Int) : Option (List Int) := spec_laDown.l0 k a1 (([a1] : List Int)) l0 (l0.length : Int) 0
theorem spec_laDown.mono_l : ∀ k, (∀ y0 y1 y2 y3 y4, LeO (spec_laDown.l0 k y0 y1 y2 y3 y4) (spec_laDown.l0 (k + 1) y0 y1 y2 y3 y4))
 | 0 => fun _ _ _ _ _ r h => by simp [spec_laDown.l0] at h
 | k + 1 => by
  have ih0 := spec_laDown.mono_l k
  ·intro y0 y1 y2 y3 y4
   unfold spec_laDown.l0
   repeat' first | (with_reducible first | exact ih0 _ _ _ _ _ | exact LeO.refl _ | exact LeO.none _ | refine LeO.ite ?_ ?_ | refine LeO.bind ?_ (fun _ => ?_))
theorem spec_laDown.mono : ∀ a0 a1 k, LeO (spec_laDown.f k a0 a1) (spec_laDown.f (k + 1) a0 a1) := by
 intro a0 a1 k
 have ih0 := spec_laDown.mono_l k
 unfold spec_laDown.f
 repeat' first | (with_reducible first | exact ih0 _ _ _ _ _ | exact LeO.refl _ | exact LeO.none _ | refine LeO.ite ?_ ?_ | refine LeO.bind ?_ (fun _ => ?_))
theorem spec_laDown.calls (k : Nat) (A0 : Option Addr) (c0 : Nat) (l0 : List Int) (a1 : Int) (r : List Int) (w : World) (hr0 : Kd.C (Kd.int .i64) w A0 l0.length l0) (hc0 : l0.length ≤ c0) (h : spec_laDown.f k l0 a1 = some r) :
  Calls Try.prog 73 #[.slice A0 l0.length c0, .int .i64 a1] w fun e w' => ∃ v0_ : Value, e = .returned (v0_) ∧ Kd.R (Kd.int .i64) 3 w' w.heap.size (fun _ => True) v0_ r ∧ Below w.heap.size w w' := by
 have HR0 := am hr0
 have HC0 := am hc0
 clear hr0 hc0
 have HB := am (Below.refl w.heap.size w)
 have H : (spec_laDown.l0 k a1 (([a1] : List Int)) l0 (l0.length : Int) 0) = some r := h
 clear h
 obtain ⟨y487, hy487⟩ : ∃ y_ : List Int, y_ = (([a1] : List Int)) := ⟨_, rfl⟩
 replace H : (spec_laDown.l0 k a1 y487 l0 (l0.length : Int) 0) = some r := by first | (rw [hy487]; exact zH) | exact zH
 have Ny487 := am hy487
 clear hy487
 have H' := am H
 clear H
 go_enter Try.func73, Try.ntmps73
 go_wp2_with (first | ((with_reducible refine gate_dst (N := 9) rfl ?_); refine Kd.R_lit (Kd.int .i64) _ 3 ?hg (N := 9) ?hd (xs := ([a1] : List Int)) (inner := [.int .i64 a1]) (ok := fun _ => True) (okp := fun _ => True) ?hr ?hp (fun _ hk => hk) trivial (Below.refl _ _) (Nat.le_refl _) zq66 ?_; (case hd => rfl); (case hg => rfl); (case hr => exact zq53); (case hp => exact (Reps.one (show Kd.M (Kd.int .i64) _ _ _ a1 [.int .i64 a1] from rfl) (Reps.none _ _))); intro v488 w3 ho4 hb hg_ hnew_; clear hg_ hnew_; (first | rw [← Ny487.out] at ho4 | (simp only [Int.reduceToNat] at ho4; rw [← Ny487.out] at ho4)); have HO489 := am (Kd.R_lower ho4 (below_size (pBq7 HB))); replace HB := am (below_step (pBq7 HB) hb); clear hb ho4))
 go_loopg [1, 5, 12] k (fun kq v1 v5 v12 w' => ∃ (x1_1 : Int) (x5_1 : List Int) (x12_1 : Int), v1 = .int .i64 x1_1 ∧ v12 = .int .i64 x12_1 ∧ Aside0 (spec_laDown.l0 kq x1_1 x5_1 l0 (l0.length : Int) x12_1 = some r) ∧ Aside0 (kq ≤ k) ∧ Aside0 (Kd.R (Kd.int .i64) 3 w' w.heap.size (fun _ => True) v5 x5_1) ∧ Aside0 (Below w.heap.size w w'))
 case atStart => exact ⟨(a1), (y487), (0), zq13, zq13, H', ⟨Nat.le_refl _⟩, ⟨by (with_reducible repeat (first | apply Kd.R_alloc | apply Kd.R_drewN | apply Kd.R_drew)); exact HO489.out⟩, ⟨zq12⟩⟩
 case round =>
  clear H'
  try clear p2
  obtain ⟨x1_1, x5_1, x12_1, rfl, rfl, HA, HK1, HO_5, HB⟩ := hrel
  cases gk with
  | zero => exact absurd HA.out (by simp [spec_laDown.l0])
  | succ k1 =>
   have H := HA.out
   clear HA
   simp only [spec_laDown.l0] at H
   by_cases c5 : x12_1 < (l0.length : Int)
   ·rw [if_pos c5] at H
    have c5b0 : decide (x12_1 < (l0.length : Int)) = true := decide_eq_true c5
    clear c5
    by_cases c6 : 0 ≤ x12_1
    ·rw [if_pos c6] at H
     have c6b0 : decide (0 ≤ x12_1) = true := decide_eq_true c6
     clear c6
     by_cases c7 : x12_1 < (l0.length : Int)
     ·rw [if_pos c7] at H
      have c7b0 : decide (x12_1 < (l0.length : Int)) = true := decide_eq_true c7
      clear c7
      obtain ⟨t491, A8, H⟩ := zS H
      (try dsimp only at H)
      by_cases c9 : x5_1.length < 17592186044416
      ·rw [if_pos c9] at H
       have LMc9 := am c9
       clear c9
       obtain ⟨y492, hy492⟩ : ∃ y_ : List Int, y_ = (x5_1 ++ [t491]) := ⟨_, rfl⟩
       replace H : (spec_laDown.l0 k1 t491 y492 l0 (l0.length : Int) (wrap64 (x12_1 + 1))) = some r := by first | (rw [hy492]; exact zH) | exact zH
       have Ny492 := am hy492
       clear hy492
       have H' := am H
       clear H
       have p490 : 0 ≤ (x12_1 : Int) := of_decide_eq_true zq9
       have q490 : x12_1 < (l0.length : Int) := of_decide_eq_true zq9
       obtain ⟨ad490, e490, hx490_0⟩ := Kd.at_int HR0.out x12_1 p490 q490
       cases e490
       replace hx490_0 := (HB.out.cell (World.block_lt_of_cell? w _ hx490_0)).trans hx490_0
       replace p490 := eq_true p490
       replace q490 := eq_true q490
       go_wp2_with (first | ((with_reducible refine gate_callee (f := 80) rfl ?_); refine goesL_ (some 18) rfl rfl Try.func80 zq26 rfl #[.int .i64 x1_1, .int .i64 (rd l0 x12_1)] rfl zq1 ?_; (with_reducible refine (spec_laOver.calls x1_1 (rd l0 x12_1) t491 _ A8.out).mono ?_); rintro e w' ⟨rfl, ⟨nd, rfl⟩⟩; refine ⟨_, rfl, ?_⟩) | ((with_reducible refine gate_builtin (b := .append) (xs := #[.tmp 19, .tmp 21]) rfl ?_); at_builtin; refine Kd.R_append (Kd.int .i64) (w0 := w) w.heap.size rfl (.tmp 19) (.tmp 21) 24 3 (.int .i64 0) 8 rfl Try.underlying24 info3 rfl zq36 zq62 u5 x5_1 t491 [.int .i64 t491] (fun _ => True) (fun _ => False) rfl rfl ?aP (fun _ hk => hk.elim) ?aF ?aO ?aB ?aS ?aL ?_; (case aP => exact rfl); (case aB => exact (pBq7 HB)); (case aF => exact zq145); (case aO => exact (pRq7 HO_5)); (case aS => exact (below_size (pBq7 HB))); (case aL => have := LMc9.out; omega); intro v493 w10 ho hb hg hat; rw [← Ny492.out] at ho; have HO494 := am (ho); replace HB := am (hb); clear HO_5; clear ho hb hg hat))
       go_roundg k1
       case measure => have := HK1.out; omega
       case rel => exact ⟨(t491), (y492), (wrap64 (x12_1 + 1)), zq13, zq13, H', ⟨zq101⟩, ⟨by (with_reducible repeat (first | apply Kd.R_alloc | apply Kd.R_drewN | apply Kd.R_drew)); exact HO494.out⟩, ⟨zq12⟩⟩
      ·rw [if_neg c9] at H
       exact absurd H zq66
     ·rw [if_neg c7] at H
      exact absurd H zq66
    ·rw [if_neg c6] at H
     exact absurd H zq66
   ·rw [if_neg c5] at H
    have c5b0 : decide (x12_1 < (l0.length : Int)) = false := decide_eq_false c5
    clear c5
    obtain rfl := Option.some.inj H
    go_wp2
    go_ret
    exact ⟨_, zq11, zq108, zq12⟩
/-! ### spec_laResult: function 50 -/
def spec_laResult.l0 : Nat → Int → List Int → List Int → Int → Option (List Int)
 | 0, _, _, _, _ => none
 | k + 1, x0, x1, x5, x6 => if x6 < x0 then ((spec_laDown.f k x1 x6).bind fun t495 => (if 0 ≤ (x1.length : Int) then (if (x1.length : Int) < (t495.length : Int) then (if x5.length < 17592186044416 then (spec_laResult.l0 k x0 x1 (x5 ++ [rd t495 (x1.length : Int)]) (wrap64 (x6 + 1))) else (none)) else (none)) else (none))) else (some x5)
def spec_laResult.f (k : Nat) (a0 : Int) (l1 : List Int) : Option (List Int) := spec_laResult.l0 k a0 l1 ([] : List Int) 0
theorem spec_laResult.mono_l : ∀ k, (∀ y0 y1 y2 y3, LeO (spec_laResult.l0 k y0 y1 y2 y3) (spec_laResult.l0 (k + 1) y0 y1 y2 y3))
 | 0 => fun _ _ _ _ r h => by simp [spec_laResult.l0] at h
 | k + 1 => by
  have ih0 := spec_laResult.mono_l k
  ·intro y0 y1 y2 y3
   unfold spec_laResult.l0
   repeat' first | (with_reducible first | exact ih0 _ _ _ _ | exact spec_laDown.mono _ _ _ | exact LeO.refl _ | exact LeO.none _ | refine LeO.ite ?_ ?_ | refine LeO.bind ?_ (fun _ => ?_))
theorem spec_laResult.mono : ∀ a0 a1 k, LeO (spec_laResult.f k a0 a1) (spec_laResult.f (k + 1) a0 a1) := by
 intro a0 a1 k
 have ih0 := spec_laResult.mono_l k
 unfold spec_laResult.f
 repeat' first | (with_reducible first | exact ih0 _ _ _ _ | exact spec_laDown.mono _ _ _ | exact LeO.refl _ | exact LeO.none _ | refine LeO.ite ?_ ?_ | refine LeO.bind ?_ (fun _ => ?_))
theorem spec_laResult.calls (k : Nat) (a0 : Int) (A1 : Option Addr) (c1 : Nat) (l1 : List Int) (r : List Int) (w : World) (hr1 : Kd.C (Kd.int .i64) w A1 l1.length l1) (hc1 : l1.length ≤ c1) (h : spec_laResult.f k a0 l1 = some r) :
  Calls Try.prog 50 #[.int .i64 a0, .slice A1 l1.length c1] w fun e w' => ∃ v0_ : Value, e = .returned (v0_) ∧ Kd.R (Kd.int .i64) 3 w' w.heap.size (fun _ => True) v0_ r ∧ Below w.heap.size w w' := by
 have HR1 := am hr1
 have HC1 := am hc1
 clear hr1 hc1
 have HB := am (Below.refl w.heap.size w)
 have H : (spec_laResult.l0 k a0 l1 ([] : List Int) 0) = some r := h
 clear h
 have H' := am H
 clear H
 go_enter Try.func50, Try.ntmps50
 go_wp2
 go_loopg [5, 6] k (fun kq v5 v6 w' => ∃ (x5_1 : List Int) (x6_1 : Int), v6 = .int .i64 x6_1 ∧ Aside0 (spec_laResult.l0 kq a0 l1 x5_1 x6_1 = some r) ∧ Aside0 (kq ≤ k) ∧ Aside0 (Kd.R (Kd.int .i64) 3 w' w.heap.size (fun _ => True) v5 x5_1) ∧ Aside0 (Below w.heap.size w w'))
 case atStart => exact ⟨(([] : List Int)), (0), zq13, H', ⟨Nat.le_refl _⟩, ⟨zq24⟩, ⟨zq12⟩⟩
 case round =>
  clear H'
  try clear c1
  try clear p2
  obtain ⟨x5_1, x6_1, rfl, HA, HK1, HO_5, HB⟩ := hrel
  cases gk with
  | zero => exact absurd HA.out (by simp [spec_laResult.l0])
  | succ k1 =>
   have H := HA.out
   clear HA
   simp only [spec_laResult.l0] at H
   by_cases c3 : x6_1 < a0
   ·rw [if_pos c3] at H
    have c3b0 : decide (x6_1 < a0) = true := decide_eq_true c3
    clear c3
    obtain ⟨t495, A4, H⟩ := zS H
    (try dsimp only at H)
    by_cases c5 : 0 ≤ (l1.length : Int)
    ·rw [if_pos c5] at H
     have c5b0 : decide (0 ≤ (l1.length : Int)) = true := decide_eq_true c5
     have c5b1 : decide (0 ≤ l1.length) = true := decide_eq_true zq62
     clear c5
     by_cases c6 : (l1.length : Int) < (t495.length : Int)
     ·rw [if_pos c6] at H
      have c6b0 : decide ((l1.length : Int) < (t495.length : Int)) = true := decide_eq_true c6
      have c6b1 : decide (l1.length < t495.length) = true := decide_eq_true (Int.ofNat_lt.mp c6)
      clear c6
      by_cases c7 : x5_1.length < 17592186044416
      ·rw [if_pos c7] at H
       have LMc7 := am c7
       clear c7
       obtain ⟨y499, hy499⟩ : ∃ y_ : List Int, y_ = (x5_1 ++ [rd t495 (l1.length : Int)]) := ⟨_, rfl⟩
       replace H : (spec_laResult.l0 k1 a0 l1 y499 (wrap64 (x6_1 + 1))) = some r := by first | (rw [hy499]; exact zH) | exact zH
       have Ny499 := am hy499
       clear hy499
       have H' := am H
       clear H
       go_wp2_with (first | ((with_reducible refine gate_callee (f := 73) rfl ?_); refine goesL_ (some 15) rfl rfl Try.func73 zq26 rfl #[.slice A1 l1.length c1, .int .i64 x6_1] rfl zq1 ?_; (with_reducible refine (spec_laDown.calls k1 _ _ l1 x6_1 t495 _ ?side1 ?side2 A4.out).mono ?_); (case side1 => exact zq166); (case side2 => exact HC1.out); rintro e w8 ⟨v496, rfl, ho0, hb⟩; refine ⟨_, rfl, ?_⟩; have HO497 := am (Kd.R_lower (Kd.R_new' ho0 (Kd.R_lt (pRq7 HO_5))) (below_size (pBq7 HB))); replace HO_5 := am (Kd.R_elder' (pRq7 HO_5) (Kd.R_base ho0) hb); replace HB := am (below_step (pBq7 HB) hb); (try clear hb ho0); obtain ⟨Ao9, co9, eo9⟩ := Kd.R_slice HO497.out; subst eo9; have p498 : 0 ≤ ((l1.length : Int) : Int) := of_decide_eq_true zq9; have q498 : (l1.length : Int) < (t495.length : Int) := of_decide_eq_true zq9; obtain ⟨ad498, e498, hx498_0⟩ := Kd.at_int (Kd.R_reads' HO497.out).2.2 (l1.length : Int) p498 q498; cases e498; (try simp only [Go.IntWalk.toNatUp] at hx498_0); replace p498 := eq_true p498; replace q498 := eq_true q498) | ((with_reducible refine gate_builtin (b := .append) (xs := #[.tmp 12, .tmp 20]) rfl ?_); at_builtin; refine Kd.R_append (Kd.int .i64) (w0 := w) w.heap.size rfl (.tmp 12) (.tmp 20) 24 3 (.int .i64 0) 8 rfl Try.underlying24 info3 rfl zq36 zq62 u5 x5_1 (rd t495 (l1.length : Int)) [.int .i64 (rd t495 (l1.length : Int))] (fun k_ => some k_ ≠ (.slice (some ad498) t495.length co9 : Value).ownBlock) (fun _ => False) rfl rfl ?aP (fun _ hk => hk.elim) ?aF ?aO ?aB ?aS ?aL ?_; (case aP => exact rfl); (case aB => exact (pBq7 HB)); (case aF => exact (fun k_ hk => Kd.fresh' (Kd.R_lt (pRq7 HO497)) k_ hk)); (case aO => exact zq174); (case aS => exact (below_size (pBq7 HB))); (case aL => have := LMc7.out; omega); intro v500 w10 ho hb hg hat; rw [← Ny499.out] at ho; have HO501 := am (ho); replace HO497 := am (Kd.R_after (ok := (fun _ => True)) (pRq7 HO497) hg hat); replace HB := am (hb); clear HO_5; clear ho hb hg hat))
       go_roundg k1
       case measure => have := HK1.out; omega
       case rel => exact ⟨(y499), (wrap64 (x6_1 + 1)), zq13, H', ⟨zq101⟩, ⟨by (with_reducible repeat (first | apply Kd.R_alloc | apply Kd.R_drewN | apply Kd.R_drew)); exact Kd.R_mono HO501.out (fun _ hk => trivial)⟩, ⟨zq12⟩⟩
      ·rw [if_neg c7] at H
       exact absurd H zq66
     ·rw [if_neg c6] at H
      exact absurd H zq66
    ·rw [if_neg c5] at H
     exact absurd H zq66
   ·rw [if_neg c3] at H
    have c3b0 : decide (x6_1 < a0) = false := decide_eq_false c3
    clear c3
    obtain rfl := Option.some.inj H
    go_wp2
    go_ret
    exact ⟨_, zq11, zq108, zq12⟩
/-! ### spec_l1All: function 79 -/
def spec_l1All.l0 : Nat → Int → Int → List Int → Int → Int → Option (Bool)
 | 0, _, _, _, _, _ => none
 | k + 1, x1, x2, x9, x10, x11 => if x11 < x10 then (if 0 ≤ x11 then (if x11 < (x9.length : Int) then ((spec_l1In.f (rd x9 x11) x1 x2).bind fun t503 => (if t503 = true then (spec_l1All.l0 k x1 x2 x9 x10 (wrap64 (x11 + 1))) else (some false))) else (none)) else (none)) else (some true)
def spec_l1All.f (k : Nat) (l0 : List Int) (a1 : Int) (a2 : Int) : Option (Bool) := spec_l1All.l0 k a1 a2 l0 (l0.length : Int) 0
theorem spec_l1All.mono_l : ∀ k, (∀ y0 y1 y2 y3 y4, LeO (spec_l1All.l0 k y0 y1 y2 y3 y4) (spec_l1All.l0 (k + 1) y0 y1 y2 y3 y4))
 | 0 => fun _ _ _ _ _ r h => by simp [spec_l1All.l0] at h
 | k + 1 => by
  have ih0 := spec_l1All.mono_l k
  ·intro y0 y1 y2 y3 y4
   unfold spec_l1All.l0
   repeat' first | (with_reducible first | exact ih0 _ _ _ _ _ | exact LeO.refl _ | exact LeO.none _ | refine LeO.ite ?_ ?_ | refine LeO.bind ?_ (fun _ => ?_))
theorem spec_l1All.mono : ∀ a0 a1 a2 k, LeO (spec_l1All.f k a0 a1 a2) (spec_l1All.f (k + 1) a0 a1 a2) := by
 intro a0 a1 a2 k
 have ih0 := spec_l1All.mono_l k
 unfold spec_l1All.f
 repeat' first | (with_reducible first | exact ih0 _ _ _ _ _ | exact LeO.refl _ | exact LeO.none _ | refine LeO.ite ?_ ?_ | refine LeO.bind ?_ (fun _ => ?_))
theorem spec_l1All.calls (k : Nat) (A0 : Option Addr) (c0 : Nat) (l0 : List Int) (a1 : Int) (a2 : Int) (r : Bool) (w : World) (hr0 : Kd.C (Kd.int .i64) w A0 l0.length l0) (hc0 : l0.length ≤ c0) (h : spec_l1All.f k l0 a1 a2 = some r) :
  Calls Try.prog 79 #[.slice A0 l0.length c0, .int .i64 a1, .int .i64 a2] w fun e w' => e = .returned (.bool r) ∧ Drawn0 w w' := by
 have HR0 := am hr0
 have HC0 := am hc0
 clear hr0 hc0
 have H : (spec_l1All.l0 k a1 a2 l0 (l0.length : Int) 0) = some r := h
 clear h
 have H' := am H
 clear H
 go_enter Try.func79, Try.ntmps79
 go_wp2
 go_loopg [11] k (fun kq v11 w' => ∃ (x11_1 : Int), v11 = .int .i64 x11_1 ∧ Aside0 (spec_l1All.l0 kq a1 a2 l0 (l0.length : Int) x11_1 = some r) ∧ Aside0 (kq ≤ k) ∧ Drawn0 w w')
 case atStart => exact ⟨(0), zq13, H', ⟨Nat.le_refl _⟩, zq20⟩
 case round =>
  clear H'
  try clear p2
  obtain ⟨x11_1, rfl, HA, HK1, ⟨m1, rfl⟩⟩ := hrel
  cases gk with
  | zero => exact absurd HA.out (by simp [spec_l1All.l0])
  | succ k1 =>
   have H := HA.out
   clear HA
   simp only [spec_l1All.l0] at H
   by_cases c4 : x11_1 < (l0.length : Int)
   ·rw [if_pos c4] at H
    have c4b0 : decide (x11_1 < (l0.length : Int)) = true := decide_eq_true c4
    clear c4
    by_cases c5 : 0 ≤ x11_1
    ·rw [if_pos c5] at H
     have c5b0 : decide (0 ≤ x11_1) = true := decide_eq_true c5
     clear c5
     by_cases c6 : x11_1 < (l0.length : Int)
     ·rw [if_pos c6] at H
      have c6b0 : decide (x11_1 < (l0.length : Int)) = true := decide_eq_true c6
      clear c6
      obtain ⟨t503, A7, H⟩ := zS H
      (try dsimp only at H)
      by_cases c8 : t503 = true
      ·subst c8
       rw [if_pos rfl] at H
       have H' := am H
       clear H
       have p502 : 0 ≤ (x11_1 : Int) := of_decide_eq_true zq9
       have q502 : x11_1 < (l0.length : Int) := of_decide_eq_true zq9
       obtain ⟨ad502, e502, hx502_0⟩ := Kd.at_int HR0.out x11_1 p502 q502
       cases e502
       replace p502 := eq_true p502
       replace q502 := eq_true q502
       go_wp2_with (first | ((with_reducible refine gate_callee (f := 46) rfl ?_); refine goesL_ (some 18) rfl rfl Try.func46 zq26 rfl #[.int .i64 (rd l0 x11_1), .int .i64 a1, .int .i64 a2] rfl zq1 ?_; (with_reducible refine (spec_l1In.calls (rd l0 x11_1) a1 a2 true _ A7.out).mono ?_); rintro e w' ⟨rfl, ⟨nd, rfl⟩⟩; refine ⟨_, rfl, ?_⟩))
       go_roundg k1
       case measure => have := HK1.out; omega
       case rel => exact ⟨(wrap64 (x11_1 + 1)), zq13, H', ⟨zq101⟩, zq20⟩
      ·replace c8 := Bool.eq_false_iff.mpr c8
       subst c8
       rw [if_neg (show ¬ (false = true) by decide)] at H
       obtain rfl := Option.some.inj H
       have p502 : 0 ≤ (x11_1 : Int) := of_decide_eq_true zq9
       have q502 : x11_1 < (l0.length : Int) := of_decide_eq_true zq9
       obtain ⟨ad502, e502, hx502_0⟩ := Kd.at_int HR0.out x11_1 p502 q502
       cases e502
       replace p502 := eq_true p502
       replace q502 := eq_true q502
       go_wp2_with (first | ((with_reducible refine gate_callee (f := 46) rfl ?_); refine goesL_ (some 18) rfl rfl Try.func46 zq26 rfl #[.int .i64 (rd l0 x11_1), .int .i64 a1, .int .i64 a2] rfl zq1 ?_; (with_reducible refine (spec_l1In.calls (rd l0 x11_1) a1 a2 false _ A7.out).mono ?_); rintro e w' ⟨rfl, ⟨nd, rfl⟩⟩; refine ⟨_, rfl, ?_⟩))
       go_ret
       exact ⟨zq13, zq20⟩
     ·rw [if_neg c6] at H
      exact absurd H zq66
    ·rw [if_neg c5] at H
     exact absurd H zq66
   ·rw [if_neg c4] at H
    have c4b0 : decide (x11_1 < (l0.length : Int)) = false := decide_eq_false c4
    clear c4
    obtain rfl := Option.some.inj H
    go_wp2
    go_ret
    exact ⟨zq13, zq20⟩
/-! ### spec_laGood: function 72 -/
def spec_laGood.f (k : Nat) (a0_0 : Int) (l0_1 : List Int) : Option (Bool) := (spec_l1In.f a0_0 2 8).bind fun t505 => (if t505 = true then (if (l0_1.length : Int) ≤ 60 then ((spec_l1All.f k l0_1 0 (wrap64 (a0_0 - 2))).bind fun t506 => (some t506)) else (some false)) else (some false))
theorem spec_laGood.mono : ∀ a0 a1 k, LeO (spec_laGood.f k a0 a1) (spec_laGood.f (k + 1) a0 a1) := by
 intro a0 a1 k
 unfold spec_laGood.f
 repeat' first | (with_reducible first | exact spec_l1All.mono _ _ _ _ | exact LeO.refl _ | exact LeO.none _ | refine LeO.ite ?_ ?_ | refine LeO.bind ?_ (fun _ => ?_))
theorem spec_laGood.calls (k : Nat) (a0_0 : Int) (A0_1 : Option Addr) (c0_1 : Nat) (l0_1 : List Int) (r : Bool) (w : World) (hr0_1 : Kd.C (Kd.int .i64) w A0_1 l0_1.length l0_1) (hc0_1 : l0_1.length ≤ c0_1) (h : spec_laGood.f k a0_0 l0_1 = some r) :
  Calls Try.prog 72 #[.agg #[.int .i64 a0_0, .slice A0_1 l0_1.length c0_1]] w fun e w' => e = .returned (.bool r) ∧ Below w.heap.size w w' := by
 have hu34 := Try.underlying34
 have HR0_1 := am hr0_1
 have HC0_1 := am hc0_1
 clear hr0_1 hc0_1
 have HB := am (Below.refl w.heap.size w)
 have H : ((spec_l1In.f a0_0 2 8).bind fun t505 => (if t505 = true then (if (l0_1.length : Int) ≤ 60 then ((spec_l1All.f k l0_1 0 (wrap64 (a0_0 - 2))).bind fun t506 => (some t506)) else (some false)) else (some false))) = some r := h
 clear h
 obtain ⟨t505, A2, H⟩ := zS H
 (try dsimp only at H)
 by_cases c3 : t505 = true
 ·subst c3
  rw [if_pos rfl] at H
  by_cases c4 : (l0_1.length : Int) ≤ 60
  ·rw [if_pos c4] at H
   have c4b0 : decide ((l0_1.length : Int) ≤ 60) = true := decide_eq_true c4
   have c4b1 : decide (l0_1.length ≤ 60) = true := decide_eq_true zq62
   clear c4
   obtain ⟨t506, A5, H⟩ := zS H
   (try dsimp only at H)
   obtain rfl := Option.some.inj H
   go_enter Try.func72, Try.ntmps72
   go_wp2_with (first | ((with_reducible refine gate_dst (N := 1) rfl ?_); (try (refine gate_guard (by rfl) ?_; dsimp only)); refine zE 1 (cs := #[.int .i64 a0_0, .slice A0_1 l0_1.length c0_1]) 34 ?_; intro gb504 hg w6 hbox hb; have BK504 := am (hbox); have GW504 := am ((zq99 : w.heap.size ≤ gb504)); have GE504 := am ((zq99 : w.heap.size ≤ gb504)); replace HB := am (below_step (pBq7 HB) hb); clear hb hbox hg; have hcz7_0 : w6.cell? ⟨gb504, 0, none⟩ = some (.int .i64 a0_0) := (blk_cell BK504.out 0).trans rfl; have hcz7_1 : w6.cell? ⟨gb504, 1, none⟩ = some (.slice A0_1 l0_1.length c0_1) := (blk_cell BK504.out 1).trans rfl; have hfz7_0 := blk_frozen BK504.out 0; have hfz7_1 := blk_frozen BK504.out 1) | ((with_reducible refine gate_callee (f := 46) rfl ?_); refine goesL_ (some 5) rfl rfl Try.func46 zq26 rfl #[.int .i64 a0_0, .int .i64 2, .int .i64 8] rfl zq1 ?_; (with_reducible refine (spec_l1In.calls a0_0 2 8 true _ A2.out).mono ?_); rintro e w' ⟨rfl, ⟨nd, rfl⟩⟩; refine ⟨_, rfl, ?_⟩) | (go_at_call 79; (with_reducible refine (spec_l1All.calls k _ _ l0_1 0 (wrap64 (a0_0 - 2)) t506 _ ?side1 ?side2 A5.out).mono ?_); (case side1 => repeat (first | exact (Kd.C_below HR0_1.out (pBq7 HB)) | (with_reducible refine Kd.C_alloc ?_ _) | (with_reducible refine Kd.C_drewN ?_ _) | (with_reducible refine Kd.C_drew ?_))); (case side2 => exact HC0_1.out); rintro e w' ⟨rfl, ⟨nd, rfl⟩⟩))
   go_ret
   exact ⟨zq11, zq10⟩
  ·rw [if_neg c4] at H
   have c4b0 : decide ((l0_1.length : Int) ≤ 60) = false := decide_eq_false c4
   have c4b1 : decide (l0_1.length ≤ 60) = false := decide_eq_false zq62
   clear c4
   obtain rfl := Option.some.inj H
   go_enter Try.func72, Try.ntmps72
   go_wp2_with (first | ((with_reducible refine gate_dst (N := 1) rfl ?_); (try (refine gate_guard (by rfl) ?_; dsimp only)); refine zE 1 (cs := #[.int .i64 a0_0, .slice A0_1 l0_1.length c0_1]) 34 ?_; intro gb504 hg w8 hbox hb; have BK504 := am (hbox); have GW504 := am ((zq99 : w.heap.size ≤ gb504)); have GE504 := am ((zq99 : w.heap.size ≤ gb504)); replace HB := am (below_step (pBq7 HB) hb); clear hb hbox hg; have hcz9_0 : w8.cell? ⟨gb504, 0, none⟩ = some (.int .i64 a0_0) := (blk_cell BK504.out 0).trans rfl; have hcz9_1 : w8.cell? ⟨gb504, 1, none⟩ = some (.slice A0_1 l0_1.length c0_1) := (blk_cell BK504.out 1).trans rfl; have hfz9_0 := blk_frozen BK504.out 0; have hfz9_1 := blk_frozen BK504.out 1) | ((with_reducible refine gate_callee (f := 46) rfl ?_); refine goesL_ (some 5) rfl rfl Try.func46 zq26 rfl #[.int .i64 a0_0, .int .i64 2, .int .i64 8] rfl zq1 ?_; (with_reducible refine (spec_l1In.calls a0_0 2 8 true _ A2.out).mono ?_); rintro e w' ⟨rfl, ⟨nd, rfl⟩⟩; refine ⟨_, rfl, ?_⟩))
   go_ret
   exact ⟨zq11, zq10⟩
 ·replace c3 := Bool.eq_false_iff.mpr c3
  subst c3
  rw [if_neg (show ¬ (false = true) by decide)] at H
  obtain rfl := Option.some.inj H
  go_enter Try.func72, Try.ntmps72
  go_wp2_with (first | ((with_reducible refine gate_dst (N := 1) rfl ?_); (try (refine gate_guard (by rfl) ?_; dsimp only)); refine zE 1 (cs := #[.int .i64 a0_0, .slice A0_1 l0_1.length c0_1]) 34 ?_; intro gb504 hg w10 hbox hb; have BK504 := am (hbox); have GW504 := am ((zq99 : w.heap.size ≤ gb504)); have GE504 := am ((zq99 : w.heap.size ≤ gb504)); replace HB := am (below_step (pBq7 HB) hb); clear hb hbox hg; have hcz11_0 : w10.cell? ⟨gb504, 0, none⟩ = some (.int .i64 a0_0) := (blk_cell BK504.out 0).trans rfl; have hcz11_1 : w10.cell? ⟨gb504, 1, none⟩ = some (.slice A0_1 l0_1.length c0_1) := (blk_cell BK504.out 1).trans rfl; have hfz11_0 := blk_frozen BK504.out 0; have hfz11_1 := blk_frozen BK504.out 1) | ((with_reducible refine gate_callee (f := 46) rfl ?_); refine goesL_ (some 5) rfl rfl Try.func46 zq26 rfl #[.int .i64 a0_0, .int .i64 2, .int .i64 8] rfl zq1 ?_; (with_reducible refine (spec_l1In.calls a0_0 2 8 false _ A2.out).mono ?_); rintro e w' ⟨rfl, ⟨nd, rfl⟩⟩; refine ⟨_, rfl, ?_⟩))
  go_ret
  exact ⟨zq11, zq10⟩
/-! ### spec_alLadder: function 49 -/
def spec_alLadder.f (k : Nat) (a0_0 : Int) (l0_1 : List Int) : Option (Bool) := (spec_laGood.f k a0_0 l0_1).bind fun t508 => (if t508 = true then (if a0_0 ≤ 6 then ((spec_laResult.f k a0_0 l0_1).bind fun t509 => ((spec_lsInversions.f k t509).bind fun t512 => (some ((l0_1.length : Int) == (t512.length : Int))))) else (some false)) else (some false))
theorem spec_alLadder.mono : ∀ a0 a1 k, LeO (spec_alLadder.f k a0 a1) (spec_alLadder.f (k + 1) a0 a1) := by
 intro a0 a1 k
 unfold spec_alLadder.f
 repeat' first | (with_reducible first | exact spec_laGood.mono _ _ _ | exact spec_laResult.mono _ _ _ | exact spec_lsInversions.mono _ _ | exact LeO.refl _ | exact LeO.none _ | refine LeO.ite ?_ ?_ | refine LeO.bind ?_ (fun _ => ?_))
def spec_alLadder.T1 : Bool × List (List Nat × List Nat) := (true, [([], []), ([0], [0]), ([1, 1], [1]), ([2], [2]), ([3, 2], [2, 3]), ([4, 2], [2, 4]), ([2, 5], [2, 5]), ([6, 2], [6]), ([7], [7]), ([8, 7], [7, 8]), ([9, 7], [7, 9]), ([7], [7]), ([11, 7], [7, 11]), ([7], [7]), ([13, 7], [7, 13]), ([12, 14, 7, 7], [7, 12, 14]), ([15, 15, 7], [7, 15]), ([16, 7], [7, 16]), ([10, 17, 7], [7, 10, 17]), ([7, 18], [7, 18]), ([19, 16, 0, 1, 2, 3, 4, 5, 6, 7, 8, 9, 10, 11, 12, 13, 14, 15, 16, 17, 18, 19], [19])])
def spec_alLadder.B1 : List Nat := [0, 1, 3, 7, 15, 31, 63, 127, 255, 511, 1023, 255, 2303, 255, 8447, 30975, 63743, 129279, 262143, 524287, 1048575]
theorem spec_alLadder.tab1 : rtab .any (opsOf Try.f49 1) = spec_alLadder.T1 := by kernel_rfl
theorem spec_alLadder.bits1 : waitsOk spec_alLadder.T1.2 spec_alLadder.B1 = true := by kernel_rfl
theorem spec_alLadder.calls (k : Nat) (a0_0 : Int) (A0_1 : Option Addr) (c0_1 : Nat) (l0_1 : List Int) (r : Bool) (w : World) (hr0_1 : Kd.C (Kd.int .i64) w A0_1 l0_1.length l0_1) (hc0_1 : l0_1.length ≤ c0_1) (h : spec_alLadder.f k a0_0 l0_1 = some r) :
  Calls Try.prog 49 #[.agg #[.int .i64 a0_0, .slice A0_1 l0_1.length c0_1]] w fun e w' => e = .returned (.bool r) ∧ Below w.heap.size w w' := by
 have hu34 := Try.underlying34
 have HR0_1 := am hr0_1
 have HC0_1 := am hc0_1
 clear hr0_1 hc0_1
 have HB := am (Below.refl w.heap.size w)
 have H : ((spec_laGood.f k a0_0 l0_1).bind fun t508 => (if t508 = true then (if a0_0 ≤ 6 then ((spec_laResult.f k a0_0 l0_1).bind fun t509 => ((spec_lsInversions.f k t509).bind fun t512 => (some ((l0_1.length : Int) == (t512.length : Int))))) else (some false)) else (some false))) = some r := h
 clear h
 obtain ⟨t508, A2, H⟩ := zS H
 (try dsimp only at H)
 by_cases c3 : t508 = true
 ·subst c3
  rw [if_pos rfl] at H
  by_cases c4 : a0_0 ≤ 6
  ·rw [if_pos c4] at H
   have c4b0 : decide (a0_0 ≤ 6) = true := decide_eq_true c4
   clear c4
   obtain ⟨t509, A5, H⟩ := zS H
   (try dsimp only at H)
   obtain ⟨t512, A6, H⟩ := zS H
   (try dsimp only at H)
   obtain rfl := Option.some.inj H
   go_enter Try.func49, Try.ntmps49
   try go_wp2_with (first | ((with_reducible refine gate_dst (N := 1) rfl ?_); (try (refine gate_guard (by rfl) ?_; dsimp only)); refine zE 1 (cs := #[.int .i64 a0_0, .slice A0_1 l0_1.length c0_1]) 34 ?_; intro gb507 hg w7 hbox hb; have BK507 := am (hbox); have GW507 := am ((zq99 : w.heap.size ≤ gb507)); have GE507 := am ((zq99 : w.heap.size ≤ gb507)); replace HB := am (below_step (pBq7 HB) hb); clear hb hbox hg))
   replace BK507 := am (blk_drew BK507.out)
   replace HB := am (below_drew1 HB.out)
   refine start_ (n := 21) (S := fun w' => w'.cell? ⟨gb507, 0, none⟩ = some (.int .i64 a0_0) ∧ w'.cell? ⟨gb507, 1, none⟩ = some (.slice A0_1 l0_1.length c0_1)) (ds := []) #[false, false, false, false, false, false, false, false, false, false, false, false, false, false, false, false, false, false, false, false, false] zq26 rfl rfl ⟨(blk_cell BK507.out 0).trans rfl, (blk_cell BK507.out 1).trans rfl⟩ (fun hHeld => ?_); refine with_tabW spec_alLadder.tab1 spec_alLadder.bits1 (fun HT_ HW_ => ?_)
   generalize w7.drew = w8 at BK507 HB hHeld ⊢
   refine zT 0 3 HT_ HW_ hHeld ?_
   refine zO 1 4 HT_ fun K hK => ?_
   refine goes_ Try.func72 zq26 rfl #[.agg #[.int .i64 a0_0, .slice A0_1 l0_1.length c0_1]] (by rfl) rfl rfl zq1 ?_
   with_reducible refine (spec_laGood.calls k a0_0 _ _ l0_1 true _ ?side1 ?side2 A2.out).mono ?_
   (case side1 => exact zq21)
   (case side2 => exact HC0_1.out)
   rintro e w9 ⟨rfl, hb⟩
   refine ⟨_, rfl, ?_⟩
   replace BK507 := am (blk_below (pKq7 BK507) hb)
   replace HB := am (below_step (pBq7 HB) hb)
   (try clear hb)
   (try clear hb2)
   (try clear hk)
   (try clear hi)
   refine hK.out _ _ ⟨(blk_cell BK507.out 0).trans rfl, (blk_cell BK507.out 1).trans rfl⟩ (fun hHeld => ?_)
   clear hK K
   refine zN 4 ?_
   refine zU 2 5 HT_ ?_
   refine zU 3 6 HT_ ?_
   refine zT 4 7 HT_ HW_ hHeld ?_
   refine zU 5 8 HT_ ?_
   refine zU 6 9 HT_ ?_
   refine zU 7 10 HT_ ?_
   refine zU 8 11 HT_ ?_
   refine zU 11 14 HT_ ?_
   refine zU 13 16 HT_ ?_
   refine zT 9 12 HT_ HW_ hHeld ?_
   refine zU 10 13 HT_ ?_
   refine zT 12 15 HT_ HW_ hHeld ?_
   refine zT 14 17 HT_ HW_ hHeld ?_
   refine zO 15 18 HT_ fun K hK => ?_
   refine goes_ Try.func50 zq26 rfl #[.int .i64 a0_0, .slice A0_1 l0_1.length c0_1] (by rfl) rfl rfl zq1 ?_
   with_reducible refine (spec_laResult.calls k a0_0 _ _ l0_1 t509 _ ?side1 ?side2 A5.out).mono ?_
   (case side1 => exact zq21)
   (case side2 => exact HC0_1.out)
   rintro e w10 ⟨v510, rfl, ho0, hb⟩
   refine ⟨_, rfl, ?_⟩
   have HO511 := am (Kd.R_lower ho0 (below_size (pBq7 HB)))
   replace BK507 := am (blk_below (pKq7 BK507) hb)
   replace HB := am (below_step (pBq7 HB) hb)
   (try clear hb)
   (try clear hb2)
   (try clear hk)
   (try clear hi)
   (try clear ho0)
   obtain ⟨Ao11, co11, eo11⟩ := Kd.R_slice HO511.out
   (first | subst eo11 | (injection eo11 with f1_ f2_ f3_; have f4_ := f1_.symm; have f5_ := f3_.symm; clear f1_ f2_ f3_; subst f4_; subst f5_))
   refine hK.out _ _ ⟨(blk_cell BK507.out 0).trans rfl, (blk_cell BK507.out 1).trans rfl⟩ (fun hHeld => ?_)
   clear hK K
   refine zN 18 ?_
   refine zO 16 19 HT_ fun K hK => ?_
   refine goes_ Try.func52 zq26 rfl #[.slice Ao11 t509.length co11] (by rfl) rfl rfl zq1 ?_
   with_reducible refine (spec_lsInversions.calls k _ _ t509 t512 _ ?side1 ?side2 A6.out).mono ?_
   (case side1 => repeat (first | exact (Kd.R_reads' HO511.out).2.2 | (with_reducible refine Kd.C_alloc ?_ _) | (with_reducible refine Kd.C_drewN ?_ _) | (with_reducible refine Kd.C_drew ?_)))
   (case side2 => exact (Kd.R_reads' HO511.out).2.1)
   rintro e w12 ⟨v513, rfl, ho0, hb⟩
   refine ⟨_, rfl, ?_⟩
   have HO514 := am (Kd.S_lower (Kd.S_new' ho0 (Kd.R_lt (pRq7 HO511))) (below_size (pBq7 HB)))
   replace HO511 := am (Kd.R_below (pRq7 HO511) hb)
   replace BK507 := am (blk_below (pKq7 BK507) hb)
   replace HB := am (below_step (pBq7 HB) hb)
   (try clear hb)
   (try clear hb2)
   (try clear hk)
   (try clear hi)
   (try clear ho0)
   obtain ⟨Ao13, co13, eo13⟩ := Kd.S_slice HO514.out
   (first | subst eo13 | (injection eo13 with f1_ f2_ f3_; have f4_ := f1_.symm; have f5_ := f3_.symm; clear f1_ f2_ f3_; subst f4_; subst f5_))
   refine hK.out _ _ ⟨(blk_cell BK507.out 0).trans rfl, (blk_cell BK507.out 1).trans rfl⟩ (fun hHeld => ?_)
   clear hK K
   refine zN 19 ?_
   refine zU 17 20 HT_ ?_
   refine zU 18 21 HT_ ?_
   refine zU 19 22 HT_ ?_
   refine zU 20 2 HT_ ?_
   refine done_ (done_of HT_.out zq26) ?_
   try go_wp2
   go_ret
   exact ⟨zq11, zq10⟩
  ·rw [if_neg c4] at H
   have c4b0 : decide (a0_0 ≤ 6) = false := decide_eq_false c4
   clear c4
   obtain rfl := Option.some.inj H
   go_enter Try.func49, Try.ntmps49
   try go_wp2_with (first | ((with_reducible refine gate_dst (N := 1) rfl ?_); (try (refine gate_guard (by rfl) ?_; dsimp only)); refine zE 1 (cs := #[.int .i64 a0_0, .slice A0_1 l0_1.length c0_1]) 34 ?_; intro gb507 hg w14 hbox hb; have BK507 := am (hbox); have GW507 := am ((zq99 : w.heap.size ≤ gb507)); have GE507 := am ((zq99 : w.heap.size ≤ gb507)); replace HB := am (below_step (pBq7 HB) hb); clear hb hbox hg))
   replace BK507 := am (blk_drew BK507.out)
   replace HB := am (below_drew1 HB.out)
   refine start_ (n := 21) (S := fun w' => w'.cell? ⟨gb507, 0, none⟩ = some (.int .i64 a0_0) ∧ w'.cell? ⟨gb507, 1, none⟩ = some (.slice A0_1 l0_1.length c0_1)) (ds := []) #[false, false, false, false, false, false, false, false, false, false, false, false, false, false, false, false, false, false, false, false, false] zq26 rfl rfl ⟨(blk_cell BK507.out 0).trans rfl, (blk_cell BK507.out 1).trans rfl⟩ (fun hHeld => ?_); refine with_tabW spec_alLadder.tab1 spec_alLadder.bits1 (fun HT_ HW_ => ?_)
   generalize w14.drew = w15 at BK507 HB hHeld ⊢
   refine zT 0 3 HT_ HW_ hHeld ?_
   refine zO 1 4 HT_ fun K hK => ?_
   refine goes_ Try.func72 zq26 rfl #[.agg #[.int .i64 a0_0, .slice A0_1 l0_1.length c0_1]] (by rfl) rfl rfl zq1 ?_
   with_reducible refine (spec_laGood.calls k a0_0 _ _ l0_1 true _ ?side1 ?side2 A2.out).mono ?_
   (case side1 => exact zq21)
   (case side2 => exact HC0_1.out)
   rintro e w16 ⟨rfl, hb⟩
   refine ⟨_, rfl, ?_⟩
   replace BK507 := am (blk_below (pKq7 BK507) hb)
   replace HB := am (below_step (pBq7 HB) hb)
   (try clear hb)
   (try clear hb2)
   (try clear hk)
   (try clear hi)
   refine hK.out _ _ ⟨(blk_cell BK507.out 0).trans rfl, (blk_cell BK507.out 1).trans rfl⟩ (fun hHeld => ?_)
   clear hK K
   refine zN 4 ?_
   refine zU 2 5 HT_ ?_
   refine zU 3 6 HT_ ?_
   refine zT 4 7 HT_ HW_ hHeld ?_
   refine zU 5 8 HT_ ?_
   refine zU 6 9 HT_ ?_
   refine zU 7 10 HT_ ?_
   refine pure_ (i := 8) (N := some 11) (v := undef) (a' := ?_) #[true, true, true, true, true, true, true, true, true, false, false, false, false, false, false, false, false, false, false, false, false] rfl rfl (any_of HT_.out zq26) (fun _ _ _ h => h) (Or.inr ⟨by rfl, rfl⟩) ?_ ?_
   rotate_left
   ·simp only [Act.put, setIfInBounds_toArray, set_cons_zero, set_cons_succ, i64_w, i32_w]
    rfl
   refine pure_ (i := 9) (N := some 12) (v := undef) (a' := ?_) #[true, true, true, true, true, true, true, true, true, true, false, false, false, false, false, false, false, false, false, false, false] rfl rfl (any_of HT_.out zq26) (fun _ _ _ h => h) (Or.inr ⟨by rfl, rfl⟩) ?_ ?_
   rotate_left
   ·simp only [Act.put, setIfInBounds_toArray, set_cons_zero, set_cons_succ, i64_w, i32_w]
    rfl
   refine pure_ (i := 10) (N := some 13) (v := undef) (a' := ?_) #[true, true, true, true, true, true, true, true, true, true, true, false, false, false, false, false, false, false, false, false, false] rfl rfl (any_of HT_.out zq26) (fun _ _ _ h => h) (Or.inr ⟨by rfl, rfl⟩) ?_ ?_
   rotate_left
   ·simp only [Act.put, setIfInBounds_toArray, set_cons_zero, set_cons_succ, i64_w, i32_w]
    rfl
   refine pure_ (i := 11) (N := some 14) (v := undef) (a' := ?_) #[true, true, true, true, true, true, true, true, true, true, true, true, false, false, false, false, false, false, false, false, false] rfl rfl (any_of HT_.out zq26) (fun _ _ _ h => h) (Or.inr ⟨by rfl, rfl⟩) ?_ ?_
   rotate_left
   ·simp only [Act.put, setIfInBounds_toArray, set_cons_zero, set_cons_succ, i64_w, i32_w]
    rfl
   refine pure_ (i := 12) (N := some 15) (v := undef) (a' := ?_) #[true, true, true, true, true, true, true, true, true, true, true, true, true, false, false, false, false, false, false, false, false] rfl rfl (any_of HT_.out zq26) (fun _ _ _ h => h) (Or.inr ⟨by rfl, rfl⟩) ?_ ?_
   rotate_left
   ·simp only [Act.put, setIfInBounds_toArray, set_cons_zero, set_cons_succ, i64_w, i32_w]
    rfl
   refine pure_ (i := 13) (N := some 16) (v := undef) (a' := ?_) #[true, true, true, true, true, true, true, true, true, true, true, true, true, true, false, false, false, false, false, false, false] rfl rfl (any_of HT_.out zq26) (fun _ _ _ h => h) (Or.inr ⟨by rfl, rfl⟩) ?_ ?_
   rotate_left
   ·simp only [Act.put, setIfInBounds_toArray, set_cons_zero, set_cons_succ, i64_w, i32_w]
    rfl
   refine pure_ (i := 14) (N := some 17) (v := undef) (a' := ?_) #[true, true, true, true, true, true, true, true, true, true, true, true, true, true, true, false, false, false, false, false, false] rfl rfl (any_of HT_.out zq26) (fun _ _ _ h => h) (Or.inr ⟨by rfl, rfl⟩) ?_ ?_
   rotate_left
   ·simp only [Act.put, setIfInBounds_toArray, set_cons_zero, set_cons_succ, i64_w, i32_w]
    rfl
   refine pure_ (i := 15) (N := some 18) (v := undef) (a' := ?_) #[true, true, true, true, true, true, true, true, true, true, true, true, true, true, true, true, false, false, false, false, false] rfl rfl (any_of HT_.out zq26) (fun _ _ _ h => h) (Or.inr ⟨by rfl, rfl⟩) ?_ ?_
   rotate_left
   ·simp only [Act.put, setIfInBounds_toArray, set_cons_zero, set_cons_succ, i64_w, i32_w]
    rfl
   refine pure_ (i := 16) (N := some 19) (v := undef) (a' := ?_) #[true, true, true, true, true, true, true, true, true, true, true, true, true, true, true, true, true, false, false, false, false] rfl rfl (any_of HT_.out zq26) (fun _ _ _ h => h) (Or.inr ⟨by rfl, rfl⟩) ?_ ?_
   rotate_left
   ·simp only [Act.put, setIfInBounds_toArray, set_cons_zero, set_cons_succ, i64_w, i32_w]
    rfl
   refine pure_ (i := 17) (N := some 20) (v := undef) (a' := ?_) #[true, true, true, true, true, true, true, true, true, true, true, true, true, true, true, true, true, true, false, false, false] rfl rfl (any_of HT_.out zq26) (fun _ _ _ h => h) (Or.inr ⟨by rfl, rfl⟩) ?_ ?_
   rotate_left
   ·simp only [Act.put, setIfInBounds_toArray, set_cons_zero, set_cons_succ, i64_w, i32_w]
    rfl
   refine pure_ (i := 18) (N := some 21) (v := undef) (a' := ?_) #[true, true, true, true, true, true, true, true, true, true, true, true, true, true, true, true, true, true, true, false, false] rfl rfl (any_of HT_.out zq26) (fun _ _ _ h => h) (Or.inr ⟨by rfl, rfl⟩) ?_ ?_
   rotate_left
   ·simp only [Act.put, setIfInBounds_toArray, set_cons_zero, set_cons_succ, i64_w, i32_w]
    rfl
   refine zU 19 22 HT_ ?_
   refine zU 20 2 HT_ ?_
   refine done_ (done_of HT_.out zq26) ?_
   try go_wp2
   go_ret
   exact ⟨zq11, zq10⟩
 ·replace c3 := Bool.eq_false_iff.mpr c3
  subst c3
  rw [if_neg (show ¬ (false = true) by decide)] at H
  obtain rfl := Option.some.inj H
  go_enter Try.func49, Try.ntmps49
  try go_wp2_with (first | ((with_reducible refine gate_dst (N := 1) rfl ?_); (try (refine gate_guard (by rfl) ?_; dsimp only)); refine zE 1 (cs := #[.int .i64 a0_0, .slice A0_1 l0_1.length c0_1]) 34 ?_; intro gb507 hg w17 hbox hb; have BK507 := am (hbox); have GW507 := am ((zq99 : w.heap.size ≤ gb507)); have GE507 := am ((zq99 : w.heap.size ≤ gb507)); replace HB := am (below_step (pBq7 HB) hb); clear hb hbox hg))
  replace BK507 := am (blk_drew BK507.out)
  replace HB := am (below_drew1 HB.out)
  refine start_ (n := 21) (S := fun w' => w'.cell? ⟨gb507, 0, none⟩ = some (.int .i64 a0_0) ∧ w'.cell? ⟨gb507, 1, none⟩ = some (.slice A0_1 l0_1.length c0_1)) (ds := []) #[false, false, false, false, false, false, false, false, false, false, false, false, false, false, false, false, false, false, false, false, false] zq26 rfl rfl ⟨(blk_cell BK507.out 0).trans rfl, (blk_cell BK507.out 1).trans rfl⟩ (fun hHeld => ?_); refine with_tabW spec_alLadder.tab1 spec_alLadder.bits1 (fun HT_ HW_ => ?_)
  generalize w17.drew = w18 at BK507 HB hHeld ⊢
  refine zT 0 3 HT_ HW_ hHeld ?_
  refine zO 1 4 HT_ fun K hK => ?_
  refine goes_ Try.func72 zq26 rfl #[.agg #[.int .i64 a0_0, .slice A0_1 l0_1.length c0_1]] (by rfl) rfl rfl zq1 ?_
  with_reducible refine (spec_laGood.calls k a0_0 _ _ l0_1 false _ ?side1 ?side2 A2.out).mono ?_
  (case side1 => exact zq21)
  (case side2 => exact HC0_1.out)
  rintro e w19 ⟨rfl, hb⟩
  refine ⟨_, rfl, ?_⟩
  replace BK507 := am (blk_below (pKq7 BK507) hb)
  replace HB := am (below_step (pBq7 HB) hb)
  (try clear hb)
  (try clear hb2)
  (try clear hk)
  (try clear hi)
  refine hK.out _ _ ⟨(blk_cell BK507.out 0).trans rfl, (blk_cell BK507.out 1).trans rfl⟩ (fun hHeld => ?_)
  clear hK K
  refine zN 4 ?_
  refine zU 2 5 HT_ ?_
  refine pure_ (i := 3) (N := some 6) (v := undef) (a' := ?_) #[true, true, true, true, false, false, false, false, false, false, false, false, false, false, false, false, false, false, false, false, false] rfl rfl (any_of HT_.out zq26) (fun _ _ _ h => h) (Or.inr ⟨by rfl, rfl⟩) ?_ ?_
  rotate_left
  ·simp only [Act.put, setIfInBounds_toArray, set_cons_zero, set_cons_succ, i64_w, i32_w]
   rfl
  refine pure_ (i := 4) (N := some 7) (v := undef) (a' := ?_) #[true, true, true, true, true, false, false, false, false, false, false, false, false, false, false, false, false, false, false, false, false] rfl rfl (any_of HT_.out zq26) (fun _ _ _ h => h) (Or.inr ⟨by rfl, rfl⟩) ?_ ?_
  rotate_left
  ·simp only [Act.put, setIfInBounds_toArray, set_cons_zero, set_cons_succ, i64_w, i32_w]
   rfl
  refine pure_ (i := 5) (N := some 8) (v := undef) (a' := ?_) #[true, true, true, true, true, true, false, false, false, false, false, false, false, false, false, false, false, false, false, false, false] rfl rfl (any_of HT_.out zq26) (fun _ _ _ h => h) (Or.inr ⟨by rfl, rfl⟩) ?_ ?_
  rotate_left
  ·simp only [Act.put, setIfInBounds_toArray, set_cons_zero, set_cons_succ, i64_w, i32_w]
   rfl
  refine zU 6 9 HT_ ?_
  refine zU 7 10 HT_ ?_
  refine pure_ (i := 8) (N := some 11) (v := undef) (a' := ?_) #[true, true, true, true, true, true, true, true, true, false, false, false, false, false, false, false, false, false, false, false, false] rfl rfl (any_of HT_.out zq26) (fun _ _ _ h => h) (Or.inr ⟨by rfl, rfl⟩) ?_ ?_
  rotate_left
  ·simp only [Act.put, setIfInBounds_toArray, set_cons_zero, set_cons_succ, i64_w, i32_w]
   rfl
  refine pure_ (i := 9) (N := some 12) (v := undef) (a' := ?_) #[true, true, true, true, true, true, true, true, true, true, false, false, false, false, false, false, false, false, false, false, false] rfl rfl (any_of HT_.out zq26) (fun _ _ _ h => h) (Or.inr ⟨by rfl, rfl⟩) ?_ ?_
  rotate_left
  ·simp only [Act.put, setIfInBounds_toArray, set_cons_zero, set_cons_succ, i64_w, i32_w]
   rfl
  refine pure_ (i := 10) (N := some 13) (v := undef) (a' := ?_) #[true, true, true, true, true, true, true, true, true, true, true, false, false, false, false, false, false, false, false, false, false] rfl rfl (any_of HT_.out zq26) (fun _ _ _ h => h) (Or.inr ⟨by rfl, rfl⟩) ?_ ?_
  rotate_left
  ·simp only [Act.put, setIfInBounds_toArray, set_cons_zero, set_cons_succ, i64_w, i32_w]
   rfl
  refine pure_ (i := 11) (N := some 14) (v := undef) (a' := ?_) #[true, true, true, true, true, true, true, true, true, true, true, true, false, false, false, false, false, false, false, false, false] rfl rfl (any_of HT_.out zq26) (fun _ _ _ h => h) (Or.inr ⟨by rfl, rfl⟩) ?_ ?_
  rotate_left
  ·simp only [Act.put, setIfInBounds_toArray, set_cons_zero, set_cons_succ, i64_w, i32_w]
   rfl
  refine pure_ (i := 12) (N := some 15) (v := undef) (a' := ?_) #[true, true, true, true, true, true, true, true, true, true, true, true, true, false, false, false, false, false, false, false, false] rfl rfl (any_of HT_.out zq26) (fun _ _ _ h => h) (Or.inr ⟨by rfl, rfl⟩) ?_ ?_
  rotate_left
  ·simp only [Act.put, setIfInBounds_toArray, set_cons_zero, set_cons_succ, i64_w, i32_w]
   rfl
  refine pure_ (i := 13) (N := some 16) (v := undef) (a' := ?_) #[true, true, true, true, true, true, true, true, true, true, true, true, true, true, false, false, false, false, false, false, false] rfl rfl (any_of HT_.out zq26) (fun _ _ _ h => h) (Or.inr ⟨by rfl, rfl⟩) ?_ ?_
  rotate_left
  ·simp only [Act.put, setIfInBounds_toArray, set_cons_zero, set_cons_succ, i64_w, i32_w]
   rfl
  refine pure_ (i := 14) (N := some 17) (v := undef) (a' := ?_) #[true, true, true, true, true, true, true, true, true, true, true, true, true, true, true, false, false, false, false, false, false] rfl rfl (any_of HT_.out zq26) (fun _ _ _ h => h) (Or.inr ⟨by rfl, rfl⟩) ?_ ?_
  rotate_left
  ·simp only [Act.put, setIfInBounds_toArray, set_cons_zero, set_cons_succ, i64_w, i32_w]
   rfl
  refine pure_ (i := 15) (N := some 18) (v := undef) (a' := ?_) #[true, true, true, true, true, true, true, true, true, true, true, true, true, true, true, true, false, false, false, false, false] rfl rfl (any_of HT_.out zq26) (fun _ _ _ h => h) (Or.inr ⟨by rfl, rfl⟩) ?_ ?_
  rotate_left
  ·simp only [Act.put, setIfInBounds_toArray, set_cons_zero, set_cons_succ, i64_w, i32_w]
   rfl
  refine pure_ (i := 16) (N := some 19) (v := undef) (a' := ?_) #[true, true, true, true, true, true, true, true, true, true, true, true, true, true, true, true, true, false, false, false, false] rfl rfl (any_of HT_.out zq26) (fun _ _ _ h => h) (Or.inr ⟨by rfl, rfl⟩) ?_ ?_
  rotate_left
  ·simp only [Act.put, setIfInBounds_toArray, set_cons_zero, set_cons_succ, i64_w, i32_w]
   rfl
  refine pure_ (i := 17) (N := some 20) (v := undef) (a' := ?_) #[true, true, true, true, true, true, true, true, true, true, true, true, true, true, true, true, true, true, false, false, false] rfl rfl (any_of HT_.out zq26) (fun _ _ _ h => h) (Or.inr ⟨by rfl, rfl⟩) ?_ ?_
  rotate_left
  ·simp only [Act.put, setIfInBounds_toArray, set_cons_zero, set_cons_succ, i64_w, i32_w]
   rfl
  refine pure_ (i := 18) (N := some 21) (v := undef) (a' := ?_) #[true, true, true, true, true, true, true, true, true, true, true, true, true, true, true, true, true, true, true, false, false] rfl rfl (any_of HT_.out zq26) (fun _ _ _ h => h) (Or.inr ⟨by rfl, rfl⟩) ?_ ?_
  rotate_left
  ·simp only [Act.put, setIfInBounds_toArray, set_cons_zero, set_cons_succ, i64_w, i32_w]
   rfl
  refine zU 19 22 HT_ ?_
  refine zU 20 2 HT_ ?_
  refine done_ (done_of HT_.out zq26) ?_
  try go_wp2
  go_ret
  exact ⟨zq11, zq10⟩
/-! ### spec_RankOfLeast: function 23 -/
open Classical in
noncomputable def spec_RankOfLeast.ev {α : Type} (g : Nat → Option α) : Option α := if h : ∃ k r, g k = some r then g h.choose else none
theorem spec_RankOfLeast.ev_some {α : Type} {g : Nat → Option α} {r : α} (h : spec_RankOfLeast.ev g = some r) : ∃ k, g k = some r := by
 unfold spec_RankOfLeast.ev at h
 split at h
 ·exact ⟨_, h⟩
 ·cases h
def spec_RankOfLeast.ri (g : List Int → Option Int) (p : List Int) : Nat → Nat → Int → Option Int
 | 0, _, s => some s
 | m + 1, i, s => if i + 1 < p.length ∧ p.length ≤ 8 then (if rd p (i : Int) > rd p ((i : Int) + 1) then (spec_alSwap.f p (i : Int)).bind fun q => (g q).bind fun v => spec_RankOfLeast.ri g p m (i + 1) (wrap64 (s + v)) else spec_RankOfLeast.ri g p m (i + 1) s) else none
def spec_RankOfLeast.ro (g : List Int → Option Int) : List Int → List Int → Int → Option Int
 | [], _, s => some s
 | r :: rs, p, s => if 0 ≤ r then (spec_RankOfLeast.ri g p r.toNat 0 s).bind fun s' => (spec_alSwap.f p r).bind fun q => spec_RankOfLeast.ro g rs q s' else none
noncomputable def spec_RankOfLeast.f (a0 : Int) (l0 : List Int) : Option (Int × Bool) := (spec_RankOfLeast.ev fun k => spec_alLadder.f k a0 l0).bind fun t => if t = true then (if 0 ≤ a0 ∧ a0 ≤ 8 then (spec_RankOfLeast.ev fun k => spec_laResult.f k a0 l0).bind fun p => (spec_RankOfLeast.ro (spec_alCounter_count.g (spec_alNew.fc a0.toNat) a0.toNat 16) l0 p 0).bind fun s => some (s, true) else none) else some (0, false)
theorem spec_RankOfLeast.calls (a0_0 : Int) (A0_1 : Option Addr) (c0_1 : Nat) (l0_1 : List Int) (r1 : Int) (r2 : Bool) (w : World) (hr0_1 : Kd.C (Kd.int .i64) w A0_1 l0_1.length l0_1) (hc0_1 : l0_1.length ≤ c0_1) (h : spec_RankOfLeast.f a0_0 l0_1 = some (r1, r2)) :
  Calls Try.prog 23 #[.agg #[.int .i64 a0_0, .slice A0_1 l0_1.length c0_1]] w fun e w' => e = .returned (.tuple #[.int .i64 r1, .bool r2]) ∧ Below w.heap.size w w' := by
 have HR := am hr0_1
 have HC := am hc0_1
 have hu26 := Try.underlying34
 have hu27 := Try.underlying78
 clear hr0_1 hc0_1
 unfold spec_RankOfLeast.f at h
 obtain ⟨t, ht, h⟩ := Option.bind_eq_some_iff.1 h
 obtain ⟨kt, ht⟩ := spec_RankOfLeast.ev_some ht
 have HT := am ht
 clear ht
 cases t with
 | false =>
  rw [if_neg zq36] at h
  simp only [Option.some.injEq, Prod.mk.injEq] at h
  obtain ⟨rfl, rfl⟩ := h
  go_enter Try.func23, Try.ntmps23
  go_wp2_with (go_at_call 49; (with_reducible refine (spec_alLadder.calls kt a0_0 A0_1 c0_1 l0_1 false _ ?side1 HC.out HT.out).mono ?_); (case side1 => exact zq106); rintro e w1 ⟨rfl, hb⟩; have HB := am (below_step (w := w) zq22 hb); clear hb)
  go_ret2
  exact ⟨rfl, HB.out⟩
 | true =>
  rw [if_pos rfl] at h
  split at h
  ·rename_i hn
   obtain ⟨hn0, hn8⟩ := hn
   obtain ⟨n, rfl⟩ := Int.eq_ofNat_of_zero_le hn0
   rw [Int.toNat_natCast] at h
   obtain ⟨p0, hp0, h⟩ := Option.bind_eq_some_iff.1 h
   obtain ⟨kp, hp0⟩ := spec_RankOfLeast.ev_some hp0
   obtain ⟨s1, hro, h⟩ := Option.bind_eq_some_iff.1 h
   simp only [Option.some.injEq, Prod.mk.injEq] at h
   obtain ⟨rfl, rfl⟩ := h
   have HP0 := am hp0
   have HRO := am hro
   have H8 := am (show n ≤ 8 by omega)
   clear hp0 hro hn0 hn8
   go_enter Try.func23, Try.ntmps23
   go_wp2_with (first | (go_at_call 49; (with_reducible refine (spec_alLadder.calls kt (n : Int) A0_1 c0_1 l0_1 true _ ?side1 HC.out HT.out).mono ?_); (case side1 => exact zq106); rintro e w1 ⟨rfl, hb⟩; have hcell0 : w1.cell? ⟨w.heap.size, 0, none⟩ = some (.int .i64 (n : Int)) := (hb.cell (p := ⟨w.heap.size, 0, none⟩) zq66).trans zq66; have hcell1 : w1.cell? ⟨w.heap.size, 1, none⟩ = some (.slice A0_1 l0_1.length c0_1) := (hb.cell (p := ⟨w.heap.size, 1, none⟩) zq66).trans zq66; have HB := am (below_step (w := w) zq22 hb); clear hb) | (go_at_call 50; (with_reducible refine (spec_laResult.calls kp (n : Int) A0_1 c0_1 l0_1 p0 _ ?side1 HC.out HP0.out).mono ?_); (case side1 => exact zq165); rintro e w2 ⟨v2, rfl, ho, hb_⟩; have hb := below_step (w := w1) zq22 hb_; have hd0 : w2.cell? ⟨w.heap.size, 0, none⟩ = some (.int .i64 (n : Int)) := (hb.cell (p := ⟨w.heap.size, 0, none⟩) (World.block_lt_of_cell? _ _ hcell0)).trans hcell0; have hd1 : w2.cell? ⟨w.heap.size, 1, none⟩ = some (.slice A0_1 l0_1.length c0_1) := (hb.cell (p := ⟨w.heap.size, 1, none⟩) (World.block_lt_of_cell? _ _ hcell1)).trans hcell1; have HB2 := am (below_step HB.out hb); have HP := am (Kd.R_lower (Kd.R_mono (Kd.R_bound ho) (fun k_ h_ => h_.2.2.1)) (below_size (w := w) (show Below w.heap.size w _ from zq80))); clear hb hb_ ho hcell0 hcell1; obtain ⟨A2, c2, e2⟩ := Kd.R_slice HP.out; subst e2) | (go_at_call 34; (refine (spec_alNew.calls n H8.out _).mono ?_); rintro e w3 ⟨v3, rfl, hm, hb_⟩; obtain ⟨B, G, rfl, hB, hG, hM⟩ := spec_alCounter_count.Mem.made hm; have hb := below_step (w := w2) zq22 hb_; have hd2 : w3.cell? ⟨w.heap.size, 1, none⟩ = some (.slice A0_1 l0_1.length c0_1) := (hb.cell (p := ⟨w.heap.size, 1, none⟩) (World.block_lt_of_cell? _ _ hd1)).trans hd1; have HG2 := am (show w2.heap.size ≤ G from hG); have HM3 := am (hM.lower (base' := w.heap.size) (Nat.le_trans HB2.out.size (Nat.le_refl _))); have HB3 := am (below_step HB2.out hb); have HP3 := am (Kd.R_mono (Kd.R_below HP.out hb) (fun k_ h_ => (show k_ ≠ G from fun e_ => by have h1_ := HG2.out; omega))); clear hb hb_ hm hB hG hM))
   have HLEN := am (show l0_1.length ≤ 9223372036854775807 from HR.out.2.1)
   clear hd0 hd2 hd1 HB HB2 HP HG2
   go_loopg [4, 6, 24] l0_1.length (fun gg v4 v6 v24 w' => ∃ (i : Nat) (s : Int) (p : List Int) (A : Option Addr) (c : Nat), v4 = .slice A p.length c ∧ v6 = .int .i64 s ∧ v24 = .int .i64 i ∧ i ≤ l0_1.length ∧ l0_1.length - i ≤ gg ∧ Aside0 (spec_RankOfLeast.ro (spec_alCounter_count.g (spec_alNew.fc n) n 16) (l0_1.drop i) p s = some s1) ∧ Aside0 (Kd.R (Kd.int .i64) 3 w' w.heap.size (fun k_ => k_ ≠ G) (.slice A p.length c) p) ∧ Aside0 (spec_alCounter_count.Mem w.heap.size w' B G (spec_alNew.fc n) n) ∧ Aside0 (Below w.heap.size w w'))
   case atStart => exact ⟨0, 0, p0, A2, c2, rfl, rfl, rfl, Nat.zero_le _, zq62, ⟨by rw [List.drop_zero]; exact HRO.out⟩, HP3, HM3, HB3⟩
   case round =>
    clear HRO HP3 HM3 HB3
    obtain ⟨i, s, p, A, c, rfl, rfl, rfl, hi, hgk, HRO, HP, HM, HB⟩ := hrel
    by_cases hlt : i < l0_1.length
    ·have hltz : (i : Int) < (l0_1.length : Int) := zq62
     have hro := HRO.out
     have hdr : l0_1.drop i = rd l0_1 (i : Int) :: l0_1.drop (i + 1) := by
      have hr_ : rd l0_1 (i : Int) = l0_1[i] := by
       show l0_1.getD ((i : Int)).toNat 0 = _
       rw [Int.toNat_natCast, List.getD_eq_getElem?_getD, List.getElem?_eq_getElem hlt]; rfl
      rw [hr_]; exact List.drop_eq_getElem_cons hlt
     rw [hdr, spec_RankOfLeast.ro] at hro
     obtain ⟨ad, ead, hx0⟩ := Kd.at_int (Kd.C_below HR.out HB.out) (i : Int) (Int.natCast_nonneg i) hltz
     cases ead
     obtain ⟨x, hx⟩ : ∃ x, x = rd l0_1 (i : Int) := ⟨_, rfl⟩
     rw [← hx] at hx0 hro
     rw [Int.toNat_natCast] at hx0
     split at hro
     ·rename_i hx00
      obtain ⟨s', hri, hro⟩ := Option.bind_eq_some_iff.1 hro
      obtain ⟨q, hq, hro⟩ := Option.bind_eq_some_iff.1 hro
      have HRI := am hri
      have HQ := am hq
      have HRO2 := am hro
      have HX0 := am hx00
      clear HRO hro hri hq hdr hx hx00
      go_wp2
      clear hx0
      go_loopg [6, 9] x.toNat (fun gg v6 v9 w' => ∃ (m : Nat) (x9 s : Int), v6 = .int .i64 s ∧ v9 = .int .i64 x9 ∧ Aside0 (x9 = (m : Int)) ∧ m ≤ x.toNat ∧ x.toNat - m ≤ gg ∧ Aside0 (spec_RankOfLeast.ri (spec_alCounter_count.g (spec_alNew.fc n) n 16) p (x.toNat - m) m s = some s') ∧ Aside0 (Kd.R (Kd.int .i64) 3 w' w.heap.size (fun k_ => k_ ≠ G) (.slice A p.length c) p) ∧ Aside0 (spec_alCounter_count.Mem w.heap.size w' B G (spec_alNew.fc n) n) ∧ Aside0 (Below w.heap.size w w'))
      case atStart => exact ⟨0, 0, s, rfl, rfl, ⟨rfl⟩, Nat.zero_le _, zq62, ⟨HRI.out⟩, ⟨zq148⟩, ⟨HM.out.below zq22⟩, ⟨zq80⟩⟩
      case round =>
       clear HRI HP HM HB
       obtain ⟨m, x9, s2, rfl, rfl, HX9, hm, hgk2, HRI, HP, HM, HB⟩ := hrel
       by_cases hlt2 : m < x.toNat
       ·have hri := HRI.out
        rw [show x.toNat - m = (x.toNat - (m + 1)) + 1 by omega, spec_RankOfLeast.ri] at hri
        split at hri
        ·rename_i hm8
         obtain ⟨hm1, hp8⟩ := hm8
         obtain ⟨ji, hji⟩ : ∃ j_ : Int, wrap64 (x9 + 1) = j_ := ⟨_, rfl⟩
         have hjv : ji = (m : Int) + 1 := by have h1 := HX9.out; rw [← hji]; unfold wrap64; omega
         have hjiw : (IntKind.i64.wrap (x9 + 1)) = ji := (i64_w _).trans hji
         have HJV := am hjv
         have hcx : decide (x9 < x) = true := decide_eq_true (by have h1 := HX9.out; have h2 := HX0.out; omega)
         have p171 : 0 ≤ x9 := by have := HX9.out; omega
         have q171 : x9 < (p.length : Int) := by have := HX9.out; omega
         have p172 : 0 ≤ ji := zq62
         have q172 : ji < (p.length : Int) := zq62
         obtain ⟨ad1, ead1, hx0⟩ := Kd.at_int (Kd.R_reads' HP.out).2.2 x9 p171 q171
         cases ead1
         obtain ⟨ad2, ead2, hy0⟩ := Kd.at_int (Kd.R_reads' HP.out).2.2 ji p172 q172
         obtain rfl : ad1 = ad2 := (by injection ead2)
         obtain ⟨z, hz⟩ : ∃ z, z = rd p x9 := ⟨_, rfl⟩
         obtain ⟨y, hy⟩ : ∃ y, y = rd p ji := ⟨_, rfl⟩
         rw [← hz] at hx0
         rw [← hy] at hy0
         rw [show (m : Int) + 1 = ji from HJV.out.symm, show ((m : Nat) : Int) = x9 from HX9.out.symm, ← hz, ← hy] at hri
         clear hz hy HRI ead2 hjv hm1 hp8
         replace p171 := eq_true p171
         replace q171 := eq_true q171
         replace p172 := eq_true p172
         replace q172 := eq_true q172
         by_cases hc : z > y
         ·rw [if_pos hc] at hri
          obtain ⟨q2, hq2, hri⟩ := Option.bind_eq_some_iff.1 hri
          obtain ⟨v2, hv2, hri⟩ := Option.bind_eq_some_iff.1 hri
          have HQ2 := am hq2
          have HV2 := am hv2
          have HRI := am hri
          have hc0 : decide (y < z) = true := decide_eq_true hc
          clear hq2 hv2 hri hc
          go_wp2_with (first | (go_at_call 47; (with_reducible refine (spec_alSwap.calls _ _ p x9 q2 _ ?side1 ?side2 HQ2.out).mono ?_); (case side1 => exact zq52); (case side2 => exact (Kd.R_reads' HP.out).2.1); rintro e w4 ⟨v4, rfl, ho4, hb4_⟩; have hb4 := below_step (w := wr) zq22 hb4_; clear hb4_; have HQR := am (Kd.R_mono (Kd.R_bound ho4) (fun k_ h_ => (show k_ ≠ G from fun e_ => by have h1_ := (HM.out.lt (spec_alNew.fc_pos _)).2; have h2_ := h_.2.1; exact absurd (Nat.lt_of_lt_of_le h1_ h2_) zq146))); have HB4 := am (below_step HB.out hb4); have HM4 := am (HM.out.below hb4); have HP4 := am (Kd.R_below HP.out hb4); clear hb4 ho4; obtain ⟨A4, c4, e4⟩ := Kd.R_slice HQR.out; subst e4) | (go_at_call 35; (with_reducible refine (spec_alCounter_count.calls_g _ _ 16 B G _ _ q2 v2 w _ ?side1 ?side2 ?side3 ?side4 HV2.out).mono ?_); (case side1 => exact HB4.out); (case side2 => exact HM4.out); (case side3 => exact zq113); (case side4 => exact zq152); rintro e w5 ⟨rfl, hm5, hb5, hk5⟩; have HM5 := am hm5; have HB5 := am hb5; have HP5 := am (Kd.R_kept HP4.out hk5 (fun _ h1_ h2_ => h1_ h2_)); clear hm5 hb5 hk5))
          repeat (go_quiet (first | (go_at_call 47; (with_reducible refine (spec_alSwap.calls _ _ p x9 q2 _ ?side1 ?side2 HQ2.out).mono ?_); (case side1 => exact zq52); (case side2 => exact (Kd.R_reads' HP.out).2.1); rintro e w4 ⟨v4, rfl, ho4, hb4_⟩; have hb4 := below_step (w := wr) zq22 hb4_; clear hb4_; have HQR := am (Kd.R_mono (Kd.R_bound ho4) (fun k_ h_ => (show k_ ≠ G from fun e_ => by have h1_ := (HM.out.lt (spec_alNew.fc_pos _)).2; have h2_ := h_.2.1; exact absurd (Nat.lt_of_lt_of_le h1_ h2_) zq146))); have HB4 := am (below_step HB.out hb4); have HM4 := am (HM.out.below hb4); have HP4 := am (Kd.R_below HP.out hb4); clear hb4 ho4; obtain ⟨A4, c4, e4⟩ := Kd.R_slice HQR.out; subst e4) | (go_at_call 35; (with_reducible refine (spec_alCounter_count.calls_g _ _ 16 B G _ _ q2 v2 w _ ?side1 ?side2 ?side3 ?side4 HV2.out).mono ?_); (case side1 => exact HB4.out); (case side2 => exact HM4.out); (case side3 => exact zq113); (case side4 => exact zq152); rintro e w5 ⟨rfl, hm5, hb5, hk5⟩; have HM5 := am hm5; have HB5 := am hb5; have HP5 := am (Kd.R_kept HP4.out hk5 (fun _ h1_ h2_ => h1_ h2_)); clear hm5 hb5 hk5)); try go_wp2_with (first | (go_at_call 47; (with_reducible refine (spec_alSwap.calls _ _ p x9 q2 _ ?side1 ?side2 HQ2.out).mono ?_); (case side1 => exact zq52); (case side2 => exact (Kd.R_reads' HP.out).2.1); rintro e w4 ⟨v4, rfl, ho4, hb4_⟩; have hb4 := below_step (w := wr) zq22 hb4_; clear hb4_; have HQR := am (Kd.R_mono (Kd.R_bound ho4) (fun k_ h_ => (show k_ ≠ G from fun e_ => by have h1_ := (HM.out.lt (spec_alNew.fc_pos _)).2; have h2_ := h_.2.1; exact absurd (Nat.lt_of_lt_of_le h1_ h2_) zq146))); have HB4 := am (below_step HB.out hb4); have HM4 := am (HM.out.below hb4); have HP4 := am (Kd.R_below HP.out hb4); clear hb4 ho4; obtain ⟨A4, c4, e4⟩ := Kd.R_slice HQR.out; subst e4) | (go_at_call 35; (with_reducible refine (spec_alCounter_count.calls_g _ _ 16 B G _ _ q2 v2 w _ ?side1 ?side2 ?side3 ?side4 HV2.out).mono ?_); (case side1 => exact HB4.out); (case side2 => exact HM4.out); (case side3 => exact zq113); (case side4 => exact zq152); rintro e w5 ⟨rfl, hm5, hb5, hk5⟩; have HM5 := am hm5; have HB5 := am hb5; have HP5 := am (Kd.R_kept HP4.out hk5 (fun _ h1_ h2_ => h1_ h2_)); clear hm5 hb5 hk5)))
          go_roundg (x.toNat - (m + 1))
          case measure => omega
          case rel => exact ⟨m + 1, ji, wrap64 (s2 + v2), zq177, (by first | rfl | (simp [*]; done)), ⟨zq179⟩, zq62, zq62, HRI, HP5, HM5, HB5⟩
         ·rw [if_neg hc] at hri
          have HRI := am hri
          have hc0 : decide (y < z) = false := decide_eq_false hc
          clear hri hc
          go_wp2
          repeat (go_quiet (fail); try go_wp2)
          go_roundg (x.toNat - (m + 1))
          case measure => omega
          case rel => exact ⟨m + 1, ji, s2, rfl, (by first | rfl | (simp [*]; done)), ⟨zq179⟩, zq62, zq62, HRI, ⟨zq148⟩, ⟨HM.out.below zq22⟩, ⟨zq80⟩⟩
        ·cases hri
       ·have hri := HRI.out
        rw [show x.toNat - m = 0 by omega, spec_RankOfLeast.ri] at hri
        obtain rfl := Option.some.inj hri
        have hcx : decide (x9 < x) = false := decide_eq_false (by have h1 := HX9.out; have h2 := HX0.out; omega)
        clear hri HRI
        go_wp2_with (go_at_call 47; (with_reducible refine (spec_alSwap.calls _ _ p x q _ ?side1 ?side2 HQ.out).mono ?_); (case side1 => exact zq52); (case side2 => exact (Kd.R_reads' HP.out).2.1); rintro e w6 ⟨v6, rfl, ho6, hb6_⟩; have hb6 := below_step (w := wr) zq22 hb6_; clear hb6_; have HP6 := am (Kd.R_lower (Kd.R_mono (Kd.R_bound ho6) (fun k_ h_ => (show k_ ≠ G from fun e_ => by have h1_ := (HM.out.lt (spec_alNew.fc_pos _)).2; have h2_ := h_.2.1; exact absurd (Nat.lt_of_lt_of_le h1_ h2_) zq146))) (show w.heap.size ≤ _ from HB.out.size)); have HB6 := am (below_step HB.out hb6); have HM6 := am (HM.out.below hb6); clear hb6 ho6; obtain ⟨A6, c6, e6⟩ := Kd.R_slice HP6.out; subst e6)
        go_roundg (l0_1.length - (i + 1))
        case measure => omega
        case rel => exact ⟨i + 1, s2, q, A6, c6, rfl, rfl, (by have := HLEN.out; first | go_num | (congr 1; unfold wrap64; omega)), zq62, zq62, HRO2, HP6, HM6, HB6⟩
     ·cases hro
    ·have hltz : ¬ (i : Int) < (l0_1.length : Int) := zq62
     have hro := HRO.out
     rw [List.drop_eq_nil_of_le zq62, spec_RankOfLeast.ro] at hro
     obtain rfl := Option.some.inj hro
     clear hro HRO
     go_wp2
     go_ret2
     exact ⟨rfl, zq80⟩
  ·cases h
/-! ### spec_DrawLeastOfRank: function 24 -/
def spec_DrawLeastOfRank.f (k : Nat) (l0 : List Int) : Option (List Int × Int) := (spec_l1Cur_few.f k l0 0 0 6).bind fun bt516 => ((spec_l1Cur_pick.f l0 bt516.2.1 bt516.2.2 20).bind fun bt521 => ((spec_l1Cur_among.f l0 bt521.2.1 bt521.2.2 (([0, 1, 2, 5, 15, 100, (-1), 4611686018427387904, bt521.1] : List Int))).bind fun bt527 => (some (bt516.1, bt527.1))))
theorem spec_DrawLeastOfRank.mono : ∀ a0 k, LeO (spec_DrawLeastOfRank.f k a0) (spec_DrawLeastOfRank.f (k + 1) a0) := by
 intro a0 k
 unfold spec_DrawLeastOfRank.f
 repeat' first | (with_reducible first | exact spec_l1Cur_few.mono _ _ _ _ _ | exact LeO.refl _ | exact LeO.none _ | refine LeO.ite ?_ ?_ | refine LeO.bind ?_ (fun _ => ?_))
theorem spec_DrawLeastOfRank.calls (k : Nat) (A0 : Option Addr) (c0 : Nat) (l0 : List Int) (r1 : List Int) (r2 : Int) (w : World) (hr0 : Kd.C (Kd.int .u8) w A0 l0.length l0) (hc0 : l0.length ≤ c0) (h : spec_DrawLeastOfRank.f k l0 = some (r1, r2)) :
  Calls Try.prog 24 #[.slice A0 l0.length c0] w fun e w' => ∃ v0_ : Value, e = .returned (.tuple #[v0_, .int .i64 r2]) ∧ Kd.R (Kd.int .i64) 3 w' w.heap.size (fun _ => True) v0_ r1 ∧ Below w.heap.size w w' := by
 have hu51 := Try.underlying51
 have HR0 := am hr0
 have HC0 := am hc0
 clear hr0 hc0
 have HB := am (Below.refl w.heap.size w)
 have H : ((spec_l1Cur_few.f k l0 0 0 6).bind fun bt516 => ((spec_l1Cur_pick.f l0 bt516.2.1 bt516.2.2 20).bind fun bt521 => ((spec_l1Cur_among.f l0 bt521.2.1 bt521.2.2 (([0, 1, 2, 5, 15, 100, (-1), 4611686018427387904, bt521.1] : List Int))).bind fun bt527 => (some (bt516.1, bt527.1))))) = some (r1, r2) := h
 clear h
 replace H := Option.bind_eq_some_iff.mp H
 obtain ⟨⟨t516, t519, t520⟩, A20, H⟩ := H
 (try dsimp only at H)
 have A2 := am A20
 clear A20
 replace H := Option.bind_eq_some_iff.mp H
 obtain ⟨⟨t521, t522, t523⟩, A30, H⟩ := H
 (try dsimp only at H)
 have A3 := am A30
 clear A30
 obtain ⟨y524, hy524⟩ : ∃ y_ : List Int, y_ = (([0, 1, 2, 5, 15, 100, (-1), 4611686018427387904, t521] : List Int)) := ⟨_, rfl⟩
 replace H : ((spec_l1Cur_among.f l0 t522 t523 y524).bind fun bt527 => (some (t516, bt527.1))) = some (r1, r2) := by first | (rw [hy524]; exact zH) | exact zH
 have Ny524 := am hy524
 clear hy524
 replace H := Option.bind_eq_some_iff.mp H
 obtain ⟨⟨t527, t528, t529⟩, A40, H⟩ := H
 (try dsimp only at H)
 have A4 := am A40
 clear A40
 simp only [Option.some.injEq, Prod.mk.injEq] at H
 obtain ⟨rfl, rfl⟩ := H
 go_enter Try.func24, Try.ntmps24
 go_wp2_with (first | ((with_reducible refine gate_dst (N := 7) rfl ?_); refine zE 7 (cs := #[.slice A0 l0.length c0, .int .i64 0, .int .u64 0]) 51 ?_; intro gb515 hg w5 hbox hb; have BK515 := am (hbox); have GW515 := am ((zq99 : w.heap.size ≤ gb515)); have GE515 := am ((zq99 : w.heap.size ≤ gb515)); replace HB := am (below_step (pBq7 HB) hb); clear hb hbox hg) | ((with_reducible refine gate_callee (f := 27) rfl ?_); refine goesL_ (some 9) rfl rfl Try.func27 zq26 rfl #[.pointer (some ⟨gb515, 0, none⟩), .int .i64 6] rfl zq1 ?_; (with_reducible refine (spec_l1Cur_few.calls k gb515 l0 0 0 6 t516 t519 t520 w _ ?side1 ?side2 A2.out).mono ?_); (case side1 => unfold IsS51; exact ⟨_, _, (pKq7 BK515), GW515.out, HR0.out⟩); (case side2 => exact zq10); rintro e w6 ⟨v517, rfl, ho0, hi, hb, hk⟩; refine ⟨_, rfl, ?_⟩; have HO518 := am (Kd.R_lower ho0 (below_size (pBq7 HB))); replace HB := am (hb); replace BK515 := am (hi); (try clear hb hk hi ho0)) | ((with_reducible refine gate_callee (f := 45) rfl ?_); refine goesL_ (some 12) rfl rfl Try.func45 zq26 rfl #[.pointer (some ⟨gb515, 0, none⟩), .int .i64 20] rfl zq1 ?_; (with_reducible refine (spec_l1Cur_pick.calls gb515 l0 t519 t520 20 t521 t522 t523 w _ ?side1 ?side2 A3.out).mono ?_); (case side1 => exact zq57); (case side2 => exact zq70); rintro e w7 ⟨rfl, hi, hb, hk⟩; refine ⟨_, rfl, ?_⟩; replace HO518 := am (Kd.R_mono (Kd.R_keep (IsS51.apart (show IsS51 w _ gb515 l0 t519 t520 from zq57) (pRq7 HO518) zq36) hk (fun _ h => h.2)) (fun _ h => h.1)); replace HB := am (hb); replace BK515 := am (hi); (try clear hb hk hi)) | ((with_reducible refine gate_dst (N := 13) rfl ?_); refine Kd.R_lit (Kd.int .i64) _ 3 ?hg (N := 13) ?hd (xs := ([0, 1, 2, 5, 15, 100, (-1), 4611686018427387904, t521] : List Int)) (inner := [.int .i64 0, .int .i64 1, .int .i64 2, .int .i64 5, .int .i64 15, .int .i64 100, .int .i64 (-1), .int .i64 4611686018427387904, .int .i64 t521]) (ok := fun _ => True) (okp := fun _ => True) ?hr ?hp (fun _ hk => hk) trivial (Below.refl _ _) (Nat.le_refl _) zq66 ?_; (case hd => rfl); (case hg => rfl); (case hr => exact zq53); (case hp => exact (Reps.one (show Kd.M (Kd.int .i64) _ _ _ 0 [.int .i64 0] from rfl) (Reps.one (show Kd.M (Kd.int .i64) _ _ _ 1 [.int .i64 1] from rfl) (Reps.one (show Kd.M (Kd.int .i64) _ _ _ 2 [.int .i64 2] from rfl) (Reps.one (show Kd.M (Kd.int .i64) _ _ _ 5 [.int .i64 5] from rfl) (Reps.one (show Kd.M (Kd.int .i64) _ _ _ 15 [.int .i64 15] from rfl) (Reps.one (show Kd.M (Kd.int .i64) _ _ _ 100 [.int .i64 100] from rfl) (Reps.one (show Kd.M (Kd.int .i64) _ _ _ (-1) [.int .i64 (-1)] from rfl) (Reps.one (show Kd.M (Kd.int .i64) _ _ _ 4611686018427387904 [.int .i64 4611686018427387904] from rfl) (Reps.one (show Kd.M (Kd.int .i64) _ _ _ t521 [.int .i64 t521] from rfl) (Reps.none _ _))))))))))); intro v525 w8 ho9 hb hg_ hnew_; clear hg_ hnew_; (first | rw [← Ny524.out] at ho9 | (simp only [Int.reduceToNat] at ho9; rw [← Ny524.out] at ho9)); have HO526 := am (Kd.R_lower (Kd.R_new' ho9 (Kd.R_lt (pRq7 HO518))) (below_size zq70)); replace HO518 := am (Kd.R_elder' (pRq7 HO518) (Kd.R_base ho9) hb); replace HB := am (below_step zq70 hb); replace BK515 := am (IsS51.below zq57 hb); clear hb ho9; obtain ⟨Ao10, co10, eo10⟩ := Kd.R_slice HO526.out; subst eo10) | ((with_reducible refine gate_callee (f := 51) rfl ?_); refine goesL_ (some 14) rfl rfl Try.func51 zq26 rfl #[.pointer (some ⟨gb515, 0, none⟩), .slice Ao10 y524.length co10] rfl zq1 ?_; (with_reducible refine (spec_l1Cur_among.calls gb515 l0 t522 t523 _ _ y524 t527 t528 t529 w _ ?side1 ?side2 ?side3 ?side4 ?side5 A4.out).mono ?_); (case side1 => exact zq57); (case side2 => exact zq70); (case side3 => repeat (first | exact (Kd.R_reads' HO526.out).2.2 | (with_reducible refine Kd.C_alloc ?_ _) | (with_reducible refine Kd.C_drewN ?_ _) | (with_reducible refine Kd.C_drew ?_))); (case side4 => exact (Kd.R_reads' HO526.out).2.1); (case side5 => exact far_slice (IsS51.own_ne BK515.out HO526.out zq36)); rintro e w11 ⟨rfl, hi, hb, hk⟩; refine ⟨_, rfl, ?_⟩; replace HO518 := am (Kd.R_mono (Kd.R_keep (IsS51.apart (show IsS51 w _ gb515 l0 t522 t523 from zq57) (pRq7 HO518) zq36) hk (fun _ h => h.2)) (fun _ h => h.1)); replace HO526 := am (Kd.R_mono (Kd.R_keep (IsS51.apart (show IsS51 w _ gb515 l0 t522 t523 from zq57) (pRq7 HO526) zq36) hk (fun _ h => h.2)) (fun _ h => h.1)); replace HB := am (hb); replace BK515 := am (hi); (try clear hb hk hi)))
 go_ret2
 exact ⟨_, zq11, by (with_reducible repeat (first | apply Kd.R_alloc | apply Kd.R_drewN | apply Kd.R_drew)); exact Kd.R_mono HO518.out (fun _ hk => trivial), zq70⟩
end
end Go.Proofs.Ytdeoeogdnagibaa.PLi
