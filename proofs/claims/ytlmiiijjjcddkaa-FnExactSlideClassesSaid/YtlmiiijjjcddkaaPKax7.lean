-- Written for this claim by a program of this session (myprint.py) over the kit's printer.
import Derived.Test.YtlmiiijjjcddkaaPKax0
import Derived.Test.YtlmiiijjjcddkaaPKax2
import Derived.Test.YtlmiiijjjcddkaaPKax6
namespace Go.Proofs.Ytlmiiijjjcddkaa.PKa
noncomputable section
open Go.RowKit Go.Proofs.YtlmiiijjjcddkaaW.PrintWords Go.Proofs.YtlmiiijjjcddkaaW.PrintLast Go.Proofs.YtlmiiijjjcddkaaW.PrintMore
attribute [local go_sem] max2_int min2_int max_two min_two max_three min_three max_four min_four   -- for this text's walks alone
open List (setIfInBounds_toArray set_cons_zero set_cons_succ)
set_option maxHeartbeats 8000000
set_option maxRecDepth 100000
set_option linter.unusedVariables false
set_option linter.unusedSimpArgs false
theorem pRq7 {α : Type} {d : Kd α} {e base : Nat} {ok : Nat → Prop} {v : Value} {xs : List α} {w W : World} (h0 : Aside0 (Kd.R d e w base ok v xs)) (hp : Kd.R d e W base ok v xs := by (with_reducible repeat (first | apply Kd.R_alloc | apply Kd.R_drewN | apply Kd.R_drew)); exact Aside0.out (by with_reducible assumption)) : Kd.R d e W base ok v xs := hp
theorem pKq7 {g : Nat} {o : Obj} {w W : World} (h0 : Aside0 (w.heap[g]? = some o)) (hp : W.heap[g]? = some o := by (with_reducible repeat (first | refine blk_drewN ?_ _ | refine blk_drew ?_ | refine blk_alloc ?_ _)); exact Aside0.out (by with_reducible assumption)) : W.heap[g]? = some o := hp
theorem pBq7 {b : Nat} {w0 w W : World} (h0 : Aside0 (Below b w0 w)) (hp : Below b w0 W := by repeat (first | (with_reducible first | exact Aside0.out (by assumption) | apply below_alloc | apply pw_below_drewN | apply below_drew1 | refine below_set ?_ (Aside0.out (by assumption))))) : Below b w0 W := hp
/-! ### laws_eqLadderS: function 8 -/
def laws_eqLadderS.l0 : Nat → List (S40) → List (S40) → Int → Option (Bool)
 | 0, _, _, _ => none
 | k + 1, x0, x1, x5 => if x5 < (x0.length : Int) then (if 0 ≤ x5 then (if x5 < (x1.length : Int) then ((laws_eqLadder.f k ((rd_T40 x0 x5).f0) ((rd_T40 x0 x5).f1) ((rd_T40 x1 x5).f0) ((rd_T40 x1 x5).f1)).bind fun t309 => (if t309 = true then (laws_eqLadderS.l0 k x0 x1 (wrap64 (x5 + 1))) else (some false))) else (none)) else (none)) else (some true)
def laws_eqLadderS.f (k : Nat) (l0 : List (S40)) (l1 : List (S40)) : Option (Bool) := if (l0.length : Int) = (l1.length : Int) then (laws_eqLadderS.l0 k l0 l1 0) else (some false)
theorem laws_eqLadderS.mono_l : ∀ k, (∀ y0 y1 y2, LeO (laws_eqLadderS.l0 k y0 y1 y2) (laws_eqLadderS.l0 (k + 1) y0 y1 y2))
 | 0 => fun _ _ _ r h => by simp [laws_eqLadderS.l0] at h
 | k + 1 => by
  have ih0 := laws_eqLadderS.mono_l k
  ·intro y0 y1 y2
   unfold laws_eqLadderS.l0
   repeat' first | (with_reducible first | exact ih0 _ _ _ | exact laws_eqLadder.mono _ _ _ _ _ | exact LeO.refl _ | exact LeO.none _ | refine LeO.ite ?_ ?_ | refine LeO.bind ?_ (fun _ => ?_))
theorem laws_eqLadderS.mono : ∀ a0 a1 k, LeO (laws_eqLadderS.f k a0 a1) (laws_eqLadderS.f (k + 1) a0 a1) := by
 intro a0 a1 k
 have ih0 := laws_eqLadderS.mono_l k
 unfold laws_eqLadderS.f
 repeat' first | (with_reducible first | exact ih0 _ _ _ | exact laws_eqLadder.mono _ _ _ _ _ | exact LeO.refl _ | exact LeO.none _ | refine LeO.ite ?_ ?_ | refine LeO.bind ?_ (fun _ => ?_))
def laws_eqLadderS.T6 : Bool × List (List Nat × List Nat) := (true, [([], []), ([], []), ([0, 1], [0, 1]), ([2], [2]), ([], []), ([], []), ([4, 5], [4, 5]), ([6], [6]), ([3, 7], [3, 7]), ([8], [8])])
def laws_eqLadderS.B6 : List Nat := [0, 0, 3, 7, 0, 0, 48, 112, 255, 511]
theorem laws_eqLadderS.tab6 : rtab .any (opsOf Try.f8 6) = laws_eqLadderS.T6 := by kernel_rfl
theorem laws_eqLadderS.bits6 : waitsOk laws_eqLadderS.T6.2 laws_eqLadderS.B6 = true := by kernel_rfl
theorem laws_eqLadderS.calls (k : Nat) (A0 : Option Addr) (c0 : Nat) (l0 : List (S40)) (A1 : Option Addr) (c1 : Nat) (l1 : List (S40)) (r : Bool) (w : World) (hr0 : Kd.C k40 w A0 l0.length l0) (hc0 : l0.length ≤ c0) (hr1 : Kd.C k40 w A1 l1.length l1) (hc1 : l1.length ≤ c1) (h : laws_eqLadderS.f k l0 l1 = some r) :
  Calls Try.prog 8 #[.slice A0 l0.length c0, .slice A1 l1.length c1] w fun e w' => e = .returned (.bool r) ∧ Below w.heap.size w w' := by
 have hu40 := Try.underlying40
 have HR0 := am hr0
 have HC0 := am hc0
 clear hr0 hc0
 have HR1 := am hr1
 have HC1 := am hc1
 clear hr1 hc1
 have HB := am (Below.refl w.heap.size w)
 have H : (if (l0.length : Int) = (l1.length : Int) then (laws_eqLadderS.l0 k l0 l1 0) else (some false)) = some r := h
 clear h
 by_cases c3 : (l0.length : Int) = (l1.length : Int)
 ·rw [if_pos c3] at H
  have c3b0 : ((l0.length : Int) == (l1.length : Int)) = true := beq_iff_eq.mpr c3
  have c3b1 : ((l0.length : Int) != (l1.length : Int)) = false := bne_eq_false_iff_eq.mpr c3
  have c3b2 : (l0.length == l1.length) = true := zq61
  clear c3
  have H' := am H
  clear H
  go_enter Try.func8, Try.ntmps8
  go_wp2
  go_loopg [5] k (fun kq v5 w' => ∃ (x5_1 : Int), v5 = .int .i64 x5_1 ∧ Aside0 (laws_eqLadderS.l0 kq l0 l1 x5_1 = some r) ∧ Aside0 (kq ≤ k) ∧ Aside0 (Below w.heap.size w w'))
  case atStart => exact ⟨(0), zq2, H', ⟨Nat.le_refl _⟩, ⟨zq1⟩⟩
  case round =>
   clear H'
   try clear c1
   try clear p2
   try clear c3
   try clear c3b0
   try clear c3b1
   try clear c3b2
   obtain ⟨x5_1, rfl, HA, HK1, HB⟩ := hrel
   cases gk with
   | zero => exact absurd HA.out (by simp [laws_eqLadderS.l0])
   | succ k1 =>
    have H := HA.out
    clear HA
    simp only [laws_eqLadderS.l0] at H
    by_cases c4 : x5_1 < (l0.length : Int)
    ·rw [if_pos c4] at H
     have c4b0 : decide (x5_1 < (l0.length : Int)) = true := decide_eq_true c4
     clear c4
     by_cases c5 : 0 ≤ x5_1
     ·rw [if_pos c5] at H
      have c5b0 : decide (0 ≤ x5_1) = true := decide_eq_true c5
      clear c5
      by_cases c6 : x5_1 < (l1.length : Int)
      ·rw [if_pos c6] at H
       have c6b0 : decide (x5_1 < (l1.length : Int)) = true := decide_eq_true c6
       clear c6
       obtain ⟨t309, A7, H⟩ := zS H
       (try dsimp only at H)
       by_cases c8 : t309 = true
       ·subst c8
        rw [if_pos rfl] at H
        have H' := am H
        clear H
        try go_wp2
        replace HB := am (below_drew1 HB.out)
        have p307 : 0 ≤ (x5_1 : Int) := of_decide_eq_true zq0
        have q307 : x5_1 < (l0.length : Int) := of_decide_eq_true zq0
        obtain ⟨ad307, A307_1, c307_1, e307, hx307_0, hx307_1, hl307_1, hi307_1⟩ := at_T40 HR0.out x5_1 p307 q307
        have hw307_1 := hx307_1
        have hw307_0 := hx307_0
        cases e307
        replace hx307_0 := (HB.out.cell (World.block_lt_of_cell? w _ hx307_0)).trans hx307_0
        replace hx307_1 := (HB.out.cell (World.block_lt_of_cell? w _ hx307_1)).trans hx307_1
        have HR307_1 := am hi307_1
        have HC307_1 := am hl307_1
        clear hi307_1 hl307_1
        replace p307 := eq_true p307
        replace q307 := eq_true q307
        have p308 : 0 ≤ (x5_1 : Int) := of_decide_eq_true zq0
        have q308 : x5_1 < (l1.length : Int) := of_decide_eq_true zq0
        obtain ⟨ad308, A308_1, c308_1, e308, hx308_0, hx308_1, hl308_1, hi308_1⟩ := at_T40 HR1.out x5_1 p308 q308
        have hw308_1 := hx308_1
        have hw308_0 := hx308_0
        cases e308
        replace hx308_0 := (HB.out.cell (World.block_lt_of_cell? w _ hx308_0)).trans hx308_0
        replace hx308_1 := (HB.out.cell (World.block_lt_of_cell? w _ hx308_1)).trans hx308_1
        have HR308_1 := am hi308_1
        have HC308_1 := am hl308_1
        clear hi308_1 hl308_1
        replace p308 := eq_true p308
        replace q308 := eq_true q308
        refine start_ (n := 10) (S := fun w' => w'.cell? (ad307.add ((x5_1).toNat * 2)) = some (.int .i64 ((rd_T40 l0 x5_1).f0)) ∧ w'.cell? ⟨(ad307.add ((x5_1).toNat * 2)).block, (ad307.add ((x5_1).toNat * 2)).off + 1, none⟩ = some (.slice A307_1 ((rd_T40 l0 x5_1).f1).length c307_1) ∧ w'.cell? (ad308.add ((x5_1).toNat * 2)) = some (.int .i64 ((rd_T40 l1 x5_1).f0)) ∧ w'.cell? ⟨(ad308.add ((x5_1).toNat * 2)).block, (ad308.add ((x5_1).toNat * 2)).off + 1, none⟩ = some (.slice A308_1 ((rd_T40 l1 x5_1).f1).length c308_1)) (ds := []) #[false, false, false, false, false, false, false, false, false, false] zq24 rfl rfl ⟨((HB.out.cell (World.block_lt_of_cell? w _ hw307_0)).trans hw307_0), ((HB.out.cell (World.block_lt_of_cell? w _ hw307_1)).trans hw307_1), ((HB.out.cell (World.block_lt_of_cell? w _ hw308_0)).trans hw308_0), ((HB.out.cell (World.block_lt_of_cell? w _ hw308_1)).trans hw308_1)⟩ (fun hHeld => ?_); refine with_tabW laws_eqLadderS.tab6 laws_eqLadderS.bits6 (fun HT_ HW_ => ?_)
        generalize wr.drew = w9 at HB HR307_1 HR308_1 hx307_0 hx307_1 hx308_0 hx308_1 hHeld ⊢
        refine zU 0 17 HT_ ?_
        refine zU 1 18 HT_ ?_
        refine zU 2 19 HT_ ?_
        refine zU 4 21 HT_ ?_
        refine zU 5 22 HT_ ?_
        refine zU 6 23 HT_ ?_
        refine zT 3 20 HT_ HW_ hHeld ?_
        refine zT 7 24 HT_ HW_ hHeld ?_
        refine zO 8 25 HT_ fun K hK => ?_
        refine goes_ Try.func19 zq24 rfl #[.agg #[.int .i64 ((rd_T40 l0 x5_1).f0), .slice A307_1 ((rd_T40 l0 x5_1).f1).length c307_1], .agg #[.int .i64 ((rd_T40 l1 x5_1).f0), .slice A308_1 ((rd_T40 l1 x5_1).f1).length c308_1]] (by rfl) rfl rfl zq3 ?_
        with_reducible refine (laws_eqLadder.calls k1 ((rd_T40 l0 x5_1).f0) _ _ ((rd_T40 l0 x5_1).f1) ((rd_T40 l1 x5_1).f0) _ _ ((rd_T40 l1 x5_1).f1) true _ ?side1 ?side2 ?side3 ?side4 A7.out).mono ?_
        (case side1 => exact zq78)
        (case side2 => exact HC307_1.out)
        (case side3 => exact zq77)
        (case side4 => exact HC308_1.out)
        rintro e w10 ⟨rfl, hb⟩
        refine ⟨_, rfl, ?_⟩
        replace HB := am (below_step (pBq7 HB) hb)
        (try clear hb)
        (try clear hb2)
        (try clear hk)
        (try clear hi)
        refine hK.out _ _ ⟨((HB.out.cell (World.block_lt_of_cell? w _ hw307_0)).trans hw307_0), ((HB.out.cell (World.block_lt_of_cell? w _ hw307_1)).trans hw307_1), ((HB.out.cell (World.block_lt_of_cell? w _ hw308_0)).trans hw308_0), ((HB.out.cell (World.block_lt_of_cell? w _ hw308_1)).trans hw308_1)⟩ (fun hHeld => ?_)
        clear hK K
        refine zN 25 ?_
        refine zU 9 26 HT_ ?_
        refine done_ (done_of HT_.out zq24) ?_
        try go_wp2
        go_roundg k1
        case measure => have := HK1.out; omega
        case rel => exact ⟨(wrap64 (x5_1 + 1)), zq2, H', ⟨zq27⟩, ⟨zq1⟩⟩
       ·replace c8 := Bool.eq_false_iff.mpr c8
        subst c8
        rw [if_neg (show ¬ (false = true) by decide)] at H
        obtain rfl := Option.some.inj H
        try go_wp2
        replace HB := am (below_drew1 HB.out)
        have p307 : 0 ≤ (x5_1 : Int) := of_decide_eq_true zq0
        have q307 : x5_1 < (l0.length : Int) := of_decide_eq_true zq0
        obtain ⟨ad307, A307_1, c307_1, e307, hx307_0, hx307_1, hl307_1, hi307_1⟩ := at_T40 HR0.out x5_1 p307 q307
        have hw307_1 := hx307_1
        have hw307_0 := hx307_0
        cases e307
        replace hx307_0 := (HB.out.cell (World.block_lt_of_cell? w _ hx307_0)).trans hx307_0
        replace hx307_1 := (HB.out.cell (World.block_lt_of_cell? w _ hx307_1)).trans hx307_1
        have HR307_1 := am hi307_1
        have HC307_1 := am hl307_1
        clear hi307_1 hl307_1
        replace p307 := eq_true p307
        replace q307 := eq_true q307
        have p308 : 0 ≤ (x5_1 : Int) := of_decide_eq_true zq0
        have q308 : x5_1 < (l1.length : Int) := of_decide_eq_true zq0
        obtain ⟨ad308, A308_1, c308_1, e308, hx308_0, hx308_1, hl308_1, hi308_1⟩ := at_T40 HR1.out x5_1 p308 q308
        have hw308_1 := hx308_1
        have hw308_0 := hx308_0
        cases e308
        replace hx308_0 := (HB.out.cell (World.block_lt_of_cell? w _ hx308_0)).trans hx308_0
        replace hx308_1 := (HB.out.cell (World.block_lt_of_cell? w _ hx308_1)).trans hx308_1
        have HR308_1 := am hi308_1
        have HC308_1 := am hl308_1
        clear hi308_1 hl308_1
        replace p308 := eq_true p308
        replace q308 := eq_true q308
        refine start_ (n := 10) (S := fun w' => w'.cell? (ad307.add ((x5_1).toNat * 2)) = some (.int .i64 ((rd_T40 l0 x5_1).f0)) ∧ w'.cell? ⟨(ad307.add ((x5_1).toNat * 2)).block, (ad307.add ((x5_1).toNat * 2)).off + 1, none⟩ = some (.slice A307_1 ((rd_T40 l0 x5_1).f1).length c307_1) ∧ w'.cell? (ad308.add ((x5_1).toNat * 2)) = some (.int .i64 ((rd_T40 l1 x5_1).f0)) ∧ w'.cell? ⟨(ad308.add ((x5_1).toNat * 2)).block, (ad308.add ((x5_1).toNat * 2)).off + 1, none⟩ = some (.slice A308_1 ((rd_T40 l1 x5_1).f1).length c308_1)) (ds := []) #[false, false, false, false, false, false, false, false, false, false] zq24 rfl rfl ⟨((HB.out.cell (World.block_lt_of_cell? w _ hw307_0)).trans hw307_0), ((HB.out.cell (World.block_lt_of_cell? w _ hw307_1)).trans hw307_1), ((HB.out.cell (World.block_lt_of_cell? w _ hw308_0)).trans hw308_0), ((HB.out.cell (World.block_lt_of_cell? w _ hw308_1)).trans hw308_1)⟩ (fun hHeld => ?_); refine with_tabW laws_eqLadderS.tab6 laws_eqLadderS.bits6 (fun HT_ HW_ => ?_)
        generalize wr.drew = w11 at HB HR307_1 HR308_1 hx307_0 hx307_1 hx308_0 hx308_1 hHeld ⊢
        refine zU 0 17 HT_ ?_
        refine zU 1 18 HT_ ?_
        refine zU 2 19 HT_ ?_
        refine zU 4 21 HT_ ?_
        refine zU 5 22 HT_ ?_
        refine zU 6 23 HT_ ?_
        refine zT 3 20 HT_ HW_ hHeld ?_
        refine zT 7 24 HT_ HW_ hHeld ?_
        refine zO 8 25 HT_ fun K hK => ?_
        refine goes_ Try.func19 zq24 rfl #[.agg #[.int .i64 ((rd_T40 l0 x5_1).f0), .slice A307_1 ((rd_T40 l0 x5_1).f1).length c307_1], .agg #[.int .i64 ((rd_T40 l1 x5_1).f0), .slice A308_1 ((rd_T40 l1 x5_1).f1).length c308_1]] (by rfl) rfl rfl zq3 ?_
        with_reducible refine (laws_eqLadder.calls k1 ((rd_T40 l0 x5_1).f0) _ _ ((rd_T40 l0 x5_1).f1) ((rd_T40 l1 x5_1).f0) _ _ ((rd_T40 l1 x5_1).f1) false _ ?side1 ?side2 ?side3 ?side4 A7.out).mono ?_
        (case side1 => exact zq78)
        (case side2 => exact HC307_1.out)
        (case side3 => exact zq77)
        (case side4 => exact HC308_1.out)
        rintro e w12 ⟨rfl, hb⟩
        refine ⟨_, rfl, ?_⟩
        replace HB := am (below_step (pBq7 HB) hb)
        (try clear hb)
        (try clear hb2)
        (try clear hk)
        (try clear hi)
        refine hK.out _ _ ⟨((HB.out.cell (World.block_lt_of_cell? w _ hw307_0)).trans hw307_0), ((HB.out.cell (World.block_lt_of_cell? w _ hw307_1)).trans hw307_1), ((HB.out.cell (World.block_lt_of_cell? w _ hw308_0)).trans hw308_0), ((HB.out.cell (World.block_lt_of_cell? w _ hw308_1)).trans hw308_1)⟩ (fun hHeld => ?_)
        clear hK K
        refine zN 25 ?_
        refine zU 9 26 HT_ ?_
        refine done_ (done_of HT_.out zq24) ?_
        try go_wp2
        go_ret
        exact ⟨zq7, zq1⟩
      ·rw [if_neg c6] at H
       exact absurd H zq25
     ·rw [if_neg c5] at H
      exact absurd H zq25
    ·rw [if_neg c4] at H
     have c4b0 : decide (x5_1 < (l0.length : Int)) = false := decide_eq_false c4
     clear c4
     obtain rfl := Option.some.inj H
     go_wp2
     go_ret
     exact ⟨zq7, zq1⟩
 ·rw [if_neg c3] at H
  have c3b0 : ((l0.length : Int) == (l1.length : Int)) = false := beq_eq_false_iff_ne.mpr c3
  have c3b1 : ((l0.length : Int) != (l1.length : Int)) = true := bne_iff_ne.mpr c3
  have c3b2 : (l0.length == l1.length) = false := zq61
  obtain rfl := Option.some.inj H
  go_enter Try.func8, Try.ntmps8
  go_wp2
  go_ret
  exact ⟨zq7, zq1⟩
/-! ### laws_markIntS: function 10 -/
def laws_markIntS.l0 : Nat → List Int → Int → Int → Option (Int × List Int)
 | 0, _, _, _ => none
 | k + 1, x0, x1, x5 => if x5 < (x0.length : Int) then (if 0 ≤ x5 then (laws_markIntS.l0 k (x0.set (x5 : Int).toNat x1) (wrap64 (x1 + 1)) (wrap64 (x5 + 1))) else (none)) else (some (x1, x0))
def laws_markIntS.f (k : Nat) (l0 : List Int) (a1 : Int) : Option (Int × List Int) := laws_markIntS.l0 k l0 a1 0
theorem laws_markIntS.mono_l : ∀ k, (∀ y0 y1 y2, LeO (laws_markIntS.l0 k y0 y1 y2) (laws_markIntS.l0 (k + 1) y0 y1 y2))
 | 0 => fun _ _ _ r h => by simp [laws_markIntS.l0] at h
 | k + 1 => by
  have ih0 := laws_markIntS.mono_l k
  ·intro y0 y1 y2
   unfold laws_markIntS.l0
   repeat' first | (with_reducible first | exact ih0 _ _ _ | exact LeO.refl _ | exact LeO.none _ | refine LeO.ite ?_ ?_ | refine LeO.bind ?_ (fun _ => ?_))
theorem laws_markIntS.mono : ∀ a0 a1 k, LeO (laws_markIntS.f k a0 a1) (laws_markIntS.f (k + 1) a0 a1) := by
 intro a0 a1 k
 have ih0 := laws_markIntS.mono_l k
 unfold laws_markIntS.f
 repeat' first | (with_reducible first | exact ih0 _ _ _ | exact LeO.refl _ | exact LeO.none _ | refine LeO.ite ?_ ?_ | refine LeO.bind ?_ (fun _ => ?_))
theorem laws_markIntS.calls (k : Nat) (P0_ : Nat → Prop) (u9000_ : Value) (l0 : List Int) (a1 : Int) (r1 : Int) (r2 : List Int) (w0 w : World) (hB : Below w0.heap.size w0 w) (ho0 : Kd.R (Kd.int .i64) 3 w w0.heap.size P0_ u9000_ l0) (h : laws_markIntS.f k l0 a1 = some (r1, r2)) :
  Calls Try.prog 10 #[u9000_, .int .i64 a1] w fun e w' => e = .returned (.int .i64 r1) ∧ Kd.R (Kd.int .i64) 3 w' w0.heap.size (fun k_ => (P0_ k_ ∨ w.heap.size ≤ k_)) u9000_ r2 ∧ Below w0.heap.size w0 w' ∧ Kept w w' (fun k_ => P0_ k_) := by
 have HO0 := am (show Kd.R (Kd.int .i64) 3 w w0.heap.size (fun k_ => (P0_ k_ ∨ w.heap.size ≤ k_)) u9000_ l0 from Kd.R_mono ho0 (fun k_ hk => (.inl hk)))
 have HK := am (Kept.refl w (fun k_ => P0_ k_))
 have HW0 := am hB.size
 have HB := am hB
 clear hB
 have H : (laws_markIntS.l0 k l0 a1 0) = some (r1, r2) := h
 clear h
 have H' := am H
 clear H
 go_enter Try.func10, Try.ntmps10
 go_wp2
 go_loopg [1, 5] k (fun kq v1 v5 w' => ∃ (x0_1 : List Int) (x1_1 : Int) (x5_1 : Int), v1 = .int .i64 x1_1 ∧ v5 = .int .i64 x5_1 ∧ Aside0 (laws_markIntS.l0 kq x0_1 x1_1 x5_1 = some (r1, r2)) ∧ Aside0 (kq ≤ k) ∧ Aside0 (Kd.R (Kd.int .i64) 3 w' w0.heap.size (fun k_ => (P0_ k_ ∨ w.heap.size ≤ k_)) u9000_ x0_1) ∧ Aside0 (Kept w w' (fun k_ => P0_ k_)) ∧ Aside0 (Below w0.heap.size w0 w'))
 case atStart => exact ⟨(l0), (a1), (0), zq2, zq2, H', ⟨Nat.le_refl _⟩, ⟨by (with_reducible repeat (first | apply Kd.R_alloc | apply Kd.R_drewN | apply Kd.R_drew)); exact HO0.out⟩, ⟨zq14⟩, ⟨zq1⟩⟩
 case round =>
  clear H'
  try clear c1
  try clear p2
  obtain ⟨x0_1, x1_1, x5_1, rfl, rfl, HA, HK1, HO_0, HK, HB⟩ := hrel
  cases gk with
  | zero => exact absurd HA.out (by simp [laws_markIntS.l0])
  | succ k1 =>
   have H := HA.out
   clear HA
   simp only [laws_markIntS.l0] at H
   by_cases c3 : x5_1 < (x0_1.length : Int)
   ·rw [if_pos c3] at H
    have c3b0 : decide (x5_1 < (x0_1.length : Int)) = true := decide_eq_true c3
    clear c3
    by_cases c4 : 0 ≤ x5_1
    ·rw [if_pos c4] at H
     have c4b0 : decide (0 ≤ x5_1) = true := decide_eq_true c4
     clear c4
     obtain ⟨y310, hy310⟩ : ∃ y_ : List Int, y_ = (x0_1.set (x5_1 : Int).toNat x1_1) := ⟨_, rfl⟩
     replace H : (laws_markIntS.l0 k1 y310 (wrap64 (x1_1 + 1)) (wrap64 (x5_1 + 1))) = some (r1, r2) := by first | (rw [hy310]; exact zH) | exact zH
     have Ny310 := am hy310
     clear hy310
     have H' := am H
     clear H
     obtain ⟨Ao6, co6, eo6⟩ := Kd.R_slice HO_0.out
     subst eo6
     have p5 : 0 ≤ (x5_1 : Int) := of_decide_eq_true zq0
     have q5 : (x5_1 : Int) < ((x0_1.length : Int) : Int) := of_decide_eq_true zq0
     obtain ⟨go5, co5, eo5, gb5, gl5, cl5, HG5⟩ := Kd.R_form HO_0.out zq11
     (first | cases eo5 | (injection eo5 with ea_ en_ ec_; (first | subst ea_ | (injection ea_ with ea_; subst ea_)); subst ec_; clear en_))
     have GB5 := am gb5
     have GG5 := am HG5
     clear gb5 gl5 HG5
     have HMgo5 := am (show (P0_ go5 ∨ w.heap.size ≤ go5) from (HO_0.out.1 _ rfl))
     obtain ⟨hx5_0, hf5_0⟩ := Kd.R_celln 0 HO_0.out (x5_1 : Int) p5 q5
     replace p5 := eq_true p5
     replace q5 := eq_true q5
     have HP7 := Kd.R_putg HO_0.out (x5_1 : Int) x1_1
     go_wp2_with (first | ((with_reducible refine gate_store (t := 3) (p := 15) rfl ?_); refine store_event (t := 3) (p := 15) (v := ?vo_w8) (w1 := (wr.setCell ⟨go5, (x5_1 : Int).toNat, none⟩ (.int .i64 x1_1))) ?hg ?ho ?hn ?hr ?_; (case ho => rfl); (case hg => rfl); (case hn => rfl); (case hr => exact zq10); intro w8 hw; have hg : wr.grownBy w8 (some go5) := (by rw [hw]; exact HP7.2); have hp_ : Kd.R (Kd.int .i64) 3 w8 w0.heap.size (fun k_ => (P0_ k_ ∨ w.heap.size ≤ k_)) (.slice (some ⟨go5, 0, none⟩) x0_1.length co6) y310 := (by rw [hw, Ny310.out]; exact HP7.1); clear HP7; replace HB := am ((by rw [hw]; exact below_set (HB.out) GB5.out : Below w0.heap.size w0 w8)); replace HK := am (Kept.of_grown (S := (fun k_ => P0_ k_)) hg zq14 (fun k_ e_ => (HO_0.out.1 k_ e_))); replace HO_0 := am (hp_); clear hg hw hp_))
     go_roundg k1
     case measure => have := HK1.out; omega
     case rel => exact ⟨(y310), (wrap64 (x1_1 + 1)), (wrap64 (x5_1 + 1)), zq2, zq2, H', ⟨zq27⟩, ⟨by (with_reducible repeat (first | apply Kd.R_alloc | apply Kd.R_drewN | apply Kd.R_drew)); exact HO_0.out⟩, ⟨zq14⟩, ⟨zq1⟩⟩
    ·rw [if_neg c4] at H
     exact absurd H zq25
   ·rw [if_neg c3] at H
    have c3b0 : decide (x5_1 < (x0_1.length : Int)) = false := decide_eq_false c3
    clear c3
    simp only [Option.some.injEq, Prod.mk.injEq] at H
    obtain ⟨rfl, rfl⟩ := H
    obtain ⟨Ao9, co9, eo9⟩ := Kd.R_slice HO_0.out
    subst eo9
    go_wp2
    go_ret
    exact ⟨zq7, by (with_reducible repeat (first | apply Kd.R_alloc | apply Kd.R_drewN | apply Kd.R_drew)); exact HO_0.out, zq1, zq14⟩
/-! ### laws_markLadderS: function 11 -/
def laws_markLadderS.l0 : Nat → List S40 → Int → Int → Option (Int × List S40)
 | 0, _, _, _ => none
 | k + 1, x0, x1, x5 => if x5 < (x0.length : Int) then (if 0 ≤ x5 then ((laws_markIntS.f k (x0.getD x5.toNat z40).f1 (wrap64 (x1 + 1))).bind fun bt1 => (laws_markLadderS.l0 k (x0.set x5.toNat ⟨x1, bt1.2⟩) bt1.1 (wrap64 (x5 + 1)))) else (none)) else (some (x1, x0))
def laws_markLadderS.f (k : Nat) (l0 : List S40) (a1 : Int) : Option (Int × List S40) := laws_markLadderS.l0 k l0 a1 0
theorem laws_markLadderS.mono_l : ∀ k, (∀ y0 y1 y2, LeO (laws_markLadderS.l0 k y0 y1 y2) (laws_markLadderS.l0 (k + 1) y0 y1 y2))
 | 0 => fun _ _ _ r h => by simp [laws_markLadderS.l0] at h
 | k + 1 => by
  have ih0 := laws_markLadderS.mono_l k
  ·intro y0 y1 y2
   unfold laws_markLadderS.l0
   repeat' first | (with_reducible first | exact ih0 _ _ _ | exact LeO.refl _ | exact LeO.none _ | refine LeO.ite ?_ ?_ | refine LeO.bind (laws_markIntS.mono _ _ _) (fun _ => ?_))
theorem laws_markLadderS.mono : ∀ a0 a1 k, LeO (laws_markLadderS.f k a0 a1) (laws_markLadderS.f (k + 1) a0 a1) := by
 intro a0 a1 k
 exact laws_markLadderS.mono_l k _ _ _
theorem laws_markLadderS.calls (k : Nat) (P0_ : Nat → Prop) (u9000_ : Value) (l0 : List S40) (a1 : Int) (r1 : Int) (r2 : List S40) (w0 w : World) (hB : Below w0.heap.size w0 w) (ho0 : Kd.S k40 40 w w0.heap.size P0_ u9000_ l0) (h : laws_markLadderS.f k l0 a1 = some (r1, r2)) :
  Calls Try.prog 11 #[u9000_, .int .i64 a1] w fun e w' => e = .returned (.int .i64 r1) ∧ Kd.S k40 40 w' w0.heap.size (fun k_ => (P0_ k_ ∨ w.heap.size ≤ k_)) u9000_ r2 ∧ Below w0.heap.size w0 w' ∧ Kept w w' (fun k_ => P0_ k_) := by
 have HO := am ho0
 have HK := am (Kept.refl w (fun k_ => P0_ k_))
 have HB := am hB
 have H' := am (show laws_markLadderS.l0 k l0 a1 0 = some (r1, r2) from h)
 clear hB ho0 h
 go_enter Try.func11, Try.ntmps11
 go_wp2
 go_loopg [1, 5] k (fun kq v1 v5 w' => ∃ (x0_1 : List S40) (x1_1 : Int) (x5_1 : Int), v1 = .int .i64 x1_1 ∧ v5 = .int .i64 x5_1 ∧ Aside0 (laws_markLadderS.l0 kq x0_1 x1_1 x5_1 = some (r1, r2)) ∧ Aside0 (kq ≤ k) ∧ Aside0 (Kd.S k40 40 w' w0.heap.size P0_ u9000_ x0_1) ∧ Aside0 (Kept w w' (fun k_ => P0_ k_)) ∧ Aside0 (Below w0.heap.size w0 w'))
 case atStart => exact ⟨l0, a1, 0, rfl, rfl, H', ⟨Nat.le_refl _⟩, ⟨by first | exact HO.out | exact Kd.S_drew HO.out⟩, ⟨by first | exact HK.out | exact Kept.drew HK.out⟩, ⟨by first | exact HB.out | exact below_drew1 HB.out⟩⟩
 case round =>
  clear H' HO HK HB
  obtain ⟨x0_1, x1_1, x5_1, rfl, rfl, HA, HK1, HO, HK, HB⟩ := hrel
  cases gk with
  | zero => exact absurd HA.out (by simp [laws_markLadderS.l0])
  | succ k1 =>
   have H := HA.out
   clear HA
   simp only [laws_markLadderS.l0] at H
   by_cases c3 : x5_1 < (x0_1.length : Int)
   ·rw [if_pos c3] at H
    have c3b0 : decide (x5_1 < (x0_1.length : Int)) = true := decide_eq_true c3
    by_cases c4 : 0 ≤ x5_1
    ·rw [if_pos c4] at H
     have c4b0 : decide (0 ≤ x5_1) = true := decide_eq_true c4
     obtain ⟨⟨t1, t2⟩, A50, H⟩ := Option.bind_eq_some_iff.mp H
     obtain ⟨y, hy⟩ : ∃ y, y = x0_1.getD x5_1.toNat z40 := ⟨_, rfl⟩
     rw [← hy] at A50
     have A5 := am A50
     (try dsimp only at H)
     have H' := am H
     clear H A50
     obtain ⟨g, cap, eg, gb, gl, cells, hcells⟩ := Kd.S_form HO.out zq11
     subst eg
     obtain ⟨oki, c, hcl, hM, hcc, hoki, hH⟩ := Kd.S_lend HO.out z40 x5_1 c4 c3
     rw [← hy] at hM
     obtain ⟨v, rfl, hR⟩ := k40_openM hM
     have HM0 := am (k40_mkM _ _ _ ⟨x1_1, y.f1⟩ hR)
     have HP := am (Kd.S_R HO.out).1
     have HH := am hH
     have HY := am hy
     have GB := am gb
     have C4 := am c4
     have C3 := am c3
     clear hcc hcl hR hH hoki hcells gl HO hM hy gb
     have p5 := eq_true c4
     have q5 := eq_true c3
     clear c3 c4
     have HSZ := am (HK.out.1)
     go_wp2_with (first | ((with_reducible refine gate_store (t := 3) (p := 16) rfl ?_); refine Kd.H_store (o' := x5_1.toNat * 2) k40 w0.heap.size rfl rfl 3 (.tmp 16) (.tmp 14) rfl 40 x5_1 0 x0_1 ⟨x1_1, y.f1⟩ (.int .i64 x1_1) [.int .i64 x1_1] [.int .i64 y.f0, v] P0_ oki oki ?haddr ?hoff ?hx ?hu ?ht ?hone HH.out C4.out C3.out ?hj ?hM (fun _ h_ => h_) HB.out ?_; (case hu => rfl); (case ht => first | rfl | kernel_rfl); (case hone => intro q hq; simp at hq; subst hq; rfl); (case hj => first | exact Nat.le_of_ble_eq_true rfl | (show 0 + 1 ≤ 2; omega)); (case hM => exact HM0.out); (case haddr => first | (go_simp; done) | (go_simp; rfl) | rfl); (case hoff => first | rfl | (go_simp; done)); (case hx => first | (go_simp; done) | rfl); intro w2 hS2 hB2 hG2; have HB2 := am hB2; have HK2 := am (Kept.of_grown (S := (fun k_ => P0_ k_)) hG2 HK.out (fun k_ e_ => .inl (HP.out k_ (by simpa [Value.ownBlock] using e_)))); clear HB HK HH HM0; obtain ⟨oki2, c2, hcl2, hM2, hcc2, hoki2, hH2⟩ := Kd.S_lend hS2 z40 x5_1 C4.out C3.out; have e2_ : (x0_1.set x5_1.toNat (⟨x1_1, y.f1⟩ : S40)).getD x5_1.toNat z40 = ⟨x1_1, y.f1⟩ := (by rw [List.getD_eq_getElem?_getD, List.getElem?_set_self (by have := C3.out; have := C4.out; omega)]; rfl); rw [e2_] at hM2; obtain ⟨v2, rfl, hR2⟩ := k40_openM hM2; have hx : w2.cell? ⟨g, x5_1.toNat * 2 + 1, none⟩ = some v2 := hcc2 1 v2 rfl; obtain ⟨Ai, ci, ei⟩ := Kd.R_slice hR2; subst ei; have HR2 := am hR2; have HOK2 := am hoki2; have HH2 := am hH2; clear hS2 hB2 hG2 hM2 hcc2 hcl2 hR2 hH2 hoki2 e2_) | (go_at_call 10; (with_reducible refine (laws_markIntS.calls k1 (fun k_ => some k_ = (Value.slice Ai y.f1.length ci).ownBlock) _ y.f1 (wrap64 (x1_1 + 1)) t1 t2 w0 _ ?side1 ?side2 A5.out).mono ?_); (case side1 => exact HB2.out); (case side2 => exact Kd.R_tight rfl HR2.out); rintro e w' ⟨rfl, ho, hb, hk⟩; have hown : ∀ k_, some k_ = (Value.slice Ai y.f1.length ci).ownBlock → oki2 k_ := (fun k_ hk_ => HR2.out.1 k_ hk_.symm); have n0_ := am (Kd.H_back (x' := (⟨x1_1, t2⟩ : S40)) (okp := oki2) (Kd.H_step HH2.out (fun k_ hk1 hk2 hk3 => hk.2 k_ hk3 (fun h_ => hk2 (hown k_ h_)))) (k40_mkM _ _ _ ⟨x1_1, t2⟩ (Kd.R_mono (Kd.R_tight rfl ho) (fun k_ hk_ => hown k_ hk_))) (fun _ h_ => h_)); have n1_ := am (Kept.then_ HK2.out hk (fun k_ hk_ => .inl (HOK2.out k_ (hown k_ hk_)).1)); have n2_ := am hb; clear HB2 HK2 HH2 HR2 HOK2 ho hb hk hown; rw [List.set_set] at n0_))
     go_roundg k1
     case measure => have := HK1.out; omega
     case rel => exact ⟨_, t1, (wrap64 (x5_1 + 1)), zq2, zq2, H', ⟨zq27⟩, n0_, n1_, n2_⟩
    ·rw [if_neg c4] at H
     exact absurd H zq25
   ·rw [if_neg c3] at H
    have c3b0 : decide (x5_1 < (x0_1.length : Int)) = false := decide_eq_false c3
    clear c3
    simp only [Option.some.injEq, Prod.mk.injEq] at H
    obtain ⟨rfl, rfl⟩ := H
    obtain ⟨Ao9, co9, eo9⟩ := Kd.S_slice HO.out
    subst eo9
    go_wp2
    go_ret
    exact ⟨zq2, Kd.S_mono HO.out (fun _ h_ => .inl h_), HB.out, HK.out⟩
/-! ### laws_heldIntS: function 15 -/
def laws_heldIntS.l0 : Nat → List Int → Int → Int → Option (Int)
 | 0, _, _, _ => none
 | k + 1, x0, x1, x5 => if x5 < (x0.length : Int) then (if 0 ≤ x5 then (if (rd x0 x5) = x1 then (laws_heldIntS.l0 k x0 (wrap64 (x1 + 1)) (wrap64 (x5 + 1))) else (some (-1))) else (none)) else (some x1)
def laws_heldIntS.f (k : Nat) (l0 : List Int) (a1 : Int) : Option (Int) := laws_heldIntS.l0 k l0 a1 0
theorem laws_heldIntS.mono_l : ∀ k, (∀ y0 y1 y2, LeO (laws_heldIntS.l0 k y0 y1 y2) (laws_heldIntS.l0 (k + 1) y0 y1 y2))
 | 0 => fun _ _ _ r h => by simp [laws_heldIntS.l0] at h
 | k + 1 => by
  have ih0 := laws_heldIntS.mono_l k
  ·intro y0 y1 y2
   unfold laws_heldIntS.l0
   repeat' first | (with_reducible first | exact ih0 _ _ _ | exact LeO.refl _ | exact LeO.none _ | refine LeO.ite ?_ ?_ | refine LeO.bind ?_ (fun _ => ?_))
theorem laws_heldIntS.mono : ∀ a0 a1 k, LeO (laws_heldIntS.f k a0 a1) (laws_heldIntS.f (k + 1) a0 a1) := by
 intro a0 a1 k
 have ih0 := laws_heldIntS.mono_l k
 unfold laws_heldIntS.f
 repeat' first | (with_reducible first | exact ih0 _ _ _ | exact LeO.refl _ | exact LeO.none _ | refine LeO.ite ?_ ?_ | refine LeO.bind ?_ (fun _ => ?_))
theorem laws_heldIntS.calls (k : Nat) (A0 : Option Addr) (c0 : Nat) (l0 : List Int) (a1 : Int) (r : Int) (w : World) (hr0 : Kd.C (Kd.int .i64) w A0 l0.length l0) (hc0 : l0.length ≤ c0) (h : laws_heldIntS.f k l0 a1 = some r) :
  Calls Try.prog 15 #[.slice A0 l0.length c0, .int .i64 a1] w fun e w' => e = .returned (.int .i64 r) ∧ Drawn0 w w' := by
 have HR0 := am hr0
 have HC0 := am hc0
 clear hr0 hc0
 have H : (laws_heldIntS.l0 k l0 a1 0) = some r := h
 clear h
 have H' := am H
 clear H
 go_enter Try.func15, Try.ntmps15
 go_wp2
 go_loopg [1, 5] k (fun kq v1 v5 w' => ∃ (x1_1 : Int) (x5_1 : Int), v1 = .int .i64 x1_1 ∧ v5 = .int .i64 x5_1 ∧ Aside0 (laws_heldIntS.l0 kq l0 x1_1 x5_1 = some r) ∧ Aside0 (kq ≤ k) ∧ Drawn0 w w')
 case atStart => exact ⟨(a1), (0), zq2, zq2, H', ⟨Nat.le_refl _⟩, zq4⟩
 case round =>
  clear H'
  try clear c1
  try clear p2
  obtain ⟨x1_1, x5_1, rfl, rfl, HA, HK1, ⟨m1, rfl⟩⟩ := hrel
  cases gk with
  | zero => exact absurd HA.out (by simp [laws_heldIntS.l0])
  | succ k1 =>
   have H := HA.out
   clear HA
   simp only [laws_heldIntS.l0] at H
   by_cases c3 : x5_1 < (l0.length : Int)
   ·rw [if_pos c3] at H
    have c3b0 : decide (x5_1 < (l0.length : Int)) = true := decide_eq_true c3
    clear c3
    by_cases c4 : 0 ≤ x5_1
    ·rw [if_pos c4] at H
     have c4b0 : decide (0 ≤ x5_1) = true := decide_eq_true c4
     clear c4
     by_cases c5 : (rd l0 x5_1) = x1_1
     ·rw [if_pos c5] at H
      have c5b0 : ((rd l0 x5_1) == x1_1) = true := beq_iff_eq.mpr c5
      have c5b1 : ((rd l0 x5_1) != x1_1) = false := bne_eq_false_iff_eq.mpr c5
      clear c5
      have H' := am H
      clear H
      have p311 : 0 ≤ (x5_1 : Int) := of_decide_eq_true zq0
      have q311 : x5_1 < (l0.length : Int) := of_decide_eq_true zq0
      obtain ⟨ad311, e311, hx311_0⟩ := Kd.at_int HR0.out x5_1 p311 q311
      cases e311
      replace p311 := eq_true p311
      replace q311 := eq_true q311
      go_wp2
      go_roundg k1
      case measure => have := HK1.out; omega
      case rel => exact ⟨(wrap64 (x1_1 + 1)), (wrap64 (x5_1 + 1)), zq2, zq2, H', ⟨zq27⟩, zq4⟩
     ·rw [if_neg c5] at H
      have c5b0 : ((rd l0 x5_1) == x1_1) = false := beq_eq_false_iff_ne.mpr c5
      have c5b1 : ((rd l0 x5_1) != x1_1) = true := bne_iff_ne.mpr c5
      obtain rfl := Option.some.inj H
      have p311 : 0 ≤ (x5_1 : Int) := of_decide_eq_true zq0
      have q311 : x5_1 < (l0.length : Int) := of_decide_eq_true zq0
      obtain ⟨ad311, e311, hx311_0⟩ := Kd.at_int HR0.out x5_1 p311 q311
      cases e311
      replace p311 := eq_true p311
      replace q311 := eq_true q311
      go_wp2
      go_ret
      exact ⟨zq2, zq4⟩
    ·rw [if_neg c4] at H
     exact absurd H zq25
   ·rw [if_neg c3] at H
    have c3b0 : decide (x5_1 < (l0.length : Int)) = false := decide_eq_false c3
    clear c3
    obtain rfl := Option.some.inj H
    go_wp2
    go_ret
    exact ⟨zq2, zq4⟩
/-! ### laws_heldLadderS: function 12 -/
def laws_heldLadderS.l0 : Nat → List (S40) → Int → Int → Option (Int)
 | 0, _, _, _ => none
 | k + 1, x0, x1, x5 => if x5 < (x0.length : Int) then (if 0 ≤ x5 then (if ((rd_T40 x0 x5).f0) = x1 then ((laws_heldIntS.f k ((rd_T40 x0 x5).f1) (wrap64 (x1 + 1))).bind fun t314 => (if t314 < 0 then (some (-1)) else (laws_heldLadderS.l0 k x0 t314 (wrap64 (x5 + 1))))) else (some (-1))) else (none)) else (some x1)
def laws_heldLadderS.f (k : Nat) (l0 : List (S40)) (a1 : Int) : Option (Int) := laws_heldLadderS.l0 k l0 a1 0
theorem laws_heldLadderS.mono_l : ∀ k, (∀ y0 y1 y2, LeO (laws_heldLadderS.l0 k y0 y1 y2) (laws_heldLadderS.l0 (k + 1) y0 y1 y2))
 | 0 => fun _ _ _ r h => by simp [laws_heldLadderS.l0] at h
 | k + 1 => by
  have ih0 := laws_heldLadderS.mono_l k
  ·intro y0 y1 y2
   unfold laws_heldLadderS.l0
   repeat' first | (with_reducible first | exact ih0 _ _ _ | exact laws_heldIntS.mono _ _ _ | exact LeO.refl _ | exact LeO.none _ | refine LeO.ite ?_ ?_ | refine LeO.bind ?_ (fun _ => ?_))
theorem laws_heldLadderS.mono : ∀ a0 a1 k, LeO (laws_heldLadderS.f k a0 a1) (laws_heldLadderS.f (k + 1) a0 a1) := by
 intro a0 a1 k
 have ih0 := laws_heldLadderS.mono_l k
 unfold laws_heldLadderS.f
 repeat' first | (with_reducible first | exact ih0 _ _ _ | exact laws_heldIntS.mono _ _ _ | exact LeO.refl _ | exact LeO.none _ | refine LeO.ite ?_ ?_ | refine LeO.bind ?_ (fun _ => ?_))
theorem laws_heldLadderS.calls (k : Nat) (A0 : Option Addr) (c0 : Nat) (l0 : List (S40)) (a1 : Int) (r : Int) (w : World) (hr0 : Kd.C k40 w A0 l0.length l0) (hc0 : l0.length ≤ c0) (h : laws_heldLadderS.f k l0 a1 = some r) :
  Calls Try.prog 12 #[.slice A0 l0.length c0, .int .i64 a1] w fun e w' => e = .returned (.int .i64 r) ∧ Drawn0 w w' := by
 have HR0 := am hr0
 have HC0 := am hc0
 clear hr0 hc0
 have H : (laws_heldLadderS.l0 k l0 a1 0) = some r := h
 clear h
 have H' := am H
 clear H
 go_enter Try.func12, Try.ntmps12
 go_wp2
 go_loopg [1, 5] k (fun kq v1 v5 w' => ∃ (x1_1 : Int) (x5_1 : Int), v1 = .int .i64 x1_1 ∧ v5 = .int .i64 x5_1 ∧ Aside0 (laws_heldLadderS.l0 kq l0 x1_1 x5_1 = some r) ∧ Aside0 (kq ≤ k) ∧ Drawn0 w w')
 case atStart => exact ⟨(a1), (0), zq2, zq2, H', ⟨Nat.le_refl _⟩, zq4⟩
 case round =>
  clear H'
  try clear c1
  try clear p2
  obtain ⟨x1_1, x5_1, rfl, rfl, HA, HK1, ⟨m1, rfl⟩⟩ := hrel
  cases gk with
  | zero => exact absurd HA.out (by simp [laws_heldLadderS.l0])
  | succ k1 =>
   have H := HA.out
   clear HA
   simp only [laws_heldLadderS.l0] at H
   by_cases c3 : x5_1 < (l0.length : Int)
   ·rw [if_pos c3] at H
    have c3b0 : decide (x5_1 < (l0.length : Int)) = true := decide_eq_true c3
    clear c3
    by_cases c4 : 0 ≤ x5_1
    ·rw [if_pos c4] at H
     have c4b0 : decide (0 ≤ x5_1) = true := decide_eq_true c4
     clear c4
     by_cases c5 : ((rd_T40 l0 x5_1).f0) = x1_1
     ·rw [if_pos c5] at H
      have c5b0 : (((rd_T40 l0 x5_1).f0) == x1_1) = true := beq_iff_eq.mpr c5
      have c5b1 : (((rd_T40 l0 x5_1).f0) != x1_1) = false := bne_eq_false_iff_eq.mpr c5
      clear c5
      obtain ⟨t314, A6, H⟩ := zS H
      (try dsimp only at H)
      by_cases c7 : t314 < 0
      ·rw [if_pos c7] at H
       have c7b0 : decide (t314 < 0) = true := decide_eq_true c7
       clear c7
       obtain rfl := Option.some.inj H
       have p312 : 0 ≤ (x5_1 : Int) := of_decide_eq_true zq0
       have q312 : x5_1 < (l0.length : Int) := of_decide_eq_true zq0
       obtain ⟨ad312, A312_1, c312_1, e312, hx312_0, hx312_1, hl312_1, hi312_1⟩ := at_T40 HR0.out x5_1 p312 q312
       cases e312
       have HR312_1 := am hi312_1
       have HC312_1 := am hl312_1
       clear hi312_1 hl312_1
       replace p312 := eq_true p312
       replace q312 := eq_true q312
       have p313 : 0 ≤ (x5_1 : Int) := of_decide_eq_true zq0
       have q313 : x5_1 < (l0.length : Int) := of_decide_eq_true zq0
       obtain ⟨ad313, A313_1, c313_1, e313, hx313_0, hx313_1, hl313_1, hi313_1⟩ := at_T40 HR0.out x5_1 p313 q313
       obtain rfl : ad312 = ad313 := (by injection e313)
       have HR313_1 := am hi313_1
       have HC313_1 := am hl313_1
       clear hi313_1 hl313_1
       replace p313 := eq_true p313
       replace q313 := eq_true q313
       have ea_ := Option.some.inj (hx312_1.symm.trans hx313_1)
       injection ea_ with ea_ en_ ec_
       subst ea_
       subst ec_
       clear en_
       go_wp2_with (first | ((with_reducible refine gate_callee (f := 15) rfl ?_); refine goesL_ (some 27) rfl rfl Try.func15 zq24 rfl #[.slice A312_1 ((rd_T40 l0 x5_1).f1).length c312_1, .int .i64 (wrap64 (x1_1 + 1))] rfl zq3 ?_; (with_reducible refine (laws_heldIntS.calls k1 _ _ ((rd_T40 l0 x5_1).f1) (wrap64 (x1_1 + 1)) t314 _ ?side1 ?side2 A6.out).mono ?_); (case side1 => exact zq82); (case side2 => exact HC313_1.out); rintro e w' ⟨rfl, ⟨nd, rfl⟩⟩; refine ⟨_, rfl, ?_⟩))
       go_ret
       exact ⟨zq2, zq4⟩
      ·rw [if_neg c7] at H
       have c7b0 : decide (t314 < 0) = false := decide_eq_false c7
       clear c7
       have H' := am H
       clear H
       have p312 : 0 ≤ (x5_1 : Int) := of_decide_eq_true zq0
       have q312 : x5_1 < (l0.length : Int) := of_decide_eq_true zq0
       obtain ⟨ad312, A312_1, c312_1, e312, hx312_0, hx312_1, hl312_1, hi312_1⟩ := at_T40 HR0.out x5_1 p312 q312
       cases e312
       have HR312_1 := am hi312_1
       have HC312_1 := am hl312_1
       clear hi312_1 hl312_1
       replace p312 := eq_true p312
       replace q312 := eq_true q312
       have p313 : 0 ≤ (x5_1 : Int) := of_decide_eq_true zq0
       have q313 : x5_1 < (l0.length : Int) := of_decide_eq_true zq0
       obtain ⟨ad313, A313_1, c313_1, e313, hx313_0, hx313_1, hl313_1, hi313_1⟩ := at_T40 HR0.out x5_1 p313 q313
       obtain rfl : ad312 = ad313 := (by injection e313)
       have HR313_1 := am hi313_1
       have HC313_1 := am hl313_1
       clear hi313_1 hl313_1
       replace p313 := eq_true p313
       replace q313 := eq_true q313
       have ea_ := Option.some.inj (hx312_1.symm.trans hx313_1)
       injection ea_ with ea_ en_ ec_
       subst ea_
       subst ec_
       clear en_
       go_wp2_with (first | ((with_reducible refine gate_callee (f := 15) rfl ?_); refine goesL_ (some 27) rfl rfl Try.func15 zq24 rfl #[.slice A312_1 ((rd_T40 l0 x5_1).f1).length c312_1, .int .i64 (wrap64 (x1_1 + 1))] rfl zq3 ?_; (with_reducible refine (laws_heldIntS.calls k1 _ _ ((rd_T40 l0 x5_1).f1) (wrap64 (x1_1 + 1)) t314 _ ?side1 ?side2 A6.out).mono ?_); (case side1 => exact zq82); (case side2 => exact HC313_1.out); rintro e w' ⟨rfl, ⟨nd, rfl⟩⟩; refine ⟨_, rfl, ?_⟩))
       go_roundg k1
       case measure => have := HK1.out; omega
       case rel => exact ⟨(t314), (wrap64 (x5_1 + 1)), zq2, zq2, H', ⟨zq27⟩, zq4⟩
     ·rw [if_neg c5] at H
      have c5b0 : (((rd_T40 l0 x5_1).f0) == x1_1) = false := beq_eq_false_iff_ne.mpr c5
      have c5b1 : (((rd_T40 l0 x5_1).f0) != x1_1) = true := bne_iff_ne.mpr c5
      obtain rfl := Option.some.inj H
      have p312 : 0 ≤ (x5_1 : Int) := of_decide_eq_true zq0
      have q312 : x5_1 < (l0.length : Int) := of_decide_eq_true zq0
      obtain ⟨ad312, A312_1, c312_1, e312, hx312_0, hx312_1, hl312_1, hi312_1⟩ := at_T40 HR0.out x5_1 p312 q312
      cases e312
      have HR312_1 := am hi312_1
      have HC312_1 := am hl312_1
      clear hi312_1 hl312_1
      replace p312 := eq_true p312
      replace q312 := eq_true q312
      go_wp2
      go_ret
      exact ⟨zq2, zq4⟩
    ·rw [if_neg c4] at H
     exact absurd H zq25
   ·rw [if_neg c3] at H
    have c3b0 : decide (x5_1 < (l0.length : Int)) = false := decide_eq_false c3
    clear c3
    obtain rfl := Option.some.inj H
    go_wp2
    go_ret
    exact ⟨zq2, zq4⟩
/-! ### laws_FnExactSlideClasses: function 3 -/
mutual
def laws_FnExactSlideClasses.j0 : Nat → List Int → List (S40) → Bool → List Int → List (S40) → Bool → Bool → Option (Bool)
 | 0, _, _, _, _, _, _, _ => none
 | k + 1, x0, x3, x4, x5, x6, x7, x37 => if x37 = true then (some false) else ((laws_toIntS.f k x0).bind fun t330 => ((laws_eqIntS.f k x5 t330).bind fun t333 => (if t333 = true then ((laws_markIntS.f k x5 1).bind fun bt334 => (if bt334.1 < 0 then (laws_FnExactSlideClasses.j1 k x0 x3 x4 x6 true) else ((laws_eqLadderS.f k x6 x3).bind fun t336 => (if t336 = true then (laws_FnExactSlideClasses.j1 k x0 x3 x4 x6 (x7 != x4)) else (laws_FnExactSlideClasses.j1 k x0 x3 x4 x6 true))))) else (some false))))
def laws_FnExactSlideClasses.j1 : Nat → List Int → List (S40) → Bool → List (S40) → Bool → Option (Bool)
 | 0, _, _, _, _, _ => none
 | k + 1, x0, x3, x4, x6, x58 => if x58 = true then (some false) else ((laws_markLadderS.f k x6 1).bind fun bt337 => ((laws_heldLadderS.f k bt337.2 1).bind fun t339 => (if t339 < 0 then (some false) else (if t339 = bt337.1 then ((laws_toIntS.f k x0).bind fun t340 => ((impl_SlideClasses.f t340).bind fun bt343 => ((laws_eqLadderS.f k bt343.1 x3).bind fun t347 => (if t347 = true then (laws_FnExactSlideClasses.j2 k bt337.2 bt337.1 (bt343.2 != x4)) else (laws_FnExactSlideClasses.j2 k bt337.2 bt337.1 true))))) else (some false)))))
def laws_FnExactSlideClasses.j2 : Nat → List (S40) → Int → Bool → Option (Bool)
 | 0, _, _, _ => none
 | k + 1, x6, x9, x84 => if x84 = true then (some false) else ((laws_heldLadderS.f k x6 1).bind fun t348 => (if t348 < 0 then (some false) else (if t348 = x9 then (some true) else (some false))))
end
def laws_FnExactSlideClasses.f (k : Nat) (l0 : List Int) : Option (Bool) := if (l0.length : Int) > 1048576 then (some true) else ((laws_toIntS.f k l0).bind fun t315 => ((spec_SlideClasses.f k t315).bind fun bt318 => ((laws_toIntS.f k l0).bind fun t322 => ((impl_SlideClasses.f t322).bind fun bt325 => ((laws_eqLadderS.f k bt325.1 bt318.1).bind fun t329 => (if t329 = true then (laws_FnExactSlideClasses.j0 k l0 bt318.1 bt318.2 t322 bt325.1 bt325.2 (bt325.2 != bt318.2)) else (laws_FnExactSlideClasses.j0 k l0 bt318.1 bt318.2 t322 bt325.1 bt325.2 true)))))))
theorem laws_FnExactSlideClasses.mono_l : ∀ k, (∀ y0 y1 y2 y3 y4 y5 y6, LeO (laws_FnExactSlideClasses.j0 k y0 y1 y2 y3 y4 y5 y6) (laws_FnExactSlideClasses.j0 (k + 1) y0 y1 y2 y3 y4 y5 y6)) ∧ (∀ y0 y1 y2 y3 y4, LeO (laws_FnExactSlideClasses.j1 k y0 y1 y2 y3 y4) (laws_FnExactSlideClasses.j1 (k + 1) y0 y1 y2 y3 y4)) ∧ (∀ y0 y1 y2, LeO (laws_FnExactSlideClasses.j2 k y0 y1 y2) (laws_FnExactSlideClasses.j2 (k + 1) y0 y1 y2))
 | 0 => ⟨fun _ _ _ _ _ _ _ r h => by simp [laws_FnExactSlideClasses.j0] at h, fun _ _ _ _ _ r h => by simp [laws_FnExactSlideClasses.j1] at h, fun _ _ _ r h => by simp [laws_FnExactSlideClasses.j2] at h⟩
 | k + 1 => by
  obtain ⟨ih0, ih1, ih2⟩ := laws_FnExactSlideClasses.mono_l k
  refine ⟨?_, ?_, ?_⟩
  ·intro y0 y1 y2 y3 y4 y5 y6
   unfold laws_FnExactSlideClasses.j0
   repeat' first | (with_reducible first | exact ih0 _ _ _ _ _ _ _ | exact ih1 _ _ _ _ _ | exact ih2 _ _ _ | exact laws_eqIntS.mono _ _ _ | exact laws_eqLadderS.mono _ _ _ | exact laws_heldLadderS.mono _ _ _ | exact laws_markIntS.mono _ _ _ | exact laws_markLadderS.mono _ _ _ | exact laws_toIntS.mono _ _ | exact spec_SlideClasses.mono _ _ | exact LeO.refl _ | exact LeO.none _ | refine LeO.ite ?_ ?_ | refine LeO.bind ?_ (fun _ => ?_))
  ·intro y0 y1 y2 y3 y4
   unfold laws_FnExactSlideClasses.j1
   repeat' first | (with_reducible first | exact ih0 _ _ _ _ _ _ _ | exact ih1 _ _ _ _ _ | exact ih2 _ _ _ | exact laws_eqIntS.mono _ _ _ | exact laws_eqLadderS.mono _ _ _ | exact laws_heldLadderS.mono _ _ _ | exact laws_markIntS.mono _ _ _ | exact laws_markLadderS.mono _ _ _ | exact laws_toIntS.mono _ _ | exact spec_SlideClasses.mono _ _ | exact LeO.refl _ | exact LeO.none _ | refine LeO.ite ?_ ?_ | refine LeO.bind ?_ (fun _ => ?_))
  ·intro y0 y1 y2
   unfold laws_FnExactSlideClasses.j2
   repeat' first | (with_reducible first | exact ih0 _ _ _ _ _ _ _ | exact ih1 _ _ _ _ _ | exact ih2 _ _ _ | exact laws_eqIntS.mono _ _ _ | exact laws_eqLadderS.mono _ _ _ | exact laws_heldLadderS.mono _ _ _ | exact laws_markIntS.mono _ _ _ | exact laws_markLadderS.mono _ _ _ | exact laws_toIntS.mono _ _ | exact spec_SlideClasses.mono _ _ | exact LeO.refl _ | exact LeO.none _ | refine LeO.ite ?_ ?_ | refine LeO.bind ?_ (fun _ => ?_))
theorem laws_FnExactSlideClasses.mono : ∀ a0 k, LeO (laws_FnExactSlideClasses.f k a0) (laws_FnExactSlideClasses.f (k + 1) a0) := by
 intro a0 k
 obtain ⟨ih0, ih1, ih2⟩ := laws_FnExactSlideClasses.mono_l k
 unfold laws_FnExactSlideClasses.f
 repeat' first | (with_reducible first | exact ih0 _ _ _ _ _ _ _ | exact ih1 _ _ _ _ _ | exact ih2 _ _ _ | exact laws_eqIntS.mono _ _ _ | exact laws_eqLadderS.mono _ _ _ | exact laws_heldLadderS.mono _ _ _ | exact laws_markIntS.mono _ _ _ | exact laws_markLadderS.mono _ _ _ | exact laws_toIntS.mono _ _ | exact spec_SlideClasses.mono _ _ | exact LeO.refl _ | exact LeO.none _ | refine LeO.ite ?_ ?_ | refine LeO.bind ?_ (fun _ => ?_))
theorem laws_FnExactSlideClasses.calls (k : Nat) (A0 : Option Addr) (c0 : Nat) (l0 : List Int) (w : World) (hr0 : Kd.C (Kd.int .i64) w A0 l0.length l0) (hc0 : l0.length ≤ c0) (h : laws_FnExactSlideClasses.f k l0 = some true) :
  Calls Try.prog 3 #[.slice A0 l0.length c0] w fun e w' => e = .returned (.bool true) ∧ Below w.heap.size w w' := by
 have HR0 := am hr0
 have HC0 := am hc0
 clear hr0 hc0
 unfold laws_FnExactSlideClasses.f at h
 by_cases c2 : (l0.length : Int) > 1048576
 ·have c2b0 : decide (1048576 < (l0.length : Int)) = true := decide_eq_true c2
  have c2b1 : decide (1048576 < l0.length) = true := decide_eq_true zq11
  clear c2 h
  go_enter Try.func3, Try.ntmps3
  go_wp2
  go_ret
  exact ⟨zq2, zq22⟩
 ·have c2b0 : decide (1048576 < (l0.length : Int)) = false := decide_eq_false c2
  have c2b1 : decide (1048576 < l0.length) = false := decide_eq_false zq11
  rw [if_neg c2] at h
  clear c2
  replace h := Option.bind_eq_some_iff.1 h
  obtain ⟨t0, a1, h⟩ := h
  replace h := Option.bind_eq_some_iff.1 h
  obtain ⟨⟨s, sb⟩, a2, h⟩ := h
  replace h := Option.bind_eq_some_iff.1 h
  obtain ⟨t1, a3, h⟩ := h
  obtain rfl : t0 = t1 := Option.some.inj (a1.symm.trans a3)
  replace h := Option.bind_eq_some_iff.1 h
  obtain ⟨⟨g, gb⟩, a4, h⟩ := h
  replace h := Option.bind_eq_some_iff.1 h
  obtain ⟨e1, a5, h⟩ := h
  replace h : (if e1 = true then laws_FnExactSlideClasses.j0 k l0 s sb t0 g gb (gb != sb) else laws_FnExactSlideClasses.j0 k l0 s sb t0 g gb true) = some true := h
  cases k with
  | zero => exfalso; cases e1 <;> simp [laws_FnExactSlideClasses.j0] at h
  | succ k1 =>
  cases e1 with
  | false => exfalso; simp [laws_FnExactSlideClasses.j0] at h
  | true =>
  rw [if_pos rfl] at h
  simp only [laws_FnExactSlideClasses.j0] at h
  by_cases b1 : (gb != sb) = true
  ·rw [if_pos b1] at h; cases h
  rw [if_neg b1] at h
  obtain rfl : gb = sb := by simpa using b1
  clear b1
  replace h := Option.bind_eq_some_iff.1 h
  obtain ⟨t2, a6, h⟩ := h
  replace h := Option.bind_eq_some_iff.1 h
  obtain ⟨e2, a7, h⟩ := h
  cases e2 with
  | false => exfalso; simp at h
  | true =>
  rw [if_pos rfl] at h
  replace h := Option.bind_eq_some_iff.1 h
  obtain ⟨⟨kx, x'⟩, a8, h⟩ := h
  dsimp only at h
  by_cases b2 : kx < 0
  ·exfalso; rw [if_pos b2] at h; cases k1 <;> simp [laws_FnExactSlideClasses.j1] at h
  rw [if_neg b2] at h
  replace h := Option.bind_eq_some_iff.1 h
  obtain ⟨e3, a9, h⟩ := h
  cases k1 with
  | zero => exfalso; cases e3 <;> simp [laws_FnExactSlideClasses.j1] at h
  | succ k2 =>
  cases e3 with
  | false => exfalso; simp [laws_FnExactSlideClasses.j1] at h
  | true =>
  rw [if_pos rfl] at h
  simp only [laws_FnExactSlideClasses.j1] at h
  rw [if_neg zq25] at h
  replace h := Option.bind_eq_some_iff.1 h
  obtain ⟨⟨m, g'⟩, a10, h⟩ := h
  replace h := Option.bind_eq_some_iff.1 h
  obtain ⟨q, a11, h⟩ := h
  by_cases b3 : q < 0
  ·exfalso; rw [if_pos b3] at h; cases h
  rw [if_neg b3] at h
  by_cases b4 : q = m
  ·rw [if_pos b4] at h
   subst b4
   replace h := Option.bind_eq_some_iff.1 h
   obtain ⟨t3, a12, h⟩ := h
   replace h := Option.bind_eq_some_iff.1 h
   obtain ⟨⟨hh, hb⟩, a13, h⟩ := h
   replace h := Option.bind_eq_some_iff.1 h
   obtain ⟨e4, a14, h⟩ := h
   replace h : (if e4 = true then laws_FnExactSlideClasses.j2 k2 g' q (hb != gb) else laws_FnExactSlideClasses.j2 k2 g' q true) = some true := h
   cases k2 with
   | zero => exfalso; cases e4 <;> simp [laws_FnExactSlideClasses.j2] at h
   | succ k3 =>
   cases e4 with
   | false => exfalso; simp [laws_FnExactSlideClasses.j2] at h
   | true =>
   rw [if_pos rfl] at h
   simp only [laws_FnExactSlideClasses.j2] at h
   by_cases b5 : (hb != gb) = true
   ·rw [if_pos b5] at h; cases h
   rw [if_neg b5] at h
   obtain rfl : hb = gb := by simpa using b5
   clear b5
   replace h := Option.bind_eq_some_iff.1 h
   obtain ⟨q2, a15, h⟩ := h
   by_cases b6 : q2 < 0
   ·exfalso; rw [if_pos b6] at h; cases h
   rw [if_neg b6] at h
   have b7 : q2 = q := by
    by_cases b7 : q2 = q
    ·exact b7
    ·exfalso; rw [if_neg b7] at h; cases h
   subst b7
   clear h
   have c3b0 : decide (kx < 0) = false := decide_eq_false b2
   have c4b0 : decide (q2 < 0) = false := decide_eq_false b3
   clear b2 b3 b6
   have A1 := am a1
   have A2 := am a2
   have A3 := am a3
   have A4 := am a4
   have A5 := am a5
   have A6 := am a6
   have A7 := am a7
   have A8 := am a8
   have A9 := am a9
   have A10 := am a10
   have A11 := am a11
   have A12 := am a12
   have A13 := am a13
   have A14 := am a14
   have A15 := am a15
   clear a1 a2 a3 a4 a5 a6 a7 a8 a9 a10 a11 a12 a13 a14 a15
   have HB := am (Below.refl w.heap.size w)
   have tok0 := am True.intro
   go_enter Try.func3, Try.ntmps3
   have c2b2 := c2b0
   go_upto_region 6 with (first | (go_at_call 6; have tk_ := tok0; clear tk_ tok0; (with_reducible refine (laws_toIntS.calls _ _ _ l0 t0 _ ?side1 ?side2 A1.out).mono ?_); (case side1 => (repeat (first | exact HR0.out | (with_reducible refine Kd.C_alloc ?_ _) | (with_reducible refine Kd.C_drewN ?_ _) | (with_reducible refine Kd.C_drew ?_)))); (case side2 => exact HC0.out); rintro e w1 ⟨v_, rfl, ho, hb⟩; have n0_ := am ho; have n1_ := am (below_step (pBq7 HB) hb); clear HB; have HT := n0_; clear n0_; have HB := n1_; clear n1_; obtain ⟨A_HT, c_HT, e_HT⟩ := Kd.R_slice HT.out; subst e_HT; clear ho hb; have tok1 := am True.intro) | (go_at_call 5; have tk_ := tok1; clear tk_ tok1; (with_reducible refine (spec_SlideClasses.calls _ _ _ t0 s _ _ ?side1 ?side2 A2.out).mono ?_); (case side1 => exact zq41); (case side2 => exact (Kd.R_reads' HT.out).2.1); rintro e w2 ⟨v_, rfl, ho, hb⟩; replace HB := am (below_step (pBq7 HB) hb); obtain ⟨A_HW, c_HW, e_HW⟩ := Kd.N_slice ho; subst e_HW; have HW := am (Kd.N_reads' ho).2.2; have HWc := am (Kd.N_reads' ho).2.1; have HU := am (Below.refl w2.heap.size w2); clear ho hb HT; have tok2 := am True.intro) | (go_at_call 6; have tk_ := tok2; clear tk_ tok2; (with_reducible refine (laws_toIntS.calls _ _ _ l0 t0 _ ?side1 ?side2 A3.out).mono ?_); (case side1 => exact zq38); (case side2 => exact HC0.out); rintro e w3 ⟨v_, rfl, ho, hb⟩; have n0_ := am (Kd.R_lower ho (below_size zq6)); have n1_ := am (below_step zq6 hb); clear HU; have HX := n0_; clear n0_; have HU := n1_; clear n1_; obtain ⟨A_HX, c_HX, e_HX⟩ := Kd.R_slice HX.out; subst e_HX; clear ho hb; have tok3 := am True.intro) | (go_at_call 7; have tk_ := tok3; clear tk_ tok3; (with_reducible refine (impl_SlideClasses.calls _ _ t0 g _ _ ?side1 ?side2 A4.out).mono ?_); (case side1 => exact zq81); (case side2 => exact (Kd.R_reads' HX.out).2.1); rintro e w4 ⟨v_, rfl, ho, hb⟩; have HXl := am (Kd.R_lt HX.out); have HG := am ho; have HWl := am (below_size zq6); have n0_ := am (Kd.R_below zq35 hb); have n1_ := am (below_step zq6 hb); clear HX HU; have HX := n0_; clear n0_; have HU := n1_; clear n1_; obtain ⟨A_HG, c_HG, e_HG⟩ := Kd.S_slice HG.out; subst e_HG; clear ho hb; have tok4 := am True.intro))
   (try simp only [Act.put, setIfInBounds_toArray, set_cons_zero, set_cons_succ])
   go_cut [37] (fun v wc => v = .bool false ∧ Aside0 (Kd.R (Kd.int .i64) 3 wc w2.heap.size (fun _ => True) (.slice A_HX t0.length c_HX) t0) ∧ Aside0 (Kd.S k40 40 wc w3.heap.size (fun _ => True) (.slice A_HG g.length c_HG) g) ∧ Aside0 (Below w2.heap.size w2 wc))
   case first =>
    go_wp2_with (first | (go_at_call 8; have tk_ := tok4; clear tk_ tok4; (with_reducible refine (laws_eqLadderS.calls _ _ _ g _ _ s true _ ?side1 ?side2 ?side3 ?side4 A5.out).mono ?_); (case side1 => exact zq31); (case side2 => exact (Kd.S_reads' HG.out).2.1); (case side3 => exact zq39); (case side4 => exact HWc.out); rintro e w' ⟨rfl, hb⟩; have n0_ := am (Kd.R_below zq35 hb); have n1_ := am (Kd.S_below zq16 hb); have n2_ := am (below_step zq6 hb); clear HX HG HU; have HX := n0_; clear n0_; have HG := n1_; clear n1_; have HU := n2_; clear n2_; clear hb; have tok5 := am True.intro))
    go_meet
    case rel => exact ⟨zq2, ⟨zq35⟩, ⟨zq16⟩, ⟨zq6⟩⟩
   case rest =>
    clear HX HG HU
    obtain ⟨rfl, HX, HG, HU⟩ := hcut
    have tok5 := am True.intro
    go_upto_region 12 with (first | (go_at_call 6; have tk_ := tok5; clear tk_ tok5; (with_reducible refine (laws_toIntS.calls _ _ _ l0 t2 _ ?side1 ?side2 A6.out).mono ?_); (case side1 => exact zq38); (case side2 => exact HC0.out); rintro e w5 ⟨v_, rfl, ho, hb⟩; have HT := am ho; have n0_ := am (Kd.R_below zq35 hb); have n1_ := am (Kd.S_below zq16 hb); have n2_ := am (below_step zq6 hb); clear HX HG HU; have HX := n0_; clear n0_; have HG := n1_; clear n1_; have HU := n2_; clear n2_; obtain ⟨A_HT, c_HT, e_HT⟩ := Kd.R_slice HT.out; subst e_HT; clear ho hb; have tok6 := am True.intro) | (go_at_call 9; have tk_ := tok6; clear tk_ tok6; (with_reducible refine (laws_eqIntS.calls _ _ _ t0 _ _ t2 true _ ?side1 ?side2 ?side3 ?side4 A7.out).mono ?_); (case side1 => exact zq81); (case side2 => exact (Kd.R_reads' HX.out).2.1); (case side3 => exact zq41); (case side4 => exact (Kd.R_reads' HT.out).2.1); rintro e w' ⟨rfl, ⟨nd, rfl⟩⟩; clear HT; have tok7 := am True.intro) | (go_at_call 10; have tk_ := tok7; clear tk_ tok7; (with_reducible refine (laws_markIntS.calls _ (fun k_ => some k_ = (Value.slice A_HX t0.length c_HX).ownBlock) _ t0 _ kx x' w2 _ ?side1 ?side2 A8.out).mono ?_); (case side1 => exact zq6); (case side2 => exact Kd.R_tight rfl zq35); rintro e w6 ⟨rfl, ho, hb, hk⟩; have n0_ := am (Kd.S_step (Kd.S_bound zq16) (fun k_ h1_ h2_ => hk.2 k_ h2_ (fun h3_ => by have h4_ := HXl.out k_ h3_.symm; have h5_ := h1_.2.1; have h6_ : k_ < k_ := Nat.lt_of_lt_of_le h4_ h5_; omega))); have n1_ := am hb; clear HG HU; have HG := n0_; clear n0_; have HU := n1_; clear n1_; clear HX HXl ho hb hk; have tok8 := am True.intro))
    (try simp only [Act.put, setIfInBounds_toArray, set_cons_zero, set_cons_succ])
    go_cut [58] (fun v wc => v = .bool false ∧ Aside0 (Kd.S k40 40 wc w3.heap.size (fun _ => True) (.slice A_HG g.length c_HG) g) ∧ Aside0 (Below w2.heap.size w2 wc))
    case first =>
     go_wp2_with (first | (go_at_call 8; have tk_ := tok8; clear tk_ tok8; (with_reducible refine (laws_eqLadderS.calls _ _ _ g _ _ s true _ ?side1 ?side2 ?side3 ?side4 A9.out).mono ?_); (case side1 => exact zq31); (case side2 => exact (Kd.S_reads' HG.out).2.1); (case side3 => exact zq39); (case side4 => exact HWc.out); rintro e w' ⟨rfl, hb⟩; have n0_ := am (Kd.S_below zq16 hb); have n1_ := am (below_step zq6 hb); clear HG HU; have HG := n0_; clear n0_; have HU := n1_; clear n1_; clear hb; have tok9 := am True.intro))
     go_meet
     case rel => exact ⟨zq2, ⟨Kd.S_mono zq16 (fun _ _ => trivial)⟩, ⟨zq6⟩⟩
    case rest =>
     clear HG HU
     obtain ⟨rfl, HG, HU⟩ := hcut
     have tok9 := am True.intro
     go_upto_region 23 with (first | (go_at_call 11; have tk_ := tok9; clear tk_ tok9; (with_reducible refine (laws_markLadderS.calls _ (fun _ => True) _ g _ q2 g' w2 _ ?side1 ?side2 A10.out).mono ?_); (case side1 => exact zq6); (case side2 => exact Kd.S_mono (Kd.S_lower zq16 HWl.out) (fun _ _ => trivial)); rintro e w7 ⟨rfl, ho, hb, hk⟩; have n0_ := am ho; have n1_ := am hb; clear HG HU; have HG := n0_; clear n0_; have HU := n1_; clear n1_; clear ho hb hk; have tok10 := am True.intro) | (go_at_call 12; have tk_ := tok10; clear tk_ tok10; refine calls_of_args (args' := #[.slice A_HG g'.length c_HG, .int .i64 1]) (by rw [(Kd.S_reads' HG.out).1]) ?_; (with_reducible refine (laws_heldLadderS.calls _ _ _ g' _ q2 _ ?side1 ?side2 A11.out).mono ?_); (case side1 => exact zq31); (case side2 => have h_ := Kd.S_reads' HG.out; have h1_ := h_.1; have h2_ := h_.2.1; omega); rintro e w' ⟨rfl, ⟨nd, rfl⟩⟩; have tok11 := am True.intro) | (go_at_call 6; have tk_ := tok11; clear tk_ tok11; (with_reducible refine (laws_toIntS.calls _ _ _ l0 t3 _ ?side1 ?side2 A12.out).mono ?_); (case side1 => exact zq38); (case side2 => exact HC0.out); rintro e w8 ⟨v_, rfl, ho, hb⟩; have HT := am ho; have n0_ := am (Kd.S_below zq16 hb); have n1_ := am (below_step zq6 hb); clear HG HU; have HG := n0_; clear n0_; have HU := n1_; clear n1_; obtain ⟨A_HT, c_HT, e_HT⟩ := Kd.R_slice HT.out; subst e_HT; clear ho hb; have tok12 := am True.intro) | (go_at_call 7; have tk_ := tok12; clear tk_ tok12; (with_reducible refine (impl_SlideClasses.calls _ _ t3 hh _ _ ?side1 ?side2 A13.out).mono ?_); (case side1 => exact zq41); (case side2 => exact (Kd.R_reads' HT.out).2.1); rintro e w9 ⟨v_, rfl, ho, hb⟩; have HH := am ho; have n0_ := am (Kd.S_below zq16 hb); have n1_ := am (below_step zq6 hb); clear HG HU; have HG := n0_; clear n0_; have HU := n1_; clear n1_; obtain ⟨A_HH, c_HH, e_HH⟩ := Kd.S_slice HH.out; subst e_HH; clear ho hb HT; have tok13 := am True.intro))
     (try simp only [Act.put, setIfInBounds_toArray, set_cons_zero, set_cons_succ])
     go_cut [84] (fun v wc => v = .bool false ∧ Aside0 (Kd.S k40 40 wc w2.heap.size (fun _ => True) (.slice A_HG g.length c_HG) g') ∧ Aside0 (Below w2.heap.size w2 wc))
     case first =>
      go_wp2_with (first | (go_at_call 8; have tk_ := tok13; clear tk_ tok13; (with_reducible refine (laws_eqLadderS.calls _ _ _ hh _ _ s true _ ?side1 ?side2 ?side3 ?side4 A14.out).mono ?_); (case side1 => (repeat (first | exact (Kd.S_reads' HH.out).2.2 | (with_reducible refine Kd.C_alloc ?_ _) | (with_reducible refine Kd.C_drewN ?_ _) | (with_reducible refine Kd.C_drew ?_)))); (case side2 => exact (Kd.S_reads' HH.out).2.1); (case side3 => exact zq39); (case side4 => exact HWc.out); rintro e w' ⟨rfl, hb⟩; have n0_ := am (Kd.S_below zq16 hb); have n1_ := am (below_step zq6 hb); clear HG HU; have HG := n0_; clear n0_; have HU := n1_; clear n1_; clear hb; clear HH; have tok14 := am True.intro))
      go_meet
      case rel => exact ⟨zq2, ⟨Kd.S_mono zq16 (fun _ _ => trivial)⟩, ⟨zq6⟩⟩
     case rest =>
      clear HG HU
      obtain ⟨rfl, HG, HU⟩ := hcut
      have tok14 := am True.intro
      go_wp2_with (first | (go_at_call 12; have tk_ := tok14; clear tk_ tok14; refine calls_of_args (args' := #[.slice A_HG g'.length c_HG, .int .i64 1]) (by rw [(Kd.S_reads' HG.out).1]) ?_; (with_reducible refine (laws_heldLadderS.calls _ _ _ g' _ q2 _ ?side1 ?side2 A15.out).mono ?_); (case side1 => exact zq31); (case side2 => have h_ := Kd.S_reads' HG.out; have h1_ := h_.1; have h2_ := h_.2.1; omega); rintro e w' ⟨rfl, ⟨nd, rfl⟩⟩; have tok15 := am True.intro))
      go_ret
      exact ⟨zq2, below_step HB.out zq6⟩
  ·exfalso; rw [if_neg b4] at h; cases h
/-- THE ONE PURE STATEMENT of laws_FnExactSlideClasses. -/
def laws_FnExactSlideClasses.Pure : Prop := ∀ (l0 : List Int), l0.length ≤ maxLen → l0.length * 8 ≤ 140737488351232 → (∀ x ∈ l0, (Lit.int .i64 x).wf = true) → ∃ k, laws_FnExactSlideClasses.f k l0 = some true
theorem laws_FnExactSlideClasses.walk (P : laws_FnExactSlideClasses.Pure) (a0 : Option Addr) (len0 cap0 : Nat) (z0 : List Int) (w : World) (w0 : (a0 = none ∧ len0 = 0 ∧ cap0 = 0 ∧ z0 = []) ∨ ∃ x, a0 = some x ∧ len0 ≤ cap0 ∧ cap0 ≤ maxLen ∧ z0.length = cap0 ∧ (∀ i, i < z0.length → w.cell? (x.add i) = some (.int .i64 (z0.getD i 0))) ∧ ∀ n ∈ z0, (Lit.int .i64 n).wf = true) (y0 : len0 * 8 ≤ 140737488351232) :
  Calls Try.prog 3 #[.slice a0 len0 cap0] w fun e w' => e = .returned (.bool true) ∧ Below w.heap.size w w' := by
 obtain ⟨l0, rfl, hr0, hm0, hw0, hc0⟩ := ReadsInt.ofRowC w0
 obtain ⟨k, h⟩ := P l0 hm0 y0 hw0
 refine (laws_FnExactSlideClasses.calls k _ _ l0 w (Kd.C_of_reads (d := (0 : Int)) (h1 := fun _ => rfl) hr0) hc0 h).mono ?_
 rintro e w' ⟨rfl, hd⟩
 exact ⟨rfl, hd⟩
end
end Go.Proofs.Ytlmiiijjjcddkaa.PKa
