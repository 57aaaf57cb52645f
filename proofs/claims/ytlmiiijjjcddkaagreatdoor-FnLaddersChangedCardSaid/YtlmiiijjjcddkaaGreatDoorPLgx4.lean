-- Written for this claim by a program of this session (myprint.py) over the kit's printer.
import Derived.Test.YtlmiiijjjcddkaaGreatDoorPLgx0
import Derived.Test.YtlmiiijjjcddkaaGreatDoorPLgx1
import Derived.Test.YtlmiiijjjcddkaaGreatDoorPLgx3
namespace Go.Proofs.YtlmiiijjjcddkaaGreatDoor.PLg
noncomputable section
open Go.RowKit Go.Proofs.YtlmiiijjjcddkaaGreatDoorW.PrintWords Go.Proofs.YtlmiiijjjcddkaaGreatDoorW.PrintLast Go.Proofs.YtlmiiijjjcddkaaGreatDoorW.PrintMore
attribute [local go_sem] max2_int min2_int max_two min_two max_three min_three max_four min_four   -- for this text's walks alone
set_option maxHeartbeats 8000000
set_option maxRecDepth 100000
set_option linter.unusedVariables false
set_option linter.unusedSimpArgs false
/-! ### impl_result: function 110 -/
def impl_result.l0 : Nat → Int → List Int → List Int → Int → Int → Option (List Int)
 | 0, _, _, _, _, _ => none
 | k + 1, x0, x1, x5, x9, x10 => if x10 < x9 then ((impl_way.f k x0 x1 x10).bind fun t278 => (if 0 ≤ (wrap64 ((t278.length : Int) - 1)) then (if (wrap64 ((t278.length : Int) - 1)) < (t278.length : Int) then (if x5.length < 17592186044416 then (impl_result.l0 k x0 x1 (x5 ++ [rd t278 (wrap64 ((t278.length : Int) - 1))]) x9 (wrap64 (x10 + 1))) else (none)) else (none)) else (none))) else (some x5)
def impl_result.f (k : Nat) (a0 : Int) (l1 : List Int) : Option (List Int) := impl_result.l0 k a0 l1 (([] : List Int)) a0 0
theorem impl_result.mono_l : ∀ k, (∀ y0 y1 y2 y3 y4, LeO (impl_result.l0 k y0 y1 y2 y3 y4) (impl_result.l0 (k + 1) y0 y1 y2 y3 y4))
 | 0 => fun _ _ _ _ _ r h => by simp [impl_result.l0] at h
 | k + 1 => by
  have ih0 := impl_result.mono_l k
  ·intro y0 y1 y2 y3 y4
   unfold impl_result.l0
   repeat' first | (with_reducible first | exact ih0 _ _ _ _ _ | exact impl_way.mono _ _ _ _ | exact LeO.refl _ | exact LeO.none _ | refine LeO.ite ?_ ?_ | refine LeO.bind ?_ (fun _ => ?_))
theorem impl_result.mono : ∀ a0 a1 k, LeO (impl_result.f k a0 a1) (impl_result.f (k + 1) a0 a1) := by
 intro a0 a1 k
 have ih0 := impl_result.mono_l k
 unfold impl_result.f
 repeat' first | (with_reducible first | exact ih0 _ _ _ _ _ | exact impl_way.mono _ _ _ _ | exact LeO.refl _ | exact LeO.none _ | refine LeO.ite ?_ ?_ | refine LeO.bind ?_ (fun _ => ?_))
theorem impl_result.calls (k : Nat) (a0 : Int) (A1 : Option Addr) (c1 : Nat) (l1 : List Int) (r : List Int) (w : World) (hr1 : Kd.C (Kd.int .i64) w A1 l1.length l1) (hc1 : l1.length ≤ c1) (h : impl_result.f k a0 l1 = some r) :
  Calls Tryz.prog 110 #[.int .i64 a0, .slice A1 l1.length c1] w fun e w' => ∃ v0_ : Value, e = .returned (v0_) ∧ Kd.R (Kd.int .i64) 3 w' w.heap.size (fun _ => True) v0_ r ∧ Below w.heap.size w w' := by
 have hu26 := Tryz.underlying26
 have HR1 := am hr1
 have HC1 := am hc1
 clear hr1 hc1
 have HB := am (Below.refl w.heap.size w)
 unfold impl_result.f at h
 have H := h
 clear h
 obtain ⟨y275, Ny275⟩ : ∃ y_ : List Int, Aside0 (y_ = (([] : List Int))) := ⟨_, ⟨rfl⟩⟩
 rw [← Ny275.out] at H
 have H' := am H
 clear H
 go_enter Tryz.func110, Tryz.ntmps110
 go_wp2_with (first | ((with_reducible refine gate_dst (N := 8) rfl ?_); refine Kd.R_lit (Kd.int .i64) _ 3 ?hg (N := 8) ?hd (xs := ([] : List Int)) (inner := []) (ok := fun _ => True) (okp := fun _ => True) ?hr ?hp (fun _ hk => hk) trivial (Below.refl _ _) (Nat.le_refl _) zq42 ?_; (case hd => rfl); (case hg => rfl); (case hr => exact zq30); (case hp => exact (Reps.none _ _)); intro v276 w3 ho4 hb hg_ hnew_; clear hg_ hnew_; (first | rw [← Ny275.out] at ho4 | (simp only [Int.reduceToNat] at ho4; rw [← Ny275.out] at ho4)); have HO277 := am (Kd.R_lower ho4 (below_size (pBq HB))); replace HB := sB HB hb; clear hb ho4))
 go_loopg [5, 10] k (fun kq v5 v10 w' => ∃ (x5_1 : List Int) (x10_1 : Int), v10 = .int .i64 x10_1 ∧ Aside0 (impl_result.l0 kq a0 l1 x5_1 a0 x10_1 = some r) ∧ Aside0 (kq ≤ k) ∧ Aside0 (Kd.R (Kd.int .i64) 3 w' w.heap.size (fun _ => True) v5 x5_1) ∧ Aside0 (Below w.heap.size w w'))
 case atStart => exact ⟨(y275), (0), zq10, H', ⟨Nat.le_refl _⟩, ⟨by (with_reducible repeat (first | apply Kd.R_alloc | apply Kd.R_drewN | apply Kd.R_drew)); exact HO277.out⟩, ⟨zq13⟩⟩
 case round =>
  clear H'
  obtain ⟨x5_1, x10_1, rfl, HA, HK1, HO_5, HB⟩ := hrel
  cases gk with
  | zero => exact absurd HA.out (by simp [impl_result.l0])
  | succ k1 =>
   have H := HA.out
   clear HA
   simp only [impl_result.l0] at H
   by_cases c5 : x10_1 < a0
   ·rw [if_pos c5] at H
    have c5b0 := decide_eq_true c5
    clear c5
    obtain ⟨t278, A6, H⟩ := zS H
    (try dsimp only at H)
    obtain ⟨ji7, hji7⟩ : ∃ j_ : Int, (wrap64 ((t278.length : Int) - 1)) = j_ := ⟨_, rfl⟩
    replace H : (if 0 ≤ (ji7) then (if (ji7) < (t278.length : Int) then (if x5_1.length < 17592186044416 then (impl_result.l0 k1 a0 l1 (x5_1 ++ [rd t278 (ji7)]) a0 (wrap64 (x10_1 + 1))) else (none)) else (none)) else (none)) = some r := by first | (rw [hji7] at H; exact H) | (simp only [hji7] at H ⊢; exact H)
    (try rw [hji7] at A6)
    have hji7w : (IntKind.i64.wrap ((t278.length : Int) - 1)) = ji7 := (i64_w _).trans hji7
    obtain ⟨c8, H⟩ := zI H
    have c8b0 := decide_eq_true c8
    clear c8
    obtain ⟨c9, H⟩ := zI H
    have c9b0 := decide_eq_true c9
    clear c9
    obtain ⟨c10, H⟩ := zI H
    have LMc10 := am c10
    clear c10
    obtain ⟨y282, Ny282⟩ : ∃ y_ : List Int, Aside0 (y_ = (x5_1 ++ [rd t278 (ji7)])) := ⟨_, ⟨rfl⟩⟩
    rw [← Ny282.out] at H
    have H' := am H
    clear H
    go_wp2_with (first | ((with_reducible refine gate_callee (f := 132) rfl ?_); refine goesL_ (some 17) rfl rfl Tryz.func132 zq15 rfl #[.agg #[.int .i64 a0, .slice A1 l1.length c1], .int .i64 x10_1] rfl zq0 ?_; (with_reducible refine (impl_way.calls k1 a0 _ _ l1 x10_1 t278 _ ?side1 ?side2 A6.out).mono ?_); (case side1 => repeat (first | exact (Kd.C_below HR1.out HB.out) | (with_reducible refine Kd.C_alloc ?_ _) | (with_reducible refine Kd.C_drewN ?_ _) | (with_reducible refine Kd.C_drew ?_))); (case side2 => exact HC1.out); rintro e w11 ⟨v279, rfl, ho0, hb⟩; refine ⟨_, rfl, ?_⟩; have HO280 := am (Kd.R_lower (Kd.R_new' ho0 (Kd.R_lt (pRq HO_5))) (below_size (pBq HB))); replace HO_5 := am (Kd.R_elder' (pRq HO_5) (Kd.R_base ho0) hb); replace HB := sB HB hb; (try clear hb ho0); obtain ⟨Ao12, co12, eo12⟩ := Kd.R_slice HO280.out; subst eo12; have p281 : 0 ≤ ((ji7) : Int) := of_decide_eq_true zq9; have q281 : (ji7) < (t278.length : Int) := of_decide_eq_true zq9; obtain ⟨ad281, e281, hx281_0⟩ := Kd.at_int (Kd.R_reads' HO280.out).2.2 (ji7) p281 q281; cases e281; replace p281 := eq_true p281; replace q281 := eq_true q281) | ((with_reducible refine gate_builtin (b := .append) (xs := #[.tmp 18, .tmp 25]) rfl ?_); at_builtin; refine Kd.R_append (Kd.int .i64) (w0 := w) w.heap.size rfl (.tmp 18) (.tmp 25) 24 3 (.int .i64 0) 8 rfl Tryz.underlying24 info3 rfl zq27 zq32 u5 x5_1 (rd t278 (ji7)) [.int .i64 (rd t278 (ji7))] (fun k_ => some k_ ≠ (.slice (some ad281) t278.length co12 : Value).ownBlock) (fun _ => False) rfl rfl ?aP (fun _ hk => hk.elim) ?aF ?aO ?aB ?aS ?aL ?_; (case aP => exact rfl); (case aB => exact (pBq HB)); (case aF => exact (fun k_ hk => Kd.fresh' (Kd.R_lt (pRq HO280)) k_ hk)); (case aO => exact (by (with_reducible repeat (first | apply Kd.R_alloc | apply Kd.R_drewN | apply Kd.R_drew)); exact Kd.R_mono HO_5.out (fun _ hk => hk.2))); (case aS => exact (below_size (pBq HB))); (case aL => have := LMc10.out; omega); intro v283 w13 ho hb hg hat; rw [← Ny282.out] at ho; have HO284 := am (ho); replace HO280 := am (Kd.R_after (ok := (fun _ => True)) (pRq HO280) hg hat); replace HB := am (hb); clear HO_5; clear ho hb hg hat))
    go_roundg k1
    case measure => have := HK1.out; omega
    case rel => exact ⟨(y282), (wrap64 (x10_1 + 1)), zq10, H', ⟨zq82⟩, ⟨by (with_reducible repeat (first | apply Kd.R_alloc | apply Kd.R_drewN | apply Kd.R_drew)); exact Kd.R_mono HO284.out (fun _ hk => trivial)⟩, ⟨zq13⟩⟩
   ·rw [if_neg c5] at H
    have c5b0 := decide_eq_false c5
    clear c5
    obtain rfl := Option.some.inj H
    go_wp2
    go_ret
    exact ⟨_, zq6, by (with_reducible repeat (first | apply Kd.R_alloc | apply Kd.R_drewN | apply Kd.R_drew)); exact HO_5.out, zq13⟩
/-! ### impl_ResultOf: function 62 -/
def impl_ResultOf.f (k : Nat) (a0_0 : Int) (l0_1 : List Int) : Option (List Int × Bool) := (impl_isLadder.f a0_0 l0_1).bind fun t286 => (if t286 = true then ((impl_result.f k a0_0 l0_1).bind fun t287 => (some (t287, true))) else (some (([] : List Int), false)))
theorem impl_ResultOf.mono : ∀ a0 a1 k, LeO (impl_ResultOf.f k a0 a1) (impl_ResultOf.f (k + 1) a0 a1) := by
 intro a0 a1 k
 unfold impl_ResultOf.f
 repeat' first | (with_reducible first | exact impl_result.mono _ _ _ | exact LeO.refl _ | exact LeO.none _ | refine LeO.ite ?_ ?_ | refine LeO.bind ?_ (fun _ => ?_))
theorem impl_ResultOf.calls (k : Nat) (a0_0 : Int) (A0_1 : Option Addr) (c0_1 : Nat) (l0_1 : List Int) (r1 : List Int) (r2 : Bool) (w : World) (hr0_1 : Kd.C (Kd.int .i64) w A0_1 l0_1.length l0_1) (hc0_1 : l0_1.length ≤ c0_1) (h : impl_ResultOf.f k a0_0 l0_1 = some (r1, r2)) :
  Calls Tryz.prog 62 #[.agg #[.int .i64 a0_0, .slice A0_1 l0_1.length c0_1]] w fun e w' => ∃ v0_ : Value, e = .returned (.tuple #[v0_, .bool r2]) ∧ Kd.R (Kd.int .i64) 3 w' w.heap.size (fun _ => True) v0_ r1 ∧ Below w.heap.size w w' := by
 have hu26 := Tryz.underlying26
 have HR0_1 := am hr0_1
 have HC0_1 := am hc0_1
 clear hr0_1 hc0_1
 have HB := am (Below.refl w.heap.size w)
 unfold impl_ResultOf.f at h
 have H := h
 clear h
 obtain ⟨t286, A2, H⟩ := zS H
 (try dsimp only at H)
 by_cases c3 : t286 = true
 ·subst c3
  rw [if_pos rfl] at H
  obtain ⟨t287, A4, H⟩ := zS H
  (try dsimp only at H)
  simp only [Option.some.injEq, Prod.mk.injEq] at H
  obtain ⟨rfl, rfl⟩ := H
  go_enter Tryz.func62, Tryz.ntmps62
  go_wp2_with (first | ((with_reducible refine gate_dst (N := 1) rfl ?_); refine zE 1 (cs := #[.int .i64 a0_0, .slice A0_1 l0_1.length c0_1]) 26 ?_; intro gb285 hg w5 hbox hb; have BK285 := am (hbox); have GW285 := am ((zq36 : w.heap.size ≤ gb285)); have GE285 := am ((zq36 : w.heap.size ≤ gb285)); replace HB := sB HB hb; clear hb hbox hg; obtain ⟨hcz6_0, hcz6_1, hfz6_0, hfz6_1⟩ := sC BK285) | ((with_reducible refine gate_callee (f := 56) rfl ?_); refine goesL_ (some 5) rfl rfl Tryz.func56 zq15 rfl #[.agg #[.int .i64 a0_0, .slice A0_1 l0_1.length c0_1]] rfl zq0 ?_; (with_reducible refine (impl_isLadder.calls a0_0 _ _ l0_1 true _ ?side1 ?side2 A2.out).mono ?_); (case side1 => exact zq7); (case side2 => exact zq97); rintro e w7 ⟨rfl, hb⟩; refine ⟨_, rfl, ?_⟩; replace BK285 := sK BK285 hb; replace HB := sB HB hb; (try clear hb); obtain ⟨hcz8_0, hcz8_1, hfz8_0, hfz8_1⟩ := sC BK285) | ((with_reducible refine gate_callee (f := 110) rfl ?_); refine goesL_ (some 11) rfl rfl Tryz.func110 zq15 rfl #[.int .i64 a0_0, .slice A0_1 l0_1.length c0_1] rfl zq0 ?_; (with_reducible refine (impl_result.calls k a0_0 _ _ l0_1 t287 _ ?side1 ?side2 A4.out).mono ?_); (case side1 => exact zq7); (case side2 => exact zq97); rintro e w9 ⟨v288, rfl, ho0, hb⟩; refine ⟨_, rfl, ?_⟩; have HO289 := am (Kd.R_lower ho0 (below_size (pBq HB))); replace BK285 := sK BK285 hb; replace HB := sB HB hb; (try clear hb ho0)))
  go_ret2
  exact ⟨_, zq6, by (with_reducible repeat (first | apply Kd.R_alloc | apply Kd.R_drewN | apply Kd.R_drew)); exact HO289.out, zq1⟩
 ·replace c3 := Bool.eq_false_iff.mpr c3
  subst c3
  rw [if_neg (show ¬ (false = true) by decide)] at H
  simp only [Option.some.injEq, Prod.mk.injEq] at H
  obtain ⟨rfl, rfl⟩ := H
  go_enter Tryz.func62, Tryz.ntmps62
  go_wp2_with (first | ((with_reducible refine gate_dst (N := 1) rfl ?_); refine zE 1 (cs := #[.int .i64 a0_0, .slice A0_1 l0_1.length c0_1]) 26 ?_; intro gb285 hg w10 hbox hb; have BK285 := am (hbox); have GW285 := am ((zq36 : w.heap.size ≤ gb285)); have GE285 := am ((zq36 : w.heap.size ≤ gb285)); replace HB := sB HB hb; clear hb hbox hg; obtain ⟨hcz11_0, hcz11_1, hfz11_0, hfz11_1⟩ := sC BK285) | ((with_reducible refine gate_callee (f := 56) rfl ?_); refine goesL_ (some 5) rfl rfl Tryz.func56 zq15 rfl #[.agg #[.int .i64 a0_0, .slice A0_1 l0_1.length c0_1]] rfl zq0 ?_; (with_reducible refine (impl_isLadder.calls a0_0 _ _ l0_1 false _ ?side1 ?side2 A2.out).mono ?_); (case side1 => exact zq7); (case side2 => exact zq97); rintro e w12 ⟨rfl, hb⟩; refine ⟨_, rfl, ?_⟩; replace BK285 := sK BK285 hb; replace HB := sB HB hb; (try clear hb)))
  go_ret2
  exact ⟨_, zq6, zq11, zq1⟩
/-! ### laws_kResult: function 15 -/
def laws_kResult.f (k : Nat) (a0_0 : Int) (l0_1 : List Int) : Option (List Int) := (impl_ResultOf.f k a0_0 l0_1).bind fun bt291 => (if bt291.2 = true then (some bt291.1) else (some ([] : List Int)))
theorem laws_kResult.mono : ∀ a0 a1 k, LeO (laws_kResult.f k a0 a1) (laws_kResult.f (k + 1) a0 a1) := by
 intro a0 a1 k
 unfold laws_kResult.f
 repeat' first | (with_reducible first | exact impl_ResultOf.mono _ _ _ | exact LeO.refl _ | exact LeO.none _ | refine LeO.ite ?_ ?_ | refine LeO.bind ?_ (fun _ => ?_))
theorem laws_kResult.calls (k : Nat) (a0_0 : Int) (A0_1 : Option Addr) (c0_1 : Nat) (l0_1 : List Int) (r : List Int) (w : World) (hr0_1 : Kd.C (Kd.int .i64) w A0_1 l0_1.length l0_1) (hc0_1 : l0_1.length ≤ c0_1) (h : laws_kResult.f k a0_0 l0_1 = some r) :
  Calls Tryz.prog 15 #[.agg #[.int .i64 a0_0, .slice A0_1 l0_1.length c0_1]] w fun e w' => ∃ v0_ : Value, e = .returned (v0_) ∧ Kd.R (Kd.int .i64) 3 w' w.heap.size (fun _ => True) v0_ r ∧ Below w.heap.size w w' := by
 have hu26 := Tryz.underlying26
 have HR0_1 := am hr0_1
 have HC0_1 := am hc0_1
 clear hr0_1 hc0_1
 have HB := am (Below.refl w.heap.size w)
 unfold laws_kResult.f at h
 have H := h
 clear h
 replace H := Option.bind_eq_some_iff.mp H
 obtain ⟨⟨t291, t294⟩, A20, H⟩ := H
 (try dsimp only at H)
 have A2 := am A20
 clear A20
 by_cases c3 : t294 = true
 ·subst c3
  rw [if_pos rfl] at H
  obtain rfl := Option.some.inj H
  go_enter Tryz.func15, Tryz.ntmps15
  go_wp2_with (first | ((with_reducible refine gate_dst (N := 1) rfl ?_); refine zE 1 (cs := #[.int .i64 a0_0, .slice A0_1 l0_1.length c0_1]) 26 ?_; intro gb290 hg w4 hbox hb; have BK290 := am (hbox); have GW290 := am ((zq36 : w.heap.size ≤ gb290)); have GE290 := am ((zq36 : w.heap.size ≤ gb290)); replace HB := sB HB hb; clear hb hbox hg; obtain ⟨hcz5_0, hcz5_1, hfz5_0, hfz5_1⟩ := sC BK290) | ((with_reducible refine gate_callee (f := 62) rfl ?_); refine goesL_ (some 7) rfl rfl Tryz.func62 zq15 rfl #[.agg #[.int .i64 a0_0, .slice A0_1 l0_1.length c0_1]] rfl zq0 ?_; (with_reducible refine (impl_ResultOf.calls k a0_0 _ _ l0_1 t291 true _ ?side1 ?side2 A2.out).mono ?_); (case side1 => exact zq7); (case side2 => exact zq97); rintro e w6 ⟨v292, rfl, ho0, hb⟩; refine ⟨_, rfl, ?_⟩; have HO293 := am (Kd.R_lower ho0 (below_size (pBq HB))); replace BK290 := sK BK290 hb; replace HB := sB HB hb; (try clear hb ho0)))
  go_ret
  exact ⟨_, zq6, by (with_reducible repeat (first | apply Kd.R_alloc | apply Kd.R_drewN | apply Kd.R_drew)); exact HO293.out, zq1⟩
 ·replace c3 := Bool.eq_false_iff.mpr c3
  subst c3
  rw [if_neg (show ¬ (false = true) by decide)] at H
  obtain rfl := Option.some.inj H
  go_enter Tryz.func15, Tryz.ntmps15
  go_wp2_with (first | ((with_reducible refine gate_dst (N := 1) rfl ?_); refine zE 1 (cs := #[.int .i64 a0_0, .slice A0_1 l0_1.length c0_1]) 26 ?_; intro gb290 hg w7 hbox hb; have BK290 := am (hbox); have GW290 := am ((zq36 : w.heap.size ≤ gb290)); have GE290 := am ((zq36 : w.heap.size ≤ gb290)); replace HB := sB HB hb; clear hb hbox hg; obtain ⟨hcz8_0, hcz8_1, hfz8_0, hfz8_1⟩ := sC BK290) | ((with_reducible refine gate_callee (f := 62) rfl ?_); refine goesL_ (some 7) rfl rfl Tryz.func62 zq15 rfl #[.agg #[.int .i64 a0_0, .slice A0_1 l0_1.length c0_1]] rfl zq0 ?_; (with_reducible refine (impl_ResultOf.calls k a0_0 _ _ l0_1 t291 false _ ?side1 ?side2 A2.out).mono ?_); (case side1 => exact zq7); (case side2 => exact zq97); rintro e w9 ⟨v292, rfl, ho0, hb⟩; refine ⟨_, rfl, ?_⟩; have HO293 := am (Kd.R_lower ho0 (below_size (pBq HB))); replace BK290 := sK BK290 hb; replace HB := sB HB hb; (try clear hb ho0)))
  go_ret
  exact ⟨_, zq6, zq11, zq1⟩
/-! ### slices_Index_int_int: function 133 -/
def slices_Index_int_int.l0 : Nat → List Int → Int → Int → Int → Option (Int)
 | 0, _, _, _, _ => none
 | k + 1, x0, x1, x7, x8 => if x8 < x7 then (if 0 ≤ x8 then (if x8 < (x0.length : Int) then (if x1 = (rd x0 x8) then (some x8) else (slices_Index_int_int.l0 k x0 x1 x7 (wrap64 (x8 + 1)))) else (none)) else (none)) else (some (-1))
def slices_Index_int_int.f (k : Nat) (l0 : List Int) (a1 : Int) : Option (Int) := slices_Index_int_int.l0 k l0 a1 (l0.length : Int) 0
theorem slices_Index_int_int.mono_l : ∀ k, (∀ y0 y1 y2 y3, LeO (slices_Index_int_int.l0 k y0 y1 y2 y3) (slices_Index_int_int.l0 (k + 1) y0 y1 y2 y3))
 | 0 => fun _ _ _ _ r h => by simp [slices_Index_int_int.l0] at h
 | k + 1 => by
  have ih0 := slices_Index_int_int.mono_l k
  ·intro y0 y1 y2 y3
   unfold slices_Index_int_int.l0
   repeat' first | (with_reducible first | exact ih0 _ _ _ _ | exact LeO.refl _ | exact LeO.none _ | refine LeO.ite ?_ ?_ | refine LeO.bind ?_ (fun _ => ?_))
theorem slices_Index_int_int.mono : ∀ a0 a1 k, LeO (slices_Index_int_int.f k a0 a1) (slices_Index_int_int.f (k + 1) a0 a1) := by
 intro a0 a1 k
 have ih0 := slices_Index_int_int.mono_l k
 unfold slices_Index_int_int.f
 repeat' first | (with_reducible first | exact ih0 _ _ _ _ | exact LeO.refl _ | exact LeO.none _ | refine LeO.ite ?_ ?_ | refine LeO.bind ?_ (fun _ => ?_))
theorem slices_Index_int_int.calls (k : Nat) (A0 : Option Addr) (c0 : Nat) (l0 : List Int) (a1 : Int) (r : Int) (w : World) (hr0 : Kd.C (Kd.int .i64) w A0 l0.length l0) (hc0 : l0.length ≤ c0) (h : slices_Index_int_int.f k l0 a1 = some r) :
  Calls Tryz.prog 133 #[.slice A0 l0.length c0, .int .i64 a1] w fun e w' => e = .returned (.int .i64 r) ∧ Drawn0 w w' := by
 have HR0 := am hr0
 have HC0 := am hc0
 clear hr0 hc0
 unfold slices_Index_int_int.f at h
 have H := h
 clear h
 have H' := am H
 clear H
 go_enter Tryz.func133, Tryz.ntmps133
 go_wp2
 go_loopg [8] k (fun kq v8 w' => ∃ (x8_1 : Int), v8 = .int .i64 x8_1 ∧ Aside0 (slices_Index_int_int.l0 kq l0 a1 (l0.length : Int) x8_1 = some r) ∧ Aside0 (kq ≤ k) ∧ Drawn0 w w')
 case atStart => exact ⟨(0), zq10, H', ⟨Nat.le_refl _⟩, zq17⟩
 case round =>
  clear H'
  obtain ⟨x8_1, rfl, HA, HK1, ⟨m1, rfl⟩⟩ := hrel
  cases gk with
  | zero => exact absurd HA.out (by simp [slices_Index_int_int.l0])
  | succ k1 =>
   have H := HA.out
   clear HA
   simp only [slices_Index_int_int.l0] at H
   by_cases c3 : x8_1 < (l0.length : Int)
   ·rw [if_pos c3] at H
    have c3b0 := decide_eq_true c3
    clear c3
    obtain ⟨c4, H⟩ := zI H
    have c4b0 := decide_eq_true c4
    clear c4
    obtain ⟨c5, H⟩ := zI H
    have c5b0 := decide_eq_true c5
    clear c5
    by_cases c6 : a1 = (rd l0 x8_1)
    ·rw [if_pos c6] at H
     have c6b0 : (a1 == (rd l0 x8_1)) = true := beq_iff_eq.mpr c6
     have c6b1 : (a1 != (rd l0 x8_1)) = false := bne_eq_false_iff_eq.mpr c6
     clear c6
     obtain rfl := Option.some.inj H
     have p295 : 0 ≤ (x8_1 : Int) := of_decide_eq_true zq9
     have q295 : x8_1 < (l0.length : Int) := of_decide_eq_true zq9
     obtain ⟨ad295, e295, hx295_0⟩ := Kd.at_int HR0.out x8_1 p295 q295
     cases e295
     replace p295 := eq_true p295
     replace q295 := eq_true q295
     go_wp2
     go_ret
     exact ⟨zq10, zq17⟩
    ·rw [if_neg c6] at H
     have c6b0 : (a1 == (rd l0 x8_1)) = false := beq_eq_false_iff_ne.mpr c6
     have c6b1 : (a1 != (rd l0 x8_1)) = true := bne_iff_ne.mpr c6
     have H' := am H
     clear H
     have p295 : 0 ≤ (x8_1 : Int) := of_decide_eq_true zq9
     have q295 : x8_1 < (l0.length : Int) := of_decide_eq_true zq9
     obtain ⟨ad295, e295, hx295_0⟩ := Kd.at_int HR0.out x8_1 p295 q295
     cases e295
     replace p295 := eq_true p295
     replace q295 := eq_true q295
     go_wp2
     go_roundg k1
     case measure => have := HK1.out; omega
     case rel => exact ⟨(wrap64 (x8_1 + 1)), zq10, H', ⟨zq82⟩, zq17⟩
   ·rw [if_neg c3] at H
    have c3b0 := decide_eq_false c3
    clear c3
    obtain rfl := Option.some.inj H
    go_wp2
    go_ret
    exact ⟨zq10, zq17⟩
/-! ### slices_Contains_int_int: function 111 -/
def slices_Contains_int_int.f (k : Nat) (l0 : List Int) (a1 : Int) : Option (Bool) := (slices_Index_int_int.f k l0 a1).bind fun t296 => (some (decide (t296 ≥ 0)))
theorem slices_Contains_int_int.mono : ∀ a0 a1 k, LeO (slices_Contains_int_int.f k a0 a1) (slices_Contains_int_int.f (k + 1) a0 a1) := by
 intro a0 a1 k
 unfold slices_Contains_int_int.f
 repeat' first | (with_reducible first | exact slices_Index_int_int.mono _ _ _ | exact LeO.refl _ | exact LeO.none _ | refine LeO.ite ?_ ?_ | refine LeO.bind ?_ (fun _ => ?_))
theorem slices_Contains_int_int.calls (k : Nat) (A0 : Option Addr) (c0 : Nat) (l0 : List Int) (a1 : Int) (r : Bool) (w : World) (hr0 : Kd.C (Kd.int .i64) w A0 l0.length l0) (hc0 : l0.length ≤ c0) (h : slices_Contains_int_int.f k l0 a1 = some r) :
  Calls Tryz.prog 111 #[.slice A0 l0.length c0, .int .i64 a1] w fun e w' => e = .returned (.bool r) ∧ Drawn0 w w' := by
 have HR0 := am hr0
 have HC0 := am hc0
 clear hr0 hc0
 unfold slices_Contains_int_int.f at h
 have H := h
 clear h
 obtain ⟨t296, A3, H⟩ := zS H
 (try dsimp only at H)
 obtain rfl := Option.some.inj H
 go_enter Tryz.func111, Tryz.ntmps111
 go_wp2_with (first | ((with_reducible refine gate_callee (f := 133) rfl ?_); refine goesL_ (some 7) rfl rfl Tryz.func133 zq15 rfl #[.slice A0 l0.length c0, .int .i64 a1] rfl zq0 ?_; (with_reducible refine (slices_Index_int_int.calls k _ _ l0 a1 t296 _ ?side1 ?side2 A3.out).mono ?_); (case side1 => exact zq43); (case side2 => exact HC0.out); rintro e w' ⟨rfl, ⟨nd, rfl⟩⟩; refine ⟨_, rfl, ?_⟩))
 go_ret
 exact ⟨zq10, zq17⟩
/-! ### impl_isOrder: function 63 -/
def impl_isOrder.l0 : Nat → List Int → List Int → Int → Int → Option (Bool)
 | 0, _, _, _, _ => none
 | k + 1, x0, x9, x10, x11 => if x11 < x10 then (if 0 ≤ x11 then (if x11 < (x9.length : Int) then ((impl_between.f (rd x9 x11) 0 (wrap64 ((x0.length : Int) - 1))).bind fun t299 => (if t299 = true then (if x11 ≤ (x0.length : Int) then ((slices_Contains_int_int.f k (x0.take (x11 : Int).toNat) (rd x9 x11)).bind fun t304 => (if t304 = true then (some false) else (impl_isOrder.l0 k x0 x9 x10 (wrap64 (x11 + 1))))) else (none)) else (some false))) else (none)) else (none)) else (some true)
def impl_isOrder.f (k : Nat) (l0 : List Int) : Option (Bool) := (impl_between.f (l0.length : Int) 1 8).bind fun t297 => (if t297 = true then (impl_isOrder.l0 k l0 l0 (l0.length : Int) 0) else (some false))
theorem impl_isOrder.mono_l : ∀ k, (∀ y0 y1 y2 y3, LeO (impl_isOrder.l0 k y0 y1 y2 y3) (impl_isOrder.l0 (k + 1) y0 y1 y2 y3))
 | 0 => fun _ _ _ _ r h => by simp [impl_isOrder.l0] at h
 | k + 1 => by
  have ih0 := impl_isOrder.mono_l k
  ·intro y0 y1 y2 y3
   unfold impl_isOrder.l0
   repeat' first | (with_reducible first | exact ih0 _ _ _ _ | exact slices_Contains_int_int.mono _ _ _ | exact LeO.refl _ | exact LeO.none _ | refine LeO.ite ?_ ?_ | refine LeO.bind ?_ (fun _ => ?_))
theorem impl_isOrder.mono : ∀ a0 k, LeO (impl_isOrder.f k a0) (impl_isOrder.f (k + 1) a0) := by
 intro a0 k
 have ih0 := impl_isOrder.mono_l k
 unfold impl_isOrder.f
 repeat' first | (with_reducible first | exact ih0 _ _ _ _ | exact slices_Contains_int_int.mono _ _ _ | exact LeO.refl _ | exact LeO.none _ | refine LeO.ite ?_ ?_ | refine LeO.bind ?_ (fun _ => ?_))
theorem impl_isOrder.calls (k : Nat) (A0 : Option Addr) (c0 : Nat) (l0 : List Int) (r : Bool) (w : World) (hr0 : Kd.C (Kd.int .i64) w A0 l0.length l0) (hc0 : l0.length ≤ c0) (h : impl_isOrder.f k l0 = some r) :
  Calls Tryz.prog 63 #[.slice A0 l0.length c0] w fun e w' => e = .returned (.bool r) ∧ Drawn0 w w' := by
 have HR0 := am hr0
 have HC0 := am hc0
 clear hr0 hc0
 unfold impl_isOrder.f at h
 have H := h
 clear h
 obtain ⟨t297, A2, H⟩ := zS H
 (try dsimp only at H)
 by_cases c3 : t297 = true
 ·subst c3
  rw [if_pos rfl] at H
  have H' := am H
  clear H
  go_enter Tryz.func63, Tryz.ntmps63
  go_wp2_with (first | ((with_reducible refine gate_callee (f := 71) rfl ?_); refine goesL_ (some 7) rfl rfl Tryz.func71 zq15 rfl #[.int .i64 (l0.length : Int), .int .i64 1, .int .i64 8] rfl zq0 ?_; (with_reducible refine (impl_between.calls (l0.length : Int) 1 8 true _ A2.out).mono ?_); rintro e w' ⟨rfl, ⟨nd, rfl⟩⟩; refine ⟨_, rfl, ?_⟩))
  go_loopg [11] k (fun kq v11 w' => ∃ (x11_1 : Int), v11 = .int .i64 x11_1 ∧ Aside0 (impl_isOrder.l0 kq l0 l0 (l0.length : Int) x11_1 = some r) ∧ Aside0 (kq ≤ k) ∧ Drawn0 w w')
  case atStart => exact ⟨(0), zq10, H', ⟨Nat.le_refl _⟩, zq17⟩
  case round =>
   clear H'
   obtain ⟨x11_1, rfl, HA, HK1, ⟨m1, rfl⟩⟩ := hrel
   cases gk with
   | zero => exact absurd HA.out (by simp [impl_isOrder.l0])
   | succ k1 =>
    have H := HA.out
    clear HA
    simp only [impl_isOrder.l0] at H
    by_cases c4 : x11_1 < (l0.length : Int)
    ·rw [if_pos c4] at H
     have c4b0 := decide_eq_true c4
     clear c4
     obtain ⟨c5, H⟩ := zI H
     have c5b0 := decide_eq_true c5
     clear c5
     obtain ⟨c6, H⟩ := zI H
     have c6b0 := decide_eq_true c6
     clear c6
     obtain ⟨t299, A7, H⟩ := zS H
     (try dsimp only at H)
     by_cases c8 : t299 = true
     ·subst c8
      rw [if_pos rfl] at H
      have c9b0 := eq_true (of_decide_eq_true zq9 : 0 ≤ x11_1)
      obtain ⟨c10, H⟩ := zI H
      have c10b0 := eq_true c10
      have c10b1 := decide_eq_true c10
      clear c10
      obtain ⟨y300, Ny300⟩ : ∃ y_ : List Int, Aside0 (y_ = (l0.take (x11_1 : Int).toNat)) := ⟨_, ⟨rfl⟩⟩
      rw [← Ny300.out] at H
      obtain ⟨t304, A11, H⟩ := zS H
      (try dsimp only at H)
      by_cases c12 : t304 = true
      ·subst c12
       rw [if_pos rfl] at H
       obtain rfl := Option.some.inj H
       have p298 : 0 ≤ (x11_1 : Int) := of_decide_eq_true zq9
       have q298 : x11_1 < (l0.length : Int) := of_decide_eq_true zq9
       obtain ⟨ad298, e298, hx298_0⟩ := Kd.at_int HR0.out x11_1 p298 q298
       cases e298
       replace p298 := eq_true p298
       replace q298 := eq_true q298
       go_wp2_with (first | ((with_reducible refine gate_callee (f := 71) rfl ?_); refine goesL_ (some 20) rfl rfl Tryz.func71 zq15 rfl #[.int .i64 (rd l0 x11_1), .int .i64 0, .int .i64 (wrap64 ((l0.length : Int) - 1))] rfl zq0 ?_; (with_reducible refine (impl_between.calls (rd l0 x11_1) 0 (wrap64 ((l0.length : Int) - 1)) true _ A7.out).mono ?_); rintro e w' ⟨rfl, ⟨nd, rfl⟩⟩; refine ⟨_, rfl, ?_⟩; have q13 : (x11_1 : Int) ≤ ((l0.length : Int) : Int) := of_decide_eq_true zq9; obtain ⟨i013, hi013, _, hsz13, _⟩ := info_parts info3; have hroom13 : l0.length ≤ c0 := HC0.out; have hC13 : Kd.C (Kd.int .i64) _ (some ad298) l0.length l0 := HR0.out; have hcut13 := cut_to (P := Tryz.prog) 24 3 .i64 Tryz.underlying24 hi013 (some ad298) l0.length c0 x11_1 (of_decide_eq_true zq9) q13 hroom13; have hr13 := Kd.C_take (m := (x11_1 : Int).toNat) hC13 zq32; have hy13 : y300.length = (x11_1 : Int).toNat := (by rw [Ny300.out, List.length_take]; omega); rw [← Ny300.out] at hr13; rw [← hy13] at hcut13; have HR303 := am hr13; have HC303 := am (show y300.length ≤ c0 from zq32); clear hr13 hC13 hroom13 hi013 hsz13; have KY13 := am hy13; clear hy13; replace q13 := eq_true q13) | (go_at_call 111; refine calls_of_args (args' := #[.slice (some ad298) y300.length c0, .int .i64 (rd l0 x11_1)]) ?cuta305 ?_; (case cuta305 => exact zq69); (with_reducible refine (slices_Contains_int_int.calls k1 _ _ y300 (rd l0 x11_1) true _ ?side1 ?side2 A11.out).mono ?_); (case side1 => exact zq111); (case side2 => exact HC303.out); rintro e w' ⟨rfl, ⟨nd, rfl⟩⟩))
       go_ret
       exact ⟨zq10, zq17⟩
      ·replace c12 := Bool.eq_false_iff.mpr c12
       subst c12
       rw [if_neg (show ¬ (false = true) by decide)] at H
       have H' := am H
       clear H
       have p298 : 0 ≤ (x11_1 : Int) := of_decide_eq_true zq9
       have q298 : x11_1 < (l0.length : Int) := of_decide_eq_true zq9
       obtain ⟨ad298, e298, hx298_0⟩ := Kd.at_int HR0.out x11_1 p298 q298
       cases e298
       replace p298 := eq_true p298
       replace q298 := eq_true q298
       go_wp2_with (first | ((with_reducible refine gate_callee (f := 71) rfl ?_); refine goesL_ (some 20) rfl rfl Tryz.func71 zq15 rfl #[.int .i64 (rd l0 x11_1), .int .i64 0, .int .i64 (wrap64 ((l0.length : Int) - 1))] rfl zq0 ?_; (with_reducible refine (impl_between.calls (rd l0 x11_1) 0 (wrap64 ((l0.length : Int) - 1)) true _ A7.out).mono ?_); rintro e w' ⟨rfl, ⟨nd, rfl⟩⟩; refine ⟨_, rfl, ?_⟩; have q14 : (x11_1 : Int) ≤ ((l0.length : Int) : Int) := of_decide_eq_true zq9; obtain ⟨i014, hi014, _, hsz14, _⟩ := info_parts info3; have hroom14 : l0.length ≤ c0 := HC0.out; have hC14 : Kd.C (Kd.int .i64) _ (some ad298) l0.length l0 := HR0.out; have hcut14 := cut_to (P := Tryz.prog) 24 3 .i64 Tryz.underlying24 hi014 (some ad298) l0.length c0 x11_1 (of_decide_eq_true zq9) q14 hroom14; have hr14 := Kd.C_take (m := (x11_1 : Int).toNat) hC14 zq32; have hy14 : y300.length = (x11_1 : Int).toNat := (by rw [Ny300.out, List.length_take]; omega); rw [← Ny300.out] at hr14; rw [← hy14] at hcut14; have HR303 := am hr14; have HC303 := am (show y300.length ≤ c0 from zq32); clear hr14 hC14 hroom14 hi014 hsz14; have KY14 := am hy14; clear hy14; replace q14 := eq_true q14) | (go_at_call 111; refine calls_of_args (args' := #[.slice (some ad298) y300.length c0, .int .i64 (rd l0 x11_1)]) ?cuta306 ?_; (case cuta306 => exact zq69); (with_reducible refine (slices_Contains_int_int.calls k1 _ _ y300 (rd l0 x11_1) false _ ?side1 ?side2 A11.out).mono ?_); (case side1 => exact zq111); (case side2 => exact HC303.out); rintro e w' ⟨rfl, ⟨nd, rfl⟩⟩))
       go_roundg k1
       case measure => have := HK1.out; omega
       case rel => exact ⟨(wrap64 (x11_1 + 1)), zq10, H', ⟨zq82⟩, zq17⟩
     ·replace c8 := Bool.eq_false_iff.mpr c8
      subst c8
      rw [if_neg (show ¬ (false = true) by decide)] at H
      obtain rfl := Option.some.inj H
      have p298 : 0 ≤ (x11_1 : Int) := of_decide_eq_true zq9
      have q298 : x11_1 < (l0.length : Int) := of_decide_eq_true zq9
      obtain ⟨ad298, e298, hx298_0⟩ := Kd.at_int HR0.out x11_1 p298 q298
      cases e298
      replace p298 := eq_true p298
      replace q298 := eq_true q298
      go_wp2_with (first | ((with_reducible refine gate_callee (f := 71) rfl ?_); refine goesL_ (some 20) rfl rfl Tryz.func71 zq15 rfl #[.int .i64 (rd l0 x11_1), .int .i64 0, .int .i64 (wrap64 ((l0.length : Int) - 1))] rfl zq0 ?_; (with_reducible refine (impl_between.calls (rd l0 x11_1) 0 (wrap64 ((l0.length : Int) - 1)) false _ A7.out).mono ?_); rintro e w' ⟨rfl, ⟨nd, rfl⟩⟩; refine ⟨_, rfl, ?_⟩))
      go_ret
      exact ⟨zq10, zq17⟩
    ·rw [if_neg c4] at H
     have c4b0 := decide_eq_false c4
     clear c4
     obtain rfl := Option.some.inj H
     go_wp2
     go_ret
     exact ⟨zq10, zq17⟩
 ·replace c3 := Bool.eq_false_iff.mpr c3
  subst c3
  rw [if_neg (show ¬ (false = true) by decide)] at H
  obtain rfl := Option.some.inj H
  go_enter Tryz.func63, Tryz.ntmps63
  go_wp2_with (first | ((with_reducible refine gate_callee (f := 71) rfl ?_); refine goesL_ (some 7) rfl rfl Tryz.func71 zq15 rfl #[.int .i64 (l0.length : Int), .int .i64 1, .int .i64 8] rfl zq0 ?_; (with_reducible refine (impl_between.calls (l0.length : Int) 1 8 false _ A2.out).mono ?_); rintro e w' ⟨rfl, ⟨nd, rfl⟩⟩; refine ⟨_, rfl, ?_⟩))
  go_ret
  exact ⟨zq10, zq17⟩
/-! ### impl_back: function 64 -/
def impl_back.l0 : Nat → List Int → List Int → Int → Int → Option (List Int)
 | 0, _, _, _, _ => none
 | k + 1, x3, x9, x10, x11 => if x11 < x10 then (if 0 ≤ x11 then (if x11 < (x9.length : Int) then (if 0 ≤ (rd x9 x11) then (if (rd x9 x11) < (x3.length : Int) then (impl_back.l0 k (x3.set ((rd x9 x11) : Int).toNat x11) x9 x10 (wrap64 (x11 + 1))) else (none)) else (none)) else (none)) else (none)) else (some x3)
def impl_back.f (k : Nat) (l0 : List Int) : Option (List Int) := if 0 ≤ (l0.length : Int) then (if ((l0.length : Int) : Int).toNat ≤ 35184372088832 then (impl_back.l0 k (List.replicate ((l0.length : Int) : Int).toNat 0) l0 (l0.length : Int) 0) else (none)) else (none)
theorem impl_back.mono_l : ∀ k, (∀ y0 y1 y2 y3, LeO (impl_back.l0 k y0 y1 y2 y3) (impl_back.l0 (k + 1) y0 y1 y2 y3))
 | 0 => fun _ _ _ _ r h => by simp [impl_back.l0] at h
 | k + 1 => by
  have ih0 := impl_back.mono_l k
  ·intro y0 y1 y2 y3
   unfold impl_back.l0
   repeat' first | (with_reducible first | exact ih0 _ _ _ _ | exact LeO.refl _ | exact LeO.none _ | refine LeO.ite ?_ ?_ | refine LeO.bind ?_ (fun _ => ?_))
theorem impl_back.mono : ∀ a0 k, LeO (impl_back.f k a0) (impl_back.f (k + 1) a0) := by
 intro a0 k
 have ih0 := impl_back.mono_l k
 unfold impl_back.f
 repeat' first | (with_reducible first | exact ih0 _ _ _ _ | exact LeO.refl _ | exact LeO.none _ | refine LeO.ite ?_ ?_ | refine LeO.bind ?_ (fun _ => ?_))
theorem impl_back.calls (k : Nat) (A0 : Option Addr) (c0 : Nat) (l0 : List Int) (r : List Int) (w : World) (hr0 : Kd.C (Kd.int .i64) w A0 l0.length l0) (hc0 : l0.length ≤ c0) (h : impl_back.f k l0 = some r) :
  Calls Tryz.prog 64 #[.slice A0 l0.length c0] w fun e w' => ∃ v0_ : Value, e = .returned (v0_) ∧ Kd.R (Kd.int .i64) 3 w' w.heap.size (fun _ => True) v0_ r ∧ Below w.heap.size w w' := by
 have HR0 := am hr0
 have HC0 := am hc0
 clear hr0 hc0
 have HB := am (Below.refl w.heap.size w)
 unfold impl_back.f at h
 have H := h
 clear h
 by_cases c2 : 0 ≤ (l0.length : Int)
 ·rw [if_pos c2] at H
  have c2b0 := eq_true c2
  have c2b1 := decide_eq_true c2
  clear c2
  obtain ⟨c3, H⟩ := zI H
  have c3b0 := eq_true c3
  have c3b1 := decide_eq_true c3
  clear c3
  obtain ⟨y307, Ny307⟩ : ∃ y_ : List Int, Aside0 (y_ = (List.replicate ((l0.length : Int) : Int).toNat 0)) := ⟨_, ⟨rfl⟩⟩
  rw [← Ny307.out] at H
  have H' := am H
  clear H
  go_enter Tryz.func64, Tryz.ntmps64
  go_wp2_with (first | ((with_reducible refine gate_dst (N := 8) rfl ?_); refine Kd.R_make (Kd.int .i64) _ 3 rfl (N := 8) rfl 24 _ _ rfl (l0.length : Int) rfl rfl Tryz.underlying24 (.int .i64 0) 8 info3 rfl zq27 zq32 0 (ok := fun _ => True) (okp := fun _ => True) rfl (fun _ hk => hk) trivial (of_decide_eq_true zq9) (Nat.le_trans (Nat.mul_le_mul_right _ (of_decide_eq_true zq9 : (l0.length : Int).toNat ≤ 35184372088832)) zq32) (Below.refl _ _) (Nat.le_refl _) ?_; intro v308 w4 ho5 hb hg_ hnew_; clear hg_ hnew_; (first | rw [← Ny307.out] at ho5 | (simp only [Int.reduceToNat] at ho5; rw [← Ny307.out] at ho5)); have HO309 := am (Kd.R_lower ho5 (below_size (pBq HB))); replace HB := sB HB hb; clear hb ho5))
  go_loopg [11] k (fun kq v11 w' => ∃ (x3_1 : List Int) (x11_1 : Int), v11 = .int .i64 x11_1 ∧ Aside0 (impl_back.l0 kq x3_1 l0 (l0.length : Int) x11_1 = some r) ∧ Aside0 (kq ≤ k) ∧ Aside0 (Kd.R (Kd.int .i64) 3 w' w.heap.size (fun _ => True) v308 x3_1) ∧ Aside0 (Below w.heap.size w w'))
  case atStart => exact ⟨(y307), (0), zq10, H', ⟨Nat.le_refl _⟩, ⟨by (with_reducible repeat (first | apply Kd.R_alloc | apply Kd.R_drewN | apply Kd.R_drew)); exact HO309.out⟩, ⟨zq13⟩⟩
  case round =>
   clear H'
   obtain ⟨x3_1, x11_1, rfl, HA, HK1, HO_3, HB⟩ := hrel
   cases gk with
   | zero => exact absurd HA.out (by simp [impl_back.l0])
   | succ k1 =>
    have H := HA.out
    clear HA
    simp only [impl_back.l0] at H
    by_cases c6 : x11_1 < (l0.length : Int)
    ·rw [if_pos c6] at H
     have c6b0 := decide_eq_true c6
     clear c6
     obtain ⟨c7, H⟩ := zI H
     have c7b0 := decide_eq_true c7
     clear c7
     obtain ⟨c8, H⟩ := zI H
     have c8b0 := decide_eq_true c8
     clear c8
     obtain ⟨c9, H⟩ := zI H
     have c9b0 := decide_eq_true c9
     clear c9
     obtain ⟨c10, H⟩ := zI H
     have c10b0 := decide_eq_true c10
     clear c10
     obtain ⟨y311, Ny311⟩ : ∃ y_ : List Int, Aside0 (y_ = (x3_1.set ((rd l0 x11_1) : Int).toNat x11_1)) := ⟨_, ⟨rfl⟩⟩
     rw [← Ny311.out] at H
     have H' := am H
     clear H
     have p310 : 0 ≤ (x11_1 : Int) := of_decide_eq_true zq9
     have q310 : x11_1 < (l0.length : Int) := of_decide_eq_true zq9
     obtain ⟨ad310, e310, hx310_0⟩ := Kd.at_int HR0.out x11_1 p310 q310
     cases e310
     replace hx310_0 := (HB.out.cell (World.block_lt_of_cell? w _ hx310_0)).trans hx310_0
     replace p310 := eq_true p310
     replace q310 := eq_true q310
     have p11 : 0 ≤ ((rd l0 x11_1) : Int) := of_decide_eq_true zq9
     have q11 : ((rd l0 x11_1) : Int) < ((x3_1.length : Int) : Int) := of_decide_eq_true zq9
     obtain ⟨go11, co11, eo11, gb11, gl11, cl11, HG11⟩ := Kd.R_form HO_3.out zq32
     (first | cases eo11 | (injection eo11 with ea_ en_ ec_; (first | subst ea_ | (injection ea_ with ea_; subst ea_)); subst ec_; clear en_))
     have GB11 := am gb11
     have GG11 := am HG11
     clear gb11 gl11 HG11
     obtain ⟨hx11_0, hf11_0⟩ := Kd.R_celln 0 HO_3.out ((rd l0 x11_1) : Int) p11 q11
     replace p11 := eq_true p11
     replace q11 := eq_true q11
     have HP12 := Kd.R_putg HO_3.out ((rd l0 x11_1) : Int) x11_1
     go_wp2_with (first | ((with_reducible refine gate_store (t := 3) (p := 19) rfl ?_); refine store_event (t := 3) (p := 19) (v := ?vo_w13) (w1 := (wr.setCell ⟨go11, ((rd l0 x11_1) : Int).toNat, none⟩ (.int .i64 x11_1))) ?hg ?ho ?hn ?hr ?_; (case ho => rfl); (case hg => rfl); (case hn => rfl); (case hr => exact zq30); intro w13 hw; have hg : wr.grownBy w13 (some go11) := (by rw [hw]; exact HP12.2); have hp_ : Kd.R (Kd.int .i64) 3 w13 w.heap.size (fun _ => True) (.slice (some ⟨go11, 0, none⟩) x3_1.length co11) y311 := (by rw [hw, Ny311.out]; exact HP12.1); clear HP12; replace HO_3 := am (hp_); replace HB := am ((by rw [hw]; exact below_set (HB.out) GB11.out : Below w.heap.size w w13)); clear hg hw hp_))
     go_roundg k1
     case measure => have := HK1.out; omega
     case rel => exact ⟨(y311), (wrap64 (x11_1 + 1)), zq10, H', ⟨zq82⟩, ⟨by (with_reducible repeat (first | apply Kd.R_alloc | apply Kd.R_drewN | apply Kd.R_drew)); exact HO_3.out⟩, ⟨zq13⟩⟩
    ·rw [if_neg c6] at H
     have c6b0 := decide_eq_false c6
     clear c6
     obtain rfl := Option.some.inj H
     go_wp2
     go_ret
     exact ⟨_, zq6, by (with_reducible repeat (first | apply Kd.R_alloc | apply Kd.R_drewN | apply Kd.R_drew)); exact HO_3.out, zq13⟩
 ·rw [if_neg c2] at H
  exact absurd H zq42
/-! ### impl_BackOrder: function 16 -/
def impl_BackOrder.f (k : Nat) (l0 : List Int) : Option (List Int × Bool) := (impl_isOrder.f k l0).bind fun t312 => (if t312 = true then ((impl_back.f k l0).bind fun t313 => (some (t313, true))) else (some (([] : List Int), false)))
theorem impl_BackOrder.mono : ∀ a0 k, LeO (impl_BackOrder.f k a0) (impl_BackOrder.f (k + 1) a0) := by
 intro a0 k
 unfold impl_BackOrder.f
 repeat' first | (with_reducible first | exact impl_back.mono _ _ | exact impl_isOrder.mono _ _ | exact LeO.refl _ | exact LeO.none _ | refine LeO.ite ?_ ?_ | refine LeO.bind ?_ (fun _ => ?_))
theorem impl_BackOrder.calls (k : Nat) (A0 : Option Addr) (c0 : Nat) (l0 : List Int) (r1 : List Int) (r2 : Bool) (w : World) (hr0 : Kd.C (Kd.int .i64) w A0 l0.length l0) (hc0 : l0.length ≤ c0) (h : impl_BackOrder.f k l0 = some (r1, r2)) :
  Calls Tryz.prog 16 #[.slice A0 l0.length c0] w fun e w' => ∃ v0_ : Value, e = .returned (.tuple #[v0_, .bool r2]) ∧ Kd.R (Kd.int .i64) 3 w' w.heap.size (fun _ => True) v0_ r1 ∧ Below w.heap.size w w' := by
 have HR0 := am hr0
 have HC0 := am hc0
 clear hr0 hc0
 have HB := am (Below.refl w.heap.size w)
 unfold impl_BackOrder.f at h
 have H := h
 clear h
 obtain ⟨t312, A2, H⟩ := zS H
 (try dsimp only at H)
 by_cases c3 : t312 = true
 ·subst c3
  rw [if_pos rfl] at H
  obtain ⟨t313, A4, H⟩ := zS H
  (try dsimp only at H)
  simp only [Option.some.injEq, Prod.mk.injEq] at H
  obtain ⟨rfl, rfl⟩ := H
  go_enter Tryz.func16, Tryz.ntmps16
  go_wp2_with (first | ((with_reducible refine gate_callee (f := 63) rfl ?_); refine goesL_ (some 5) rfl rfl Tryz.func63 zq15 rfl #[.slice A0 l0.length c0] rfl zq0 ?_; (with_reducible refine (impl_isOrder.calls k _ _ l0 true _ ?side1 ?side2 A2.out).mono ?_); (case side1 => exact zq43); (case side2 => exact HC0.out); rintro e w' ⟨rfl, ⟨nd, rfl⟩⟩; refine ⟨_, rfl, ?_⟩) | ((with_reducible refine gate_callee (f := 64) rfl ?_); refine goesL_ (some 8) rfl rfl Tryz.func64 zq15 rfl #[.slice A0 l0.length c0] rfl zq0 ?_; (with_reducible refine (impl_back.calls k _ _ l0 t313 _ ?side1 ?side2 A4.out).mono ?_); (case side1 => exact zq43); (case side2 => exact HC0.out); rintro e w5 ⟨v314, rfl, ho0, hb⟩; refine ⟨_, rfl, ?_⟩; have HO315 := am (Kd.R_lower ho0 (below_size (pBq HB))); replace HB := sB HB hb; (try clear hb ho0)))
  go_ret2
  exact ⟨_, zq6, by (with_reducible repeat (first | apply Kd.R_alloc | apply Kd.R_drewN | apply Kd.R_drew)); exact HO315.out, zq13⟩
 ·replace c3 := Bool.eq_false_iff.mpr c3
  subst c3
  rw [if_neg (show ¬ (false = true) by decide)] at H
  simp only [Option.some.injEq, Prod.mk.injEq] at H
  obtain ⟨rfl, rfl⟩ := H
  go_enter Tryz.func16, Tryz.ntmps16
  go_wp2_with (first | ((with_reducible refine gate_callee (f := 63) rfl ?_); refine goesL_ (some 5) rfl rfl Tryz.func63 zq15 rfl #[.slice A0 l0.length c0] rfl zq0 ?_; (with_reducible refine (impl_isOrder.calls k _ _ l0 false _ ?side1 ?side2 A2.out).mono ?_); (case side1 => exact zq43); (case side2 => exact HC0.out); rintro e w' ⟨rfl, ⟨nd, rfl⟩⟩; refine ⟨_, rfl, ?_⟩))
  go_ret2
  exact ⟨_, zq6, zq11, zq13⟩
/-! ### strings_Cut: function 65 -/
def impl_readNumber.VOK (w : World) : Prop := ((∃ tp p, w.var? Tryz.prog "strconv.ErrSyntax" = some #[.iface tp p]) ∧ (∃ tp p, w.var? Tryz.prog "strconv.ErrRange" = some #[.iface tp p]) ∧ Lib.TabIs Tryz.prog w "internal/strconv.uint64pow10" .u64 Lib.pow10Tab) ∧ ∃ m, w.cell? ⟨0, 0, none⟩ = some (.int .i64 m)
theorem impl_readNumber.var_on {w w' : World} {n : String} {cs : Array Value} (h : w.var? Tryz.prog n = some cs) (hb : Below w.heap.size w w') : w'.var? Tryz.prog n = some cs := by
 unfold World.var? at *
 cases hg : (Tryz.prog).globalNamed n with
 | none => simp [hg] at h
 | some g =>
  simp only [hg, Option.bind_some] at h ⊢
  have hlt : g < w.heap.size := by
   rcases Nat.lt_or_ge g w.heap.size with h' | h'
   ·exact h'
   ·rw [Array.getElem?_eq_none h'] at h; simp at h
  rw [hb.block g hlt]
  exact h
theorem impl_readNumber.VOK.on {w w' : World} (h : impl_readNumber.VOK w) (hb : Below w.heap.size w w') : impl_readNumber.VOK w' := by
 obtain ⟨⟨⟨a, b, h1⟩, ⟨c, d, h2⟩, h3⟩, m, h4⟩ := h
 exact ⟨⟨⟨a, b, impl_readNumber.var_on h1 hb⟩, ⟨c, d, impl_readNumber.var_on h2 hb⟩, Lib.tabBelow_of_tabIs h3 w' hb⟩, m, by rw [hb.cell (World.block_lt_of_cell? _ _ h4)]; exact h4⟩
theorem impl_readNumber.VOK.drewN {w : World} (n : Nat) (h : impl_readNumber.VOK w) : impl_readNumber.VOK (w.drewN n) := h
theorem impl_readNumber.below_drewN {B : Nat} {a w : World} (n : Nat) (h : Below B a w) : Below B a (w.drewN n) := ⟨h.os, h.tape, h.output, h.size, h.block⟩
def strings_Cut.f (s0 s1 : ByteArray) : Option (ByteArray × ByteArray × Bool) := if s0.size ≤ 1048576 then some (⟨(Lib.cut s0.data.toList s1.data.toList).1.toArray⟩, ⟨(Lib.cut s0.data.toList s1.data.toList).2.1.toArray⟩, (Lib.cut s0.data.toList s1.data.toList).2.2) else none
theorem strings_Cut.calls (s0 s1 : ByteArray) (r1 r2 : ByteArray) (r3 : Bool) (w : World) (HV : Aside0 (impl_readNumber.VOK w)) (h : strings_Cut.f s0 s1 = some (r1, r2, r3)) :
  Calls Tryz.prog 65 #[.string s0, .string s1] w fun e w' => e = .returned (.tuple #[.string r1, .string r2, .bool r3]) ∧ Below w.heap.size w w' := by
 unfold strings_Cut.f at h
 split at h
 case isFalse => cases h
 rename_i hs
 obtain ⟨rfl, rfl, rfl⟩ : _ ∧ _ ∧ _ := by simpa only [Option.some.injEq, Prod.mk.injEq] using h
 obtain ⟨-, m, hm⟩ := HV.out
 exact (Any.strings_Cut { Tryz.laysCut with } s0 s1 m w zq32 hm).mono (fun e w' hh => ⟨hh.1, by obtain ⟨n, rfl⟩ := hh.2; exact impl_readNumber.below_drewN n (Below.refl _ _)⟩)
/-! ### impl_readNumber: function 66 -/
def impl_readNumber.f (s : ByteArray) : Option (Int × Bool) := if s.size ≤ 1048576 then
 match Lib.atoiAll s.data.toList with
 | .ok v => some (v, decide (0 ≤ v) && decide (v ≤ 999999) && (Lib.itoa v == s.toList))
 | .range => some (Lib.atoiSat s.data.toList, false)
 | _ => some (0, false)
 else none
theorem impl_readNumber.atoi_ok (s : ByteArray) (v : Int) (hs : s.size ≤ 1048576) (h : Lib.atoiAll s.data.toList = .ok v) (w : World) :
  Calls Tryz.prog 113 #[.string s] w fun e w' => e = .returned (.tuple #[.int .i64 v, .nilIface]) ∧ Below w.heap.size w w' :=
 (Any.strconv_Atoi_ok { Tryz.laysAtoi with } s zq32 v h w).mono (fun e w' hh => ⟨hh.1, by rcases hh.2 with h2 | ⟨t, h2⟩ <;> rw [h2] <;> first | exact Below.refl _ _ | exact Lib.bytesWorld_below _ _ _⟩)
theorem impl_readNumber.atoi_none (s : ByteArray) (hs : s.size ≤ 1048576) (h0 : ∀ v, Lib.atoiAll s.data.toList ≠ .ok v) (h1 : Lib.atoiAll s.data.toList ≠ .range) (w : World) (hv : impl_readNumber.VOK w) :
  Calls Tryz.prog 113 #[.string s] w fun e w' => (∃ tp p, e = .returned (.tuple #[.int .i64 0, .iface tp p])) ∧ Below w.heap.size w w' := by
 obtain ⟨⟨⟨a, b, h2⟩, -, -⟩, -⟩ := hv
 cases h : Lib.atoiAll s.data.toList
 ·exact absurd h (h0 _)
 ·exact (Any.strconv_Atoi_syntax_var Tryz.laysAtoi s zq32 h a b w h2).mono (fun e w' ⟨N, he, _, _, hb⟩ => ⟨⟨_, _, he⟩, hb⟩)
 ·exact absurd h h1
theorem impl_readNumber.atoi_range (s : ByteArray) (hs : s.size ≤ 1048576) (h : Lib.atoiAll s.data.toList = .range) (w : World) (hv : impl_readNumber.VOK w) :
  Calls Tryz.prog 113 #[.string s] w fun e w' => (∃ tp p, e = .returned (.tuple #[.int .i64 (Lib.atoiSat s.data.toList), .iface tp p])) ∧ Below w.heap.size w w' := by
 obtain ⟨⟨-, ⟨a, b, h1⟩, -⟩, -⟩ := hv
 exact (Any.strconv_Atoi_range_var Tryz.laysAtoi s zq32 h a b w h1).mono (fun e w' ⟨N, he, _, _, hb⟩ => ⟨⟨_, _, he⟩, hb⟩)
theorem impl_readNumber.itoa (v : Int) (h0 : 0 ≤ v) (h1 : v ≤ 999999) (w : World) (hv : impl_readNumber.VOK w) :
  Calls Tryz.prog 90 #[.int .i64 v] w fun e w' => e = .returned (.string ⟨(Lib.itoa v).toArray⟩) ∧ Below w.heap.size w w' :=
 (Any.strconv_Itoa Tryz.laysItoaM v zq32 zq32 w hv.1.2.2).mono (fun e w' hh => ⟨hh.1, by obtain ⟨k, os, rfl⟩ := hh.2; exact Lib.below_grow _ _ (Nat.le_refl _) _ _⟩)
theorem impl_readNumber.calls (s : ByteArray) (r1 : Int) (r2 : Bool) (w : World) (HV : Aside0 (impl_readNumber.VOK w)) (h : impl_readNumber.f s = some (r1, r2)) :
  Calls Tryz.prog 66 #[.string s] w fun e w' => e = .returned (.tuple #[.int .i64 r1, .bool r2]) ∧ Below w.heap.size w w' := by
 have hv := HV.out
 unfold impl_readNumber.f at h
 split at h
 case isFalse => cases h
 rename_i hs
 cases hA : Lib.atoiAll s.data.toList
 ·rename_i v
  simp only [hA, Option.some.injEq, Prod.mk.injEq] at h
  obtain ⟨rfl, rfl⟩ := h
  by_cases c : 0 ≤ v ∧ v ≤ 999999
  ·have hbt : impl_between.f v 0 999999 = some true := by
    unfold impl_between.f; rw [if_pos zq32]; simp [c.2]
   go_enter Tryz.func66, Tryz.ntmps66
   go_wp2_with (first | (go_at_call 113; refine (impl_readNumber.atoi_ok s v hs hA _).mono ?_; rintro e w1 ⟨rfl, hb⟩) | (go_at_call 71; refine (impl_between.calls v 0 999999 true _ hbt).mono ?_; rintro e w2 ⟨rfl, n2, rfl⟩) | (go_at_call 90; refine (impl_readNumber.itoa v c.1 c.2 _ (impl_readNumber.VOK.drewN n2 (hv.on hb))).mono ?_; rintro e w3 ⟨rfl, hb3⟩))
   go_ret2
   exact ⟨by simp [c.1, c.2], (impl_readNumber.below_drewN n2 hb).trans (hb3.mono (by have := hb.size; exact this))⟩
  ·have hbt : impl_between.f v 0 999999 = some false := by
    unfold impl_between.f
    by_cases c0 : v ≥ 0
    ·rw [if_pos zq32]; simp; omega
    ·rw [if_neg zq32]
   go_enter Tryz.func66, Tryz.ntmps66
   go_wp2_with (first | (go_at_call 113; refine (impl_readNumber.atoi_ok s v hs hA _).mono ?_; rintro e w1 ⟨rfl, hb⟩) | (go_at_call 71; refine (impl_between.calls v 0 999999 false _ hbt).mono ?_; rintro e w2 ⟨rfl, n2, rfl⟩))
   go_ret2
   have e0 : (decide (0 ≤ v) && decide (v ≤ 999999)) = false := by rcases Int.lt_or_le v 0 with h0 | h0 <;> simp <;> omega
   exact ⟨by rw [e0]; simp, impl_readNumber.below_drewN n2 hb⟩
 ·have n0 : ∀ v, Lib.atoiAll s.data.toList ≠ .ok v := fun v e => by rw [hA] at e; cases e
  have n1 : Lib.atoiAll s.data.toList ≠ .range := fun e => by rw [hA] at e; cases e
  simp only [hA, Option.some.injEq, Prod.mk.injEq] at h
  obtain ⟨rfl, rfl⟩ := h
  go_enter Tryz.func66, Tryz.ntmps66
  go_wp2_with (go_at_call 113; refine (impl_readNumber.atoi_none s hs n0 n1 _ hv).mono ?_; rintro e w1 ⟨⟨tp, p, rfl⟩, hb⟩)
  go_ret2
  exact ⟨rfl, hb⟩
 ·simp only [hA, Option.some.injEq, Prod.mk.injEq] at h
  obtain ⟨rfl, rfl⟩ := h
  go_enter Tryz.func66, Tryz.ntmps66
  go_wp2_with (go_at_call 113; refine (impl_readNumber.atoi_range s hs hA _ hv).mono ?_; rintro e w1 ⟨⟨tp, p, rfl⟩, hb⟩)
  go_ret2
  exact ⟨rfl, hb⟩
/-! ### strings_Split: function 114 -/
def strings_Split.f (s0 s1 : ByteArray) : Option (List ByteArray) := if s0.size ≤ 1048576 ∧ s1.size = 1 then some (Lib.splitB s1 0 (Lib.countB s0 s1) s0) else none
theorem strings_Split.encs (l : List ByteArray) : encs Value.string l = l.map Value.string := by
 induction l with
 | nil => rfl
 | cons a l ih => rw [List.map_cons, ← ih]; rfl
theorem strings_Split.calls (s0 s1 : ByteArray) (r : List ByteArray) (w : World) (HV : Aside0 (impl_readNumber.VOK w)) (h : strings_Split.f s0 s1 = some r) :
  Calls Tryz.prog 114 #[.string s0, .string s1] w fun e w' => ∃ v0_ : Value, e = .returned (v0_) ∧ Kd.R Kd.string 9 w' w.heap.size (fun _ => True) v0_ r ∧ Below w.heap.size w w' := by
 unfold strings_Split.f at h
 split at h
 case isFalse => cases h
 rename_i hs
 obtain rfl := Option.some.inj h
 obtain ⟨-, m, hm⟩ := HV.out
 have hle := Lib.countB_le s1 zq32 s0.size s0 (Nat.le_refl _)
 have hlen := Lib.splitB_all s1 zq32 0 _ s0 rfl
 refine (Any.strings_Split { Tryz.laysSplit with } zq15 s0 s1 m w zq32 hm zq32).mono (fun e w' hh => ?_)
 obtain ⟨rfl, rfl⟩ := hh
 refine ⟨_, rfl, Kd.R_of_own (enc := Value.string) (h1 := fun _ => rfl) ?_ (fun _ _ => trivial), below_alloc (Below.refl _ _) _⟩
 rw [hlen]
 refine ⟨by rw [encs_length, hlen, Nat.mul_one], .inr ⟨w.heap.size, _, _, rfl, Nat.le_refl _, blk_new _ _, Nat.le_refl _, by unfold maxLen; omega, by simp [hlen], ?_⟩⟩
 rw [strings_Split.encs, Nat.mul_one, List.take_of_length_le (by simp [hlen])]
/-! ### impl_readList: function 67 -/
def impl_readList.l0 : Nat → List Int → List ByteArray → Int → Int → Option (List Int × Bool)
 | 0, _, _, _, _ => none
 | k + 1, x4, x14, x15, x16 => if x16 < x15 then (if 0 ≤ x16 then (if x16 < (x14.length : Int) then ((impl_readNumber.f (rdOf ByteArray.empty x14 x16)).bind fun bt327 => (if bt327.2 = true then (if x4.length < 17592186044416 then (impl_readList.l0 k (x4 ++ [bt327.1]) x14 x15 (wrap64 (x16 + 1))) else (none)) else (some (([] : List Int), false)))) else (none)) else (none)) else (some (x4, true))
def impl_readList.f (k : Nat) (a0 : ByteArray) : Option (List Int × Bool) := (some (([] : List Int) : List Int)).bind fun y320 => (if a0.toList = ([45] : List UInt8) then (some (y320, true)) else ((strings_Split.f a0 (⟨#[44]⟩ : ByteArray)).bind fun t323 => (impl_readList.l0 k y320 t323 (t323.length : Int) 0)))
theorem impl_readList.mono_l : ∀ k, (∀ y0 y1 y2 y3, LeO (impl_readList.l0 k y0 y1 y2 y3) (impl_readList.l0 (k + 1) y0 y1 y2 y3))
 | 0 => fun _ _ _ _ r h => by simp [impl_readList.l0] at h
 | k + 1 => by
  have ih0 := impl_readList.mono_l k
  ·intro y0 y1 y2 y3
   unfold impl_readList.l0
   repeat' first | (with_reducible first | exact ih0 _ _ _ _ | exact LeO.refl _ | exact LeO.none _ | refine LeO.ite ?_ ?_ | refine LeO.bind ?_ (fun _ => ?_))
theorem impl_readList.mono : ∀ a0 k, LeO (impl_readList.f k a0) (impl_readList.f (k + 1) a0) := by
 intro a0 k
 have ih0 := impl_readList.mono_l k
 unfold impl_readList.f
 repeat' first | (with_reducible first | exact ih0 _ _ _ _ | exact LeO.refl _ | exact LeO.none _ | refine LeO.ite ?_ ?_ | refine LeO.bind ?_ (fun _ => ?_))
theorem impl_readList.calls (k : Nat) (a0 : ByteArray) (r1 : List Int) (r2 : Bool) (w : World) (HV : Aside0 (impl_readNumber.VOK w)) (h : impl_readList.f k a0 = some (r1, r2)) :
  Calls Tryz.prog 67 #[.string a0] w fun e w' => ∃ v0_ : Value, e = .returned (.tuple #[v0_, .bool r2]) ∧ Kd.R (Kd.int .i64) 3 w' w.heap.size (fun _ => True) v0_ r1 ∧ Below w.heap.size w w' := by
 have HB := am (Below.refl w.heap.size w)
 unfold impl_readList.f at h
 have H := h
 clear h
 obtain ⟨y320, Ny320, H⟩ := zY H
 by_cases c2 : a0.toList = ([45] : List UInt8)
 ·rw [if_pos c2] at H
  have c2b0 : (a0.toList == ([45] : List UInt8)) = true := beq_iff_eq.mpr c2
  have c2b1 : (a0.toList != ([45] : List UInt8)) = false := bne_eq_false_iff_eq.mpr c2
  clear c2
  simp only [Option.some.injEq, Prod.mk.injEq] at H
  obtain ⟨rfl, rfl⟩ := H
  go_enter Tryz.func67, Tryz.ntmps67
  go_wp2_with (first | ((with_reducible refine gate_dst (N := 9) rfl ?_); refine Kd.R_lit (Kd.int .i64) _ 3 ?hg (N := 9) ?hd (xs := ([] : List Int)) (inner := []) (ok := fun _ => True) (okp := fun _ => True) ?hr ?hp (fun _ hk => hk) trivial (Below.refl _ _) (Nat.le_refl _) zq42 ?_; (case hd => rfl); (case hg => rfl); (case hr => exact zq30); (case hp => exact (Reps.none _ _)); intro v321 w3 ho4 hb hg_ hnew_; clear hg_ hnew_; (first | rw [← Ny320.out] at ho4 | (simp only [Int.reduceToNat] at ho4; rw [← Ny320.out] at ho4)); have HO322 := am (Kd.R_lower ho4 (below_size (pBq HB))); replace HB := sB HB hb; clear hb ho4))
  go_ret2
  exact ⟨_, zq6, by (with_reducible repeat (first | apply Kd.R_alloc | apply Kd.R_drewN | apply Kd.R_drew)); exact HO322.out, zq13⟩
 ·rw [if_neg c2] at H
  have c2b0 : (a0.toList == ([45] : List UInt8)) = false := beq_eq_false_iff_ne.mpr c2
  have c2b1 : (a0.toList != ([45] : List UInt8)) = true := bne_iff_ne.mpr c2
  obtain ⟨t323, A5, H⟩ := zS H
  (try dsimp only at H)
  have H' := am H
  clear H
  go_enter Tryz.func67, Tryz.ntmps67
  go_wp2_with (first | ((with_reducible refine gate_dst (N := 9) rfl ?_); refine Kd.R_lit (Kd.int .i64) _ 3 ?hg (N := 9) ?hd (xs := ([] : List Int)) (inner := []) (ok := fun _ => True) (okp := fun _ => True) ?hr ?hp (fun _ hk => hk) trivial (Below.refl _ _) (Nat.le_refl _) zq42 ?_; (case hd => rfl); (case hg => rfl); (case hr => exact zq30); (case hp => exact (Reps.none _ _)); intro v321 w6 ho7 hb hg_ hnew_; clear hg_ hnew_; (first | rw [← Ny320.out] at ho7 | (simp only [Int.reduceToNat] at ho7; rw [← Ny320.out] at ho7)); have HO322 := am (Kd.R_lower ho7 (below_size (pBq HB))); replace HB := sB HB hb; clear hb ho7) | ((with_reducible refine gate_callee (f := 114) rfl ?_); refine goesL_ (some 14) rfl rfl Tryz.func114 zq15 rfl #[.string a0, .string (⟨#[44]⟩ : ByteArray)] rfl zq0 ?_; (with_reducible refine (strings_Split.calls a0 (⟨#[44]⟩ : ByteArray) t323 _ (am (impl_readNumber.VOK.on HV.out (pBq HB))) A5.out).mono ?_); rintro e w8 ⟨v324, rfl, ho0, hb⟩; refine ⟨_, rfl, ?_⟩; have HO325 := am (Kd.R_lower ho0 (below_size (pBq HB))); replace HO322 := sR HO322 hb; replace HB := sB HB hb; (try clear hb ho0); obtain ⟨Ao9, co9, eo9⟩ := Kd.R_slice HO325.out; subst eo9))
  go_loopg [4, 16] k (fun kq v4 v16 w' => ∃ (x4_1 : List Int) (x16_1 : Int), v16 = .int .i64 x16_1 ∧ Aside0 (impl_readList.l0 kq x4_1 t323 (t323.length : Int) x16_1 = some (r1, r2)) ∧ Aside0 (kq ≤ k) ∧ Aside0 (Kd.R (Kd.int .i64) 3 w' w.heap.size (fun _ => True) v4 x4_1) ∧ Aside0 (Kd.R Kd.string 9 w' w.heap.size (fun _ => True) (.slice Ao9 t323.length co9) t323) ∧ Aside0 (Below w.heap.size w w'))
  case atStart => exact ⟨(y320), (0), zq10, H', ⟨Nat.le_refl _⟩, ⟨by (with_reducible repeat (first | apply Kd.R_alloc | apply Kd.R_drewN | apply Kd.R_drew)); exact HO322.out⟩, ⟨by (with_reducible repeat (first | apply Kd.R_alloc | apply Kd.R_drewN | apply Kd.R_drew)); exact HO325.out⟩, ⟨zq13⟩⟩
  case round =>
   clear H'
   obtain ⟨x4_1, x16_1, rfl, HA, HK1, HO_4, HO_14, HB⟩ := hrel
   cases gk with
   | zero => exact absurd HA.out (by simp [impl_readList.l0])
   | succ k1 =>
    have H := HA.out
    clear HA
    simp only [impl_readList.l0] at H
    by_cases c10 : x16_1 < (t323.length : Int)
    ·rw [if_pos c10] at H
     have c10b0 := decide_eq_true c10
     clear c10
     obtain ⟨c11, H⟩ := zI H
     have c11b0 := decide_eq_true c11
     clear c11
     obtain ⟨c12, H⟩ := zI H
     have c12b0 := decide_eq_true c12
     clear c12
     replace H := Option.bind_eq_some_iff.mp H
     obtain ⟨⟨t327, t328⟩, A130, H⟩ := H
     (try dsimp only at H)
     have A13 := am A130
     clear A130
     by_cases c14 : t328 = true
     ·subst c14
      rw [if_pos rfl] at H
      obtain ⟨c15, H⟩ := zI H
      have LMc15 := am c15
      clear c15
      obtain ⟨y329, Ny329⟩ : ∃ y_ : List Int, Aside0 (y_ = (x4_1 ++ [t327])) := ⟨_, ⟨rfl⟩⟩
      rw [← Ny329.out] at H
      have H' := am H
      clear H
      have p326 : 0 ≤ (x16_1 : Int) := of_decide_eq_true zq9
      have q326 : x16_1 < (t323.length : Int) := of_decide_eq_true zq9
      obtain ⟨ad326, e326, hx326_0⟩ := Kd.at_string (Kd.R_reads' HO_14.out).2.2 x16_1 p326 q326
      cases e326
      replace p326 := eq_true p326
      replace q326 := eq_true q326
      go_wp2_with (first | ((with_reducible refine gate_callee (f := 66) rfl ?_); refine goesL_ (some 22) rfl rfl Tryz.func66 zq15 rfl #[.string (rdOf ByteArray.empty t323 x16_1)] rfl zq0 ?_; (with_reducible refine (impl_readNumber.calls (rdOf ByteArray.empty t323 x16_1) t327 true _ (am (impl_readNumber.VOK.on HV.out (pBq HB))) A13.out).mono ?_); rintro e w16 ⟨rfl, hb⟩; refine ⟨_, rfl, ?_⟩; replace HO_4 := sR HO_4 hb; replace HO_14 := sR HO_14 hb; replace HB := sB HB hb; (try clear hb)) | ((with_reducible refine gate_builtin (b := .append) (xs := #[.tmp 27, .tmp 29]) rfl ?_); at_builtin; refine Kd.R_append (Kd.int .i64) (w0 := w) w.heap.size rfl (.tmp 27) (.tmp 29) 24 3 (.int .i64 0) 8 rfl Tryz.underlying24 info3 rfl zq27 zq32 u4 x4_1 t327 [.int .i64 t327] (fun _ => True) (fun _ => False) rfl rfl ?aP (fun _ hk => hk.elim) ?aF ?aO ?aB ?aS ?aL ?_; (case aP => exact rfl); (case aB => exact (pBq HB)); (case aF => exact zq99); (case aO => exact (pRq HO_4)); (case aS => exact (below_size (pBq HB))); (case aL => have := LMc15.out; omega); intro v330 w17 ho hb hg hat; rw [← Ny329.out] at ho; have HO331 := am (ho); replace HO_14 := am (Kd.R_over' (pRq HO_14) (Kd.R_typed (pRq HO_4)) zq27 hg); replace HB := am (hb); clear HO_4; clear ho hb hg hat))
      go_roundg k1
      case measure => have := HK1.out; omega
      case rel => exact ⟨(y329), (wrap64 (x16_1 + 1)), zq10, H', ⟨zq82⟩, ⟨by (with_reducible repeat (first | apply Kd.R_alloc | apply Kd.R_drewN | apply Kd.R_drew)); exact HO331.out⟩, ⟨by (with_reducible repeat (first | apply Kd.R_alloc | apply Kd.R_drewN | apply Kd.R_drew)); exact HO_14.out⟩, ⟨zq13⟩⟩
     ·replace c14 := Bool.eq_false_iff.mpr c14
      subst c14
      rw [if_neg (show ¬ (false = true) by decide)] at H
      simp only [Option.some.injEq, Prod.mk.injEq] at H
      obtain ⟨rfl, rfl⟩ := H
      have p326 : 0 ≤ (x16_1 : Int) := of_decide_eq_true zq9
      have q326 : x16_1 < (t323.length : Int) := of_decide_eq_true zq9
      obtain ⟨ad326, e326, hx326_0⟩ := Kd.at_string (Kd.R_reads' HO_14.out).2.2 x16_1 p326 q326
      cases e326
      replace p326 := eq_true p326
      replace q326 := eq_true q326
      go_wp2_with (first | ((with_reducible refine gate_callee (f := 66) rfl ?_); refine goesL_ (some 22) rfl rfl Tryz.func66 zq15 rfl #[.string (rdOf ByteArray.empty t323 x16_1)] rfl zq0 ?_; (with_reducible refine (impl_readNumber.calls (rdOf ByteArray.empty t323 x16_1) t327 false _ (am (impl_readNumber.VOK.on HV.out (pBq HB))) A13.out).mono ?_); rintro e w18 ⟨rfl, hb⟩; refine ⟨_, rfl, ?_⟩; replace HO_4 := sR HO_4 hb; replace HO_14 := sR HO_14 hb; replace HB := sB HB hb; (try clear hb)))
      go_ret2
      exact ⟨_, zq6, zq11, zq13⟩
    ·rw [if_neg c10] at H
     have c10b0 := decide_eq_false c10
     clear c10
     simp only [Option.some.injEq, Prod.mk.injEq] at H
     obtain ⟨rfl, rfl⟩ := H
     go_wp2
     go_ret2
     exact ⟨_, zq6, by (with_reducible repeat (first | apply Kd.R_alloc | apply Kd.R_drewN | apply Kd.R_drew)); exact HO_4.out, zq13⟩
/-! ### impl_checked: function 68 -/
def impl_checked.f (a0_0 : Int) (l0_1 : List Int) : Option (Int × List Int × Bool) := (impl_isLadder.f a0_0 l0_1).bind fun t334 => (if t334 = true then (some (a0_0, l0_1, true)) else (some (0, ([] : List Int), false)))
theorem impl_checked.calls (a0_0 : Int) (P0_1_ : Nat → Prop) (u9000_ : Value) (l0_1 : List Int) (r1 : Int) (r2 : List Int) (r3 : Bool) (w0 w : World) (hB : Below w0.heap.size w0 w) (ho0_1 : Kd.R (Kd.int .i64) 3 w w0.heap.size P0_1_ u9000_ l0_1) (h : impl_checked.f a0_0 l0_1 = some (r1, r2, r3)) :
  Calls Tryz.prog 68 #[.agg #[.int .i64 a0_0, u9000_]] w fun e w' => ∃ v1_ : Value, e = .returned (.tuple #[.agg #[.int .i64 r1, v1_], .bool r3]) ∧ Kd.R (Kd.int .i64) 3 w' w0.heap.size (fun k_ => (P0_1_ k_ ∨ w.heap.size ≤ k_)) v1_ r2 ∧ Below w0.heap.size w0 w' ∧ Kept w w' (fun k_ => P0_1_ k_) := by
 have hu26 := Tryz.underlying26
 have HO0_1 := am (show Kd.R (Kd.int .i64) 3 w w0.heap.size (fun k_ => (P0_1_ k_ ∨ w.heap.size ≤ k_)) u9000_ l0_1 from Kd.R_mono ho0_1 (fun k_ hk => (.inl hk)))
 have HK := am (Kept.refl w (fun k_ => P0_1_ k_))
 have HW0 := am hB.size
 have HB := am hB
 clear hB
 unfold impl_checked.f at h
 have H := h
 clear h
 obtain ⟨t334, A2, H⟩ := zS H
 (try dsimp only at H)
 by_cases c3 : t334 = true
 ·subst c3
  rw [if_pos rfl] at H
  simp only [Option.some.injEq, Prod.mk.injEq] at H
  obtain ⟨rfl, rfl, rfl⟩ := H
  obtain ⟨Ao4, co4, eo4⟩ := Kd.R_slice HO0_1.out
  subst eo4
  go_enter Tryz.func68, Tryz.ntmps68
  go_wp2_with (first | ((with_reducible refine gate_dst (N := 1) rfl ?_); refine zE 1 (cs := #[.int .i64 a0_0, .slice Ao4 l0_1.length co4]) 26 ?_; intro gb332 hg w5 hbox hb; have BK332 := am (hbox); have GW332 := am ((zq83 : w.heap.size ≤ gb332)); have GE332 := am ((zq36 : w0.heap.size ≤ gb332)); replace HO0_1 := sR HO0_1 hb; replace HK := am (Kept.below (S := (fun k_ => P0_1_ k_)) zq29 hb); replace HB := sB HB hb; clear hb hbox hg) | ((with_reducible refine gate_dst (N := 2) rfl ?_); refine zE 2 (cs := #[.int .i64 0, .slice none 0 0]) 26 ?_; intro gb333 hg w6 hbox hb; have BK333 := am (hbox); have GW333 := am ((by rw [hg]; exact (by first | exact HK.out.1 | exact (show Kept w _ (fun k_ => P0_1_ k_) from zq58).1) : w.heap.size ≤ gb333)); have GE333 := am ((zq36 : w0.heap.size ≤ gb333)); have NB332_333 := am ((by rw [hg]; exact Nat.ne_of_lt (blk_lt (pKq BK332)) : gb332 ≠ gb333)); have NB333_332 := am ((by rw [hg]; exact Nat.ne_of_gt (blk_lt (pKq BK332)) : gb333 ≠ gb332)); replace HO0_1 := sR HO0_1 hb; replace BK332 := sK BK332 hb; replace HK := am (Kept.below (S := (fun k_ => P0_1_ k_)) zq58 hb); replace HB := sB HB hb; clear hb hbox hg; have hnb7 := NB332_333.out; have hnc7 := NB333_332.out; obtain ⟨hcz8_0, hcz8_1, hfz8_0, hfz8_1⟩ := sC BK332) | ((with_reducible refine gate_callee (f := 56) rfl ?_); refine goesL_ (some 5) rfl rfl Tryz.func56 zq15 rfl #[.agg #[.int .i64 a0_0, .slice Ao4 l0_1.length co4]] rfl zq0 ?_; (with_reducible refine (impl_isLadder.calls a0_0 _ _ l0_1 true _ ?side1 ?side2 A2.out).mono ?_); (case side1 => exact zq61); (case side2 => exact (Kd.R_reads' HO0_1.out).2.1); rintro e w9 ⟨rfl, hb⟩; refine ⟨_, rfl, ?_⟩; replace HO0_1 := sR HO0_1 hb; replace BK332 := sK BK332 hb; replace BK333 := sK BK333 hb; replace HK := am (Kept.below (S := (fun k_ => P0_1_ k_)) zq48 hb); replace HB := sB HB hb; (try clear hb); obtain ⟨hcz10_0, hcz10_1, hfz10_0, hfz10_1⟩ := sC BK332; obtain ⟨hcz11_0, hcz11_1, hfz11_0, hfz11_1⟩ := sC BK333))
  refine bodyPost_ret (results_ct rfl _ _ gb333 26 #[.int .i64 a0_0, .slice Ao4 l0_1.length co4] (0, 0) _ rfl (by (with_reducible repeat (first | refine blk_drewN ?_ _ | refine blk_drew ?_ | refine blk_alloc ?_ _)); refine blk_put (cs := #[.int .i64 a0_0, .slice none 0 0]) ?_ 1 _ rfl; (with_reducible repeat (first | refine blk_drewN ?_ _ | refine blk_drew ?_ | refine blk_alloc ?_ _)); refine blk_put (cs := #[.int .i64 0, .slice none 0 0]) ?_ 0 _ rfl; (with_reducible repeat (first | refine blk_drewN ?_ _ | refine blk_drew ?_ | refine blk_alloc ?_ _)); exact BK333.out) Tryz.underlying26 rfl zq15) rfl ?_
  exact ⟨_, zq6, by (with_reducible repeat (first | apply Kd.R_alloc | apply Kd.R_drewN | apply Kd.R_drew)); exact Kd.R_mono (Kd.R_far (p := ⟨gb333, 1, none⟩) (Kd.R_far (p := ⟨gb333, 0, none⟩) (Kd.R_types HO0_1.out BK333.out zq27) (fun _ hk => hk.2) (.int .i64 a0_0)) (fun _ hk => hk.2) (.slice Ao4 l0_1.length co4)) (fun _ hk => hk.1), zq1, zq48⟩
 ·replace c3 := Bool.eq_false_iff.mpr c3
  subst c3
  rw [if_neg (show ¬ (false = true) by decide)] at H
  simp only [Option.some.injEq, Prod.mk.injEq] at H
  obtain ⟨rfl, rfl, rfl⟩ := H
  obtain ⟨Ao12, co12, eo12⟩ := Kd.R_slice HO0_1.out
  subst eo12
  go_enter Tryz.func68, Tryz.ntmps68
  go_wp2_with (first | ((with_reducible refine gate_dst (N := 1) rfl ?_); refine zE 1 (cs := #[.int .i64 a0_0, .slice Ao12 l0_1.length co12]) 26 ?_; intro gb332 hg w13 hbox hb; have BK332 := am (hbox); have GW332 := am ((zq83 : w.heap.size ≤ gb332)); have GE332 := am ((zq36 : w0.heap.size ≤ gb332)); replace HO0_1 := sR HO0_1 hb; replace HK := am (Kept.below (S := (fun k_ => P0_1_ k_)) zq29 hb); replace HB := sB HB hb; clear hb hbox hg) | ((with_reducible refine gate_dst (N := 2) rfl ?_); refine zE 2 (cs := #[.int .i64 0, .slice none 0 0]) 26 ?_; intro gb333 hg w14 hbox hb; have BK333 := am (hbox); have GW333 := am ((by rw [hg]; exact (by first | exact HK.out.1 | exact (show Kept w _ (fun k_ => P0_1_ k_) from zq58).1) : w.heap.size ≤ gb333)); have GE333 := am ((zq36 : w0.heap.size ≤ gb333)); have NB332_333 := am ((by rw [hg]; exact Nat.ne_of_lt (blk_lt (pKq BK332)) : gb332 ≠ gb333)); have NB333_332 := am ((by rw [hg]; exact Nat.ne_of_gt (blk_lt (pKq BK332)) : gb333 ≠ gb332)); replace HO0_1 := sR HO0_1 hb; replace BK332 := sK BK332 hb; replace HK := am (Kept.below (S := (fun k_ => P0_1_ k_)) zq58 hb); replace HB := sB HB hb; clear hb hbox hg; have hnb15 := NB332_333.out; have hnc15 := NB333_332.out; obtain ⟨hcz16_0, hcz16_1, hfz16_0, hfz16_1⟩ := sC BK332) | ((with_reducible refine gate_callee (f := 56) rfl ?_); refine goesL_ (some 5) rfl rfl Tryz.func56 zq15 rfl #[.agg #[.int .i64 a0_0, .slice Ao12 l0_1.length co12]] rfl zq0 ?_; (with_reducible refine (impl_isLadder.calls a0_0 _ _ l0_1 false _ ?side1 ?side2 A2.out).mono ?_); (case side1 => exact zq61); (case side2 => exact (Kd.R_reads' HO0_1.out).2.1); rintro e w17 ⟨rfl, hb⟩; refine ⟨_, rfl, ?_⟩; replace HO0_1 := sR HO0_1 hb; replace BK332 := sK BK332 hb; replace BK333 := sK BK333 hb; replace HK := am (Kept.below (S := (fun k_ => P0_1_ k_)) zq48 hb); replace HB := sB HB hb; (try clear hb); obtain ⟨hcz18_0, hcz18_1, hfz18_0, hfz18_1⟩ := sC BK333))
  refine bodyPost_ret (results_ct rfl _ _ gb333 26 #[.int .i64 0, .slice none 0 0] (0, 0) _ rfl (by (with_reducible repeat (first | refine blk_drewN ?_ _ | refine blk_drew ?_ | refine blk_alloc ?_ _)); refine blk_put (cs := #[.int .i64 0, .slice none 0 0]) ?_ 1 _ rfl; (with_reducible repeat (first | refine blk_drewN ?_ _ | refine blk_drew ?_ | refine blk_alloc ?_ _)); refine blk_put (cs := #[.int .i64 0, .slice none 0 0]) ?_ 0 _ rfl; (with_reducible repeat (first | refine blk_drewN ?_ _ | refine blk_drew ?_ | refine blk_alloc ?_ _)); exact BK333.out) Tryz.underlying26 rfl zq15) rfl ?_
  exact ⟨_, zq6, zq11, zq1, zq48⟩
/-! ### impl_ParseLadder: function 17 -/
def impl_ParseLadder.f (k : Nat) (a0 : ByteArray) : Option (Int × List Int × Bool) := (strings_Cut.f a0 (⟨#[58]⟩ : ByteArray)).bind fun bt336 => ((impl_readNumber.f bt336.1).bind fun bt339 => ((impl_readList.f k bt336.2.1).bind fun bt341 => (if bt336.2.2 = true then (if bt339.2 = true then (if bt341.2 = true then ((impl_checked.f bt339.1 bt341.1).bind fun bt345 => (some (bt345.1, bt345.2.1, bt345.2.2))) else (some (0, ([] : List Int), false))) else (some (0, ([] : List Int), false))) else (some (0, ([] : List Int), false)))))
theorem impl_ParseLadder.mono : ∀ a0 k, LeO (impl_ParseLadder.f k a0) (impl_ParseLadder.f (k + 1) a0) := by
 intro a0 k
 unfold impl_ParseLadder.f
 repeat' first | (with_reducible first | exact impl_readList.mono _ _ | exact LeO.refl _ | exact LeO.none _ | refine LeO.ite ?_ ?_ | refine LeO.bind ?_ (fun _ => ?_))
theorem impl_ParseLadder.calls (k : Nat) (a0 : ByteArray) (r1 : Int) (r2 : List Int) (r3 : Bool) (w : World) (HV : Aside0 (impl_readNumber.VOK w)) (h : impl_ParseLadder.f k a0 = some (r1, r2, r3)) :
  Calls Tryz.prog 17 #[.string a0] w fun e w' => ∃ v1_ : Value, e = .returned (.tuple #[.agg #[.int .i64 r1, v1_], .bool r3]) ∧ Kd.R (Kd.int .i64) 3 w' w.heap.size (fun _ => True) v1_ r2 ∧ Below w.heap.size w w' := by
 have hu26 := Tryz.underlying26
 have HB := am (Below.refl w.heap.size w)
 unfold impl_ParseLadder.f at h
 have H := h
 clear h
 replace H := Option.bind_eq_some_iff.mp H
 obtain ⟨⟨t336, t337, t338⟩, A20, H⟩ := H
 (try dsimp only at H)
 have A2 := am A20
 clear A20
 replace H := Option.bind_eq_some_iff.mp H
 obtain ⟨⟨t339, t340⟩, A30, H⟩ := H
 (try dsimp only at H)
 have A3 := am A30
 clear A30
 replace H := Option.bind_eq_some_iff.mp H
 obtain ⟨⟨t341, t342⟩, A40, H⟩ := H
 (try dsimp only at H)
 have A4 := am A40
 clear A40
 by_cases c5 : t338 = true
 ·subst c5
  rw [if_pos rfl] at H
  by_cases c6 : t340 = true
  ·subst c6
   rw [if_pos rfl] at H
   by_cases c7 : t342 = true
   ·subst c7
    rw [if_pos rfl] at H
    replace H := Option.bind_eq_some_iff.mp H
    obtain ⟨⟨t345, t346, t349⟩, A80, H⟩ := H
    (try dsimp only at H)
    have A8 := am A80
    clear A80
    simp only [Option.some.injEq, Prod.mk.injEq] at H
    obtain ⟨rfl, rfl, rfl⟩ := H
    go_enter Tryz.func17, Tryz.ntmps17
    go_wp2_with (first | ((with_reducible refine gate_dst (N := 2) rfl ?_); refine zE 2 (cs := #[.int .i64 0, .slice none 0 0]) 26 ?_; intro gb335 hg w9 hbox hb; have BK335 := am (hbox); have GW335 := am ((zq36 : w.heap.size ≤ gb335)); have GE335 := am ((zq36 : w.heap.size ≤ gb335)); replace HB := sB HB hb; clear hb hbox hg) | ((with_reducible refine gate_callee (f := 65) rfl ?_); refine goesL_ (some 13) rfl rfl Tryz.func65 zq15 rfl #[.string a0, .string (⟨#[58]⟩ : ByteArray)] rfl zq0 ?_; (with_reducible refine (strings_Cut.calls a0 (⟨#[58]⟩ : ByteArray) t336 t337 true _ (am (impl_readNumber.VOK.on HV.out (pBq HB))) A2.out).mono ?_); rintro e w10 ⟨rfl, hb⟩; refine ⟨_, rfl, ?_⟩; replace BK335 := sK BK335 hb; replace HB := sB HB hb; (try clear hb)) | ((with_reducible refine gate_callee (f := 66) rfl ?_); refine goesL_ (some 19) rfl rfl Tryz.func66 zq15 rfl #[.string t336] rfl zq0 ?_; (with_reducible refine (impl_readNumber.calls t336 t339 true _ (am (impl_readNumber.VOK.on HV.out (pBq HB))) A3.out).mono ?_); rintro e w11 ⟨rfl, hb⟩; refine ⟨_, rfl, ?_⟩; replace BK335 := sK BK335 hb; replace HB := sB HB hb; (try clear hb)) | ((with_reducible refine gate_callee (f := 67) rfl ?_); refine goesL_ (some 24) rfl rfl Tryz.func67 zq15 rfl #[.string t337] rfl zq0 ?_; (with_reducible refine (impl_readList.calls k t337 t341 true _ (am (impl_readNumber.VOK.on HV.out (pBq HB))) A4.out).mono ?_); rintro e w12 ⟨v343, rfl, ho0, hb⟩; refine ⟨_, rfl, ?_⟩; have HO344 := am (Kd.R_lower ho0 (below_size (pBq HB))); replace BK335 := sK BK335 hb; replace HB := sB HB hb; (try clear hb ho0); obtain ⟨Ao13, co13, eo13⟩ := Kd.R_slice HO344.out; subst eo13) | ((with_reducible refine gate_callee (f := 68) rfl ?_); refine goesL_ (some 41) rfl rfl Tryz.func68 zq15 rfl #[.agg #[.int .i64 t339, .slice Ao13 t341.length co13]] rfl zq0 ?_; (with_reducible refine (impl_checked.calls t339 (fun k_ => some k_ = (.slice Ao13 t341.length co13 : Value).ownBlock) (.slice Ao13 t341.length co13) t341 t345 t346 t349 w _ ?side1 ?side2 A8.out).mono ?_); (case side1 => exact zq1); (case side2 => exact Kd.R_tight rfl HO344.out); rintro e w14 ⟨v347, rfl, ho0, hb, hkp⟩; refine ⟨_, rfl, ?_⟩; have HO348 := am (Kd.R_mono (ok' := fun k_ => True) ho0 (fun k_ hk_ => trivial)); replace BK335 := am (blk_kept (pKq BK335) hkp (fun hs_ => (fun e_ => (Kd.R_ne HO344.out BK335.out zq27) e_) hs_)); replace HB := am (hb); clear HO344; (try clear hb hkp ho0); obtain ⟨hcz15_0, hcz15_1, hfz15_0, hfz15_1⟩ := sC BK335; obtain ⟨Ao16, co16, eo16⟩ := Kd.R_slice HO348.out; subst eo16))
    refine bodyPost_ret (results_ct rfl _ _ gb335 26 #[.int .i64 t345, .slice Ao16 t346.length co16] (0, 0) _ rfl (by (with_reducible repeat (first | refine blk_drewN ?_ _ | refine blk_drew ?_ | refine blk_alloc ?_ _)); refine blk_put (cs := #[.int .i64 t345, .slice none 0 0]) ?_ 1 _ rfl; (with_reducible repeat (first | refine blk_drewN ?_ _ | refine blk_drew ?_ | refine blk_alloc ?_ _)); refine blk_put (cs := #[.int .i64 0, .slice none 0 0]) ?_ 0 _ rfl; (with_reducible repeat (first | refine blk_drewN ?_ _ | refine blk_drew ?_ | refine blk_alloc ?_ _)); exact BK335.out) Tryz.underlying26 rfl zq15) rfl ?_
    exact ⟨_, zq6, by (with_reducible repeat (first | apply Kd.R_alloc | apply Kd.R_drewN | apply Kd.R_drew)); exact Kd.R_mono (Kd.R_far (p := ⟨gb335, 1, none⟩) (Kd.R_far (p := ⟨gb335, 0, none⟩) (Kd.R_types HO348.out BK335.out zq27) (fun _ hk => hk.2) (.int .i64 t345)) (fun _ hk => hk.2) (.slice Ao16 t346.length co16)) (fun _ hk => trivial), zq1⟩
   ·replace c7 := Bool.eq_false_iff.mpr c7
    subst c7
    rw [if_neg (show ¬ (false = true) by decide)] at H
    simp only [Option.some.injEq, Prod.mk.injEq] at H
    obtain ⟨rfl, rfl, rfl⟩ := H
    go_enter Tryz.func17, Tryz.ntmps17
    go_wp2_with (first | ((with_reducible refine gate_dst (N := 2) rfl ?_); refine zE 2 (cs := #[.int .i64 0, .slice none 0 0]) 26 ?_; intro gb335 hg w17 hbox hb; have BK335 := am (hbox); have GW335 := am ((zq36 : w.heap.size ≤ gb335)); have GE335 := am ((zq36 : w.heap.size ≤ gb335)); replace HB := sB HB hb; clear hb hbox hg) | ((with_reducible refine gate_callee (f := 65) rfl ?_); refine goesL_ (some 13) rfl rfl Tryz.func65 zq15 rfl #[.string a0, .string (⟨#[58]⟩ : ByteArray)] rfl zq0 ?_; (with_reducible refine (strings_Cut.calls a0 (⟨#[58]⟩ : ByteArray) t336 t337 true _ (am (impl_readNumber.VOK.on HV.out (pBq HB))) A2.out).mono ?_); rintro e w18 ⟨rfl, hb⟩; refine ⟨_, rfl, ?_⟩; replace BK335 := sK BK335 hb; replace HB := sB HB hb; (try clear hb)) | ((with_reducible refine gate_callee (f := 66) rfl ?_); refine goesL_ (some 19) rfl rfl Tryz.func66 zq15 rfl #[.string t336] rfl zq0 ?_; (with_reducible refine (impl_readNumber.calls t336 t339 true _ (am (impl_readNumber.VOK.on HV.out (pBq HB))) A3.out).mono ?_); rintro e w19 ⟨rfl, hb⟩; refine ⟨_, rfl, ?_⟩; replace BK335 := sK BK335 hb; replace HB := sB HB hb; (try clear hb)) | ((with_reducible refine gate_callee (f := 67) rfl ?_); refine goesL_ (some 24) rfl rfl Tryz.func67 zq15 rfl #[.string t337] rfl zq0 ?_; (with_reducible refine (impl_readList.calls k t337 t341 false _ (am (impl_readNumber.VOK.on HV.out (pBq HB))) A4.out).mono ?_); rintro e w20 ⟨v343, rfl, ho0, hb⟩; refine ⟨_, rfl, ?_⟩; have HO344 := am (Kd.R_lower ho0 (below_size (pBq HB))); replace BK335 := sK BK335 hb; replace HB := sB HB hb; (try clear hb ho0); obtain ⟨hcz21_0, hcz21_1, hfz21_0, hfz21_1⟩ := sC BK335))
    refine bodyPost_ret (results_ct rfl _ _ gb335 26 #[.int .i64 0, .slice none 0 0] (0, 0) _ rfl zq33 Tryz.underlying26 rfl zq15) rfl ?_
    exact ⟨_, zq6, zq11, zq1⟩
  ·replace c6 := Bool.eq_false_iff.mpr c6
   subst c6
   rw [if_neg (show ¬ (false = true) by decide)] at H
   simp only [Option.some.injEq, Prod.mk.injEq] at H
   obtain ⟨rfl, rfl, rfl⟩ := H
   go_enter Tryz.func17, Tryz.ntmps17
   go_wp2_with (first | ((with_reducible refine gate_dst (N := 2) rfl ?_); refine zE 2 (cs := #[.int .i64 0, .slice none 0 0]) 26 ?_; intro gb335 hg w22 hbox hb; have BK335 := am (hbox); have GW335 := am ((zq36 : w.heap.size ≤ gb335)); have GE335 := am ((zq36 : w.heap.size ≤ gb335)); replace HB := sB HB hb; clear hb hbox hg) | ((with_reducible refine gate_callee (f := 65) rfl ?_); refine goesL_ (some 13) rfl rfl Tryz.func65 zq15 rfl #[.string a0, .string (⟨#[58]⟩ : ByteArray)] rfl zq0 ?_; (with_reducible refine (strings_Cut.calls a0 (⟨#[58]⟩ : ByteArray) t336 t337 true _ (am (impl_readNumber.VOK.on HV.out (pBq HB))) A2.out).mono ?_); rintro e w23 ⟨rfl, hb⟩; refine ⟨_, rfl, ?_⟩; replace BK335 := sK BK335 hb; replace HB := sB HB hb; (try clear hb)) | ((with_reducible refine gate_callee (f := 66) rfl ?_); refine goesL_ (some 19) rfl rfl Tryz.func66 zq15 rfl #[.string t336] rfl zq0 ?_; (with_reducible refine (impl_readNumber.calls t336 t339 false _ (am (impl_readNumber.VOK.on HV.out (pBq HB))) A3.out).mono ?_); rintro e w24 ⟨rfl, hb⟩; refine ⟨_, rfl, ?_⟩; replace BK335 := sK BK335 hb; replace HB := sB HB hb; (try clear hb)) | ((with_reducible refine gate_callee (f := 67) rfl ?_); refine goesL_ (some 24) rfl rfl Tryz.func67 zq15 rfl #[.string t337] rfl zq0 ?_; (with_reducible refine (impl_readList.calls k t337 t341 t342 _ (am (impl_readNumber.VOK.on HV.out (pBq HB))) A4.out).mono ?_); rintro e w25 ⟨v343, rfl, ho0, hb⟩; refine ⟨_, rfl, ?_⟩; have HO344 := am (Kd.R_lower ho0 (below_size (pBq HB))); replace BK335 := sK BK335 hb; replace HB := sB HB hb; (try clear hb ho0); obtain ⟨hcz26_0, hcz26_1, hfz26_0, hfz26_1⟩ := sC BK335))
   refine bodyPost_ret (results_ct rfl _ _ gb335 26 #[.int .i64 0, .slice none 0 0] (0, 0) _ rfl zq33 Tryz.underlying26 rfl zq15) rfl ?_
   exact ⟨_, zq6, zq11, zq1⟩
 ·replace c5 := Bool.eq_false_iff.mpr c5
  subst c5
  rw [if_neg (show ¬ (false = true) by decide)] at H
  simp only [Option.some.injEq, Prod.mk.injEq] at H
  obtain ⟨rfl, rfl, rfl⟩ := H
  go_enter Tryz.func17, Tryz.ntmps17
  go_wp2_with (first | ((with_reducible refine gate_dst (N := 2) rfl ?_); refine zE 2 (cs := #[.int .i64 0, .slice none 0 0]) 26 ?_; intro gb335 hg w27 hbox hb; have BK335 := am (hbox); have GW335 := am ((zq36 : w.heap.size ≤ gb335)); have GE335 := am ((zq36 : w.heap.size ≤ gb335)); replace HB := sB HB hb; clear hb hbox hg) | ((with_reducible refine gate_callee (f := 65) rfl ?_); refine goesL_ (some 13) rfl rfl Tryz.func65 zq15 rfl #[.string a0, .string (⟨#[58]⟩ : ByteArray)] rfl zq0 ?_; (with_reducible refine (strings_Cut.calls a0 (⟨#[58]⟩ : ByteArray) t336 t337 false _ (am (impl_readNumber.VOK.on HV.out (pBq HB))) A2.out).mono ?_); rintro e w28 ⟨rfl, hb⟩; refine ⟨_, rfl, ?_⟩; replace BK335 := sK BK335 hb; replace HB := sB HB hb; (try clear hb)) | ((with_reducible refine gate_callee (f := 66) rfl ?_); refine goesL_ (some 19) rfl rfl Tryz.func66 zq15 rfl #[.string t336] rfl zq0 ?_; (with_reducible refine (impl_readNumber.calls t336 t339 t340 _ (am (impl_readNumber.VOK.on HV.out (pBq HB))) A3.out).mono ?_); rintro e w29 ⟨rfl, hb⟩; refine ⟨_, rfl, ?_⟩; replace BK335 := sK BK335 hb; replace HB := sB HB hb; (try clear hb)) | ((with_reducible refine gate_callee (f := 67) rfl ?_); refine goesL_ (some 24) rfl rfl Tryz.func67 zq15 rfl #[.string t337] rfl zq0 ?_; (with_reducible refine (impl_readList.calls k t337 t341 t342 _ (am (impl_readNumber.VOK.on HV.out (pBq HB))) A4.out).mono ?_); rintro e w30 ⟨v343, rfl, ho0, hb⟩; refine ⟨_, rfl, ?_⟩; have HO344 := am (Kd.R_lower ho0 (below_size (pBq HB))); replace BK335 := sK BK335 hb; replace HB := sB HB hb; (try clear hb ho0); obtain ⟨hcz31_0, hcz31_1, hfz31_0, hfz31_1⟩ := sC BK335))
  refine bodyPost_ret (results_ct rfl _ _ gb335 26 #[.int .i64 0, .slice none 0 0] (0, 0) _ rfl zq33 Tryz.underlying26 rfl zq15) rfl ?_
  exact ⟨_, zq6, zq11, zq1⟩
/-! ### impl_SignOf: function 18 -/
mutual
def impl_SignOf.l0 : Nat → List Int → Int → List Int → Int → Int → Option (Int × Bool)
 | 0, _, _, _, _, _ => none
 | k + 1, x0, x4, x12, x13, x14 => if x14 < x13 then (if 0 ≤ x14 then (if x14 < (x12.length : Int) then (if x14 ≤ (x0.length : Int) then ((some (x0.take (x14 : Int).toNat : List Int)).bind fun y352 => (impl_SignOf.l1 k x0 x4 (rd x12 x14) x12 x13 x14 y352 (y352.length : Int) 0)) else (none)) else (none)) else (none)) else (some (x4, true))
def impl_SignOf.l1 : Nat → List Int → Int → Int → List Int → Int → Int → List Int → Int → Int → Option (Int × Bool)
 | 0, _, _, _, _, _, _, _, _, _ => none
 | k + 1, x0, x4, x6, x12, x13, x14, x21, x22, x23 => if x23 < x22 then (if 0 ≤ x23 then (if x23 < (x21.length : Int) then (if (rd x21 x23) > x6 then (impl_SignOf.l1 k x0 (wrap64 (-x4)) x6 x12 x13 x14 x21 x22 (wrap64 (x23 + 1))) else (impl_SignOf.l1 k x0 x4 x6 x12 x13 x14 x21 x22 (wrap64 (x23 + 1)))) else (none)) else (none)) else (impl_SignOf.l0 k x0 x4 x12 x13 (wrap64 (x14 + 1)))
end
def impl_SignOf.f (k : Nat) (l0 : List Int) : Option (Int × Bool) := (impl_isOrder.f k l0).bind fun t350 => (if t350 = true then (impl_SignOf.l0 k l0 1 l0 (l0.length : Int) 0) else (some (0, false)))
theorem impl_SignOf.mono_l : ∀ k, (∀ y0 y1 y2 y3 y4, LeO (impl_SignOf.l0 k y0 y1 y2 y3 y4) (impl_SignOf.l0 (k + 1) y0 y1 y2 y3 y4)) ∧ (∀ y0 y1 y2 y3 y4 y5 y6 y7 y8, LeO (impl_SignOf.l1 k y0 y1 y2 y3 y4 y5 y6 y7 y8) (impl_SignOf.l1 (k + 1) y0 y1 y2 y3 y4 y5 y6 y7 y8))
 | 0 => ⟨fun _ _ _ _ _ r h => by simp [impl_SignOf.l0] at h, fun _ _ _ _ _ _ _ _ _ r h => by simp [impl_SignOf.l1] at h⟩
 | k + 1 => by
  obtain ⟨ih0, ih1⟩ := impl_SignOf.mono_l k
  refine ⟨?_, ?_⟩
  ·intro y0 y1 y2 y3 y4
   unfold impl_SignOf.l0
   repeat' first | (with_reducible first | exact ih0 _ _ _ _ _ | exact ih1 _ _ _ _ _ _ _ _ _ | exact impl_isOrder.mono _ _ | exact LeO.refl _ | exact LeO.none _ | refine LeO.ite ?_ ?_ | refine LeO.bind ?_ (fun _ => ?_))
  ·intro y0 y1 y2 y3 y4 y5 y6 y7 y8
   unfold impl_SignOf.l1
   repeat' first | (with_reducible first | exact ih0 _ _ _ _ _ | exact ih1 _ _ _ _ _ _ _ _ _ | exact impl_isOrder.mono _ _ | exact LeO.refl _ | exact LeO.none _ | refine LeO.ite ?_ ?_ | refine LeO.bind ?_ (fun _ => ?_))
theorem impl_SignOf.mono : ∀ a0 k, LeO (impl_SignOf.f k a0) (impl_SignOf.f (k + 1) a0) := by
 intro a0 k
 obtain ⟨ih0, ih1⟩ := impl_SignOf.mono_l k
 unfold impl_SignOf.f
 repeat' first | (with_reducible first | exact ih0 _ _ _ _ _ | exact ih1 _ _ _ _ _ _ _ _ _ | exact impl_isOrder.mono _ _ | exact LeO.refl _ | exact LeO.none _ | refine LeO.ite ?_ ?_ | refine LeO.bind ?_ (fun _ => ?_))
theorem impl_SignOf.calls (k : Nat) (A0 : Option Addr) (c0 : Nat) (l0 : List Int) (r1 : Int) (r2 : Bool) (w : World) (hr0 : Kd.C (Kd.int .i64) w A0 l0.length l0) (hc0 : l0.length ≤ c0) (h : impl_SignOf.f k l0 = some (r1, r2)) :
  Calls Tryz.prog 18 #[.slice A0 l0.length c0] w fun e w' => e = .returned (.tuple #[.int .i64 r1, .bool r2]) ∧ Drawn0 w w' := by
 have HR0 := am hr0
 have HC0 := am hc0
 clear hr0 hc0
 unfold impl_SignOf.f at h
 have H := h
 clear h
 obtain ⟨t350, A2, H⟩ := zS H
 (try dsimp only at H)
 by_cases c3 : t350 = true
 ·subst c3
  rw [if_pos rfl] at H
  have H' := am H
  clear H
  go_enter Tryz.func18, Tryz.ntmps18
  go_wp2_with (first | ((with_reducible refine gate_callee (f := 63) rfl ?_); refine goesL_ (some 10) rfl rfl Tryz.func63 zq15 rfl #[.slice A0 l0.length c0] rfl zq0 ?_; (with_reducible refine (impl_isOrder.calls k _ _ l0 true _ ?side1 ?side2 A2.out).mono ?_); (case side1 => exact zq43); (case side2 => exact HC0.out); rintro e w' ⟨rfl, ⟨nd, rfl⟩⟩; refine ⟨_, rfl, ?_⟩))
  go_loopg [4, 14] k (fun kq v4 v14 w' => ∃ (x4_1 : Int) (x14_1 : Int), v4 = .int .i64 x4_1 ∧ v14 = .int .i64 x14_1 ∧ Aside0 (impl_SignOf.l0 kq l0 x4_1 l0 (l0.length : Int) x14_1 = some (r1, r2)) ∧ Aside0 (kq ≤ k) ∧ Drawn0 w w')
  case atStart => exact ⟨(1), (0), zq10, zq10, H', ⟨Nat.le_refl _⟩, zq17⟩
  case round =>
   clear H'
   obtain ⟨x4_1, x14_1, rfl, rfl, HA, HK1, ⟨m1, rfl⟩⟩ := hrel
   cases gk with
   | zero => exact absurd HA.out (by simp [impl_SignOf.l0])
   | succ k1 =>
    have H := HA.out
    clear HA
    simp only [impl_SignOf.l0] at H
    by_cases c4 : x14_1 < (l0.length : Int)
    ·rw [if_pos c4] at H
     have c4b0 := decide_eq_true c4
     clear c4
     obtain ⟨c5, H⟩ := zI H
     have c5b0 := decide_eq_true c5
     clear c5
     obtain ⟨c6, H⟩ := zI H
     have c6b0 := decide_eq_true c6
     clear c6
     have c7b0 := eq_true (of_decide_eq_true zq9 : 0 ≤ x14_1)
     obtain ⟨c8, H⟩ := zI H
     have c8b0 := eq_true c8
     have c8b1 := decide_eq_true c8
     clear c8
     obtain ⟨y352, Ny352, H⟩ := zY H
     have H' := am H
     clear H
     have p351 : 0 ≤ (x14_1 : Int) := of_decide_eq_true zq9
     have q351 : x14_1 < (l0.length : Int) := of_decide_eq_true zq9
     obtain ⟨ad351, e351, hx351_0⟩ := Kd.at_int HR0.out x14_1 p351 q351
     cases e351
     replace p351 := eq_true p351
     replace q351 := eq_true q351
     have q9 : (x14_1 : Int) ≤ ((l0.length : Int) : Int) := of_decide_eq_true zq9
     obtain ⟨i09, hi09, _, hsz9, _⟩ := info_parts info3
     have hroom9 : l0.length ≤ c0 := HC0.out
     have hC9 : Kd.C (Kd.int .i64) _ (some ad351) l0.length l0 := HR0.out
     have hcut9 := cut_to (P := Tryz.prog) 24 3 .i64 Tryz.underlying24 hi09 (some ad351) l0.length c0 x14_1 (of_decide_eq_true zq9) q9 hroom9
     have hr9 := Kd.C_take (m := (x14_1 : Int).toNat) hC9 zq32
     have hy9 : y352.length = (x14_1 : Int).toNat := (by rw [Ny352.out, List.length_take]; omega)
     rw [← Ny352.out] at hr9
     rw [← hy9] at hcut9
     have HR355 := am hr9
     have HC355 := am (show y352.length ≤ c0 from zq32)
     clear hr9 hC9 hroom9 hi09 hsz9
     have KY9 := am hy9
     clear hy9
     replace q9 := eq_true q9
     go_wp2
     go_loopg [4, 23] k1 (fun kq v4 v23 w' => ∃ (x4_2 : Int) (x23_2 : Int), v4 = .int .i64 x4_2 ∧ v23 = .int .i64 x23_2 ∧ Aside0 (impl_SignOf.l1 kq l0 x4_2 (rd l0 x14_1) l0 (l0.length : Int) x14_1 y352 (y352.length : Int) x23_2 = some (r1, r2)) ∧ Aside0 (kq ≤ k1) ∧ Drawn0 w w')
     case atStart => exact ⟨(x4_1), (0), zq10, zq10, H', ⟨Nat.le_refl _⟩, zq17⟩
     case round =>
      clear H'
      try clear hx3
      try clear hx351_0
      obtain ⟨x4_2, x23_2, rfl, rfl, HA, HK2, ⟨m2, rfl⟩⟩ := hrel
      cases gk with
      | zero => exact absurd HA.out (by simp [impl_SignOf.l1])
      | succ k2 =>
       have H := HA.out
       clear HA
       simp only [impl_SignOf.l1] at H
       by_cases c10 : x23_2 < (y352.length : Int)
       ·rw [if_pos c10] at H
        have c10b0 := decide_eq_true c10
        clear c10
        obtain ⟨c11, H⟩ := zI H
        have c11b0 := decide_eq_true c11
        clear c11
        obtain ⟨c12, H⟩ := zI H
        have c12b0 := decide_eq_true c12
        clear c12
        by_cases c13 : (rd y352 x23_2) > (rd l0 x14_1)
        ·rw [if_pos c13] at H
         have c13b0 : decide ((rd l0 x14_1) < (rd y352 x23_2)) = true := decide_eq_true c13
         clear c13
         have H' := am H
         clear H
         have p356 : 0 ≤ (x23_2 : Int) := of_decide_eq_true zq9
         have q356 : x23_2 < (y352.length : Int) := of_decide_eq_true zq9
         obtain ⟨ad356, e356, hx356_0⟩ := Kd.at_int HR355.out x23_2 p356 q356
         obtain rfl : ad351 = ad356 := (by injection e356)
         replace p356 := eq_true p356
         replace q356 := eq_true q356
         go_wp2
         go_roundg k2
         case measure => have := HK1.out; have := HK2.out; omega
         case rel => exact ⟨(wrap64 (-x4_2)), (wrap64 (x23_2 + 1)), zq10, zq10, H', ⟨by have := HK1.out; have := HK2.out; omega⟩, zq17⟩
        ·rw [if_neg c13] at H
         have c13b0 : decide ((rd l0 x14_1) < (rd y352 x23_2)) = false := decide_eq_false c13
         clear c13
         have H' := am H
         clear H
         have p356 : 0 ≤ (x23_2 : Int) := of_decide_eq_true zq9
         have q356 : x23_2 < (y352.length : Int) := of_decide_eq_true zq9
         obtain ⟨ad356, e356, hx356_0⟩ := Kd.at_int HR355.out x23_2 p356 q356
         obtain rfl : ad351 = ad356 := (by injection e356)
         replace p356 := eq_true p356
         replace q356 := eq_true q356
         go_wp2
         go_roundg k2
         case measure => have := HK1.out; have := HK2.out; omega
         case rel => exact ⟨(x4_2), (wrap64 (x23_2 + 1)), zq10, zq10, H', ⟨by have := HK1.out; have := HK2.out; omega⟩, zq17⟩
       ·rw [if_neg c10] at H
        have c10b0 := decide_eq_false c10
        clear c10
        have H' := am H
        clear H
        go_wp2
        go_roundg k2
        case measure => have := HK1.out; have := HK2.out; omega
        case rel => exact ⟨(x4_2), (wrap64 (x14_1 + 1)), zq10, zq10, H', ⟨by have := HK1.out; have := HK2.out; omega⟩, zq17⟩
    ·rw [if_neg c4] at H
     have c4b0 := decide_eq_false c4
     clear c4
     simp only [Option.some.injEq, Prod.mk.injEq] at H
     obtain ⟨rfl, rfl⟩ := H
     go_wp2
     go_ret2
     exact ⟨zq10, zq17⟩
 ·replace c3 := Bool.eq_false_iff.mpr c3
  subst c3
  rw [if_neg (show ¬ (false = true) by decide)] at H
  simp only [Option.some.injEq, Prod.mk.injEq] at H
  obtain ⟨rfl, rfl⟩ := H
  go_enter Tryz.func18, Tryz.ntmps18
  go_wp2_with (first | ((with_reducible refine gate_callee (f := 63) rfl ?_); refine goesL_ (some 10) rfl rfl Tryz.func63 zq15 rfl #[.slice A0 l0.length c0] rfl zq0 ?_; (with_reducible refine (impl_isOrder.calls k _ _ l0 false _ ?side1 ?side2 A2.out).mono ?_); (case side1 => exact zq43); (case side2 => exact HC0.out); rintro e w' ⟨rfl, ⟨nd, rfl⟩⟩; refine ⟨_, rfl, ?_⟩))
  go_ret2
  exact ⟨zq10, zq17⟩
/-! ### spec_DrawAddRung: function 20 -/
def spec_DrawAddRung.f (k : Nat) (l0 : List Int) : Option (Int × List Int × Int × Int) := (spec_l1Cur_ladder.f k l0 0 0).bind fun bt359 => ((spec_l1Cur_pick.f l0 bt359.2.2.1 bt359.2.2.2 9).bind fun bt365 => ((spec_l1Cur_pick.f l0 bt365.2.1 bt365.2.2 9).bind fun bt368 => ((spec_l1Cur_pick.f l0 bt368.2.1 bt368.2.2 6).bind fun bt371 => ((spec_l1Cur_pick.f l0 bt371.2.1 bt371.2.2 9).bind fun bt374 => (some (bt359.1, bt359.2.1, wrap64 (bt365.1 - (wrap64 (Int.tdiv bt368.1 8))), wrap64 (bt371.1 - (wrap64 (Int.tdiv bt374.1 8)))))))))
theorem spec_DrawAddRung.mono : ∀ a0 k, LeO (spec_DrawAddRung.f k a0) (spec_DrawAddRung.f (k + 1) a0) := by
 intro a0 k
 unfold spec_DrawAddRung.f
 repeat' first | (with_reducible first | exact spec_l1Cur_ladder.mono _ _ _ _ | exact LeO.refl _ | exact LeO.none _ | refine LeO.ite ?_ ?_ | refine LeO.bind ?_ (fun _ => ?_))
theorem spec_DrawAddRung.calls (k : Nat) (A0 : Option Addr) (c0 : Nat) (l0 : List Int) (r1 : Int) (r2 : List Int) (r3 : Int) (r4 : Int) (w : World) (hr0 : Kd.C (Kd.int .u8) w A0 l0.length l0) (hc0 : l0.length ≤ c0) (h : spec_DrawAddRung.f k l0 = some (r1, r2, r3, r4)) :
  Calls Tryz.prog 20 #[.slice A0 l0.length c0] w fun e w' => ∃ v1_ : Value, e = .returned (.tuple #[.agg #[.int .i64 r1, v1_], .int .i64 r3, .int .i64 r4]) ∧ Kd.R (Kd.int .i64) 3 w' w.heap.size (fun _ => True) v1_ r2 ∧ Below w.heap.size w w' := by
 have hu26 := Tryz.underlying26
 have hu76 := Tryz.underlying76
 have HR0 := am hr0
 have HC0 := am hc0
 clear hr0 hc0
 have HB := am (Below.refl w.heap.size w)
 unfold spec_DrawAddRung.f at h
 have H := h
 clear h
 replace H := Option.bind_eq_some_iff.mp H
 obtain ⟨⟨t359, t360, t363, t364⟩, A20, H⟩ := H
 (try dsimp only at H)
 have A2 := am A20
 clear A20
 replace H := Option.bind_eq_some_iff.mp H
 obtain ⟨⟨t365, t366, t367⟩, A30, H⟩ := H
 (try dsimp only at H)
 have A3 := am A30
 clear A30
 replace H := Option.bind_eq_some_iff.mp H
 obtain ⟨⟨t368, t369, t370⟩, A40, H⟩ := H
 (try dsimp only at H)
 have A4 := am A40
 clear A40
 replace H := Option.bind_eq_some_iff.mp H
 obtain ⟨⟨t371, t372, t373⟩, A50, H⟩ := H
 (try dsimp only at H)
 have A5 := am A50
 clear A50
 replace H := Option.bind_eq_some_iff.mp H
 obtain ⟨⟨t374, t375, t376⟩, A60, H⟩ := H
 (try dsimp only at H)
 have A6 := am A60
 clear A60
 simp only [Option.some.injEq, Prod.mk.injEq] at H
 obtain ⟨rfl, rfl, rfl, rfl⟩ := H
 go_enter Tryz.func20, Tryz.ntmps20
 go_wp2_with (first | ((with_reducible refine gate_dst (N := 2) rfl ?_); refine zE 2 (cs := #[.int .i64 0, .slice none 0 0]) 26 ?_; intro gb357 hg w7 hbox hb; have BK357 := am (hbox); have GW357 := am ((zq36 : w.heap.size ≤ gb357)); replace HB := sB HB hb; clear hb hbox hg) | ((with_reducible refine gate_dst (N := 8) rfl ?_); refine zE 8 (cs := #[.slice A0 l0.length c0, .int .i64 0, .int .u64 0]) 76 ?_; intro gb358 hg w8 hbox hb; have BK358 := am (hbox); have GW358 := am ((zq36 : w.heap.size ≤ gb358)); have NB357_358 := am ((by rw [hg]; exact Nat.ne_of_lt (blk_lt (pKq BK357)) : gb357 ≠ gb358)); have NB358_357 := am ((by rw [hg]; exact Nat.ne_of_gt (blk_lt (pKq BK357)) : gb358 ≠ gb357)); replace BK357 := sK BK357 hb; replace HB := sB HB hb; clear hb hbox hg) | ((with_reducible refine gate_callee (f := 69) rfl ?_); refine goesL_ (some 10) rfl rfl Tryz.func69 zq15 rfl #[.pointer (some ⟨gb358, 0, none⟩)] rfl zq0 ?_; (with_reducible refine (spec_l1Cur_ladder.calls k gb358 l0 0 0 t359 t360 t363 t364 w _ ?side1 ?side2 A2.out).mono ?_); (case side1 => unfold IsS76; exact ⟨_, _, (pKq BK358), GW358.out, HR0.out⟩); (case side2 => exact zq1); rintro e w9 ⟨v361, rfl, ho0, hi, hb, hk⟩; refine ⟨_, rfl, ?_⟩; have HO362 := am (Kd.R_lower ho0 (below_size (pBq HB))); replace BK357 := am (KeepBut.blk hk (g' := gb357) (o := .cells #[.int .i64 0, .slice none 0 0] 26 (0, 0)) (pKq BK357) NB357_358.out zq42); replace HB := am (hb); replace BK358 := am (hi); (try clear hb hk hi ho0)) | ((with_reducible refine gate_callee (f := 70) rfl ?_); refine goesL_ (some 12) rfl rfl Tryz.func70 zq15 rfl #[.pointer (some ⟨gb358, 0, none⟩), .int .i64 9] rfl zq0 ?_; (with_reducible refine (spec_l1Cur_pick.calls gb358 l0 t363 t364 9 t365 t366 t367 w _ ?side1 ?side2 A3.out).mono ?_); (case side1 => exact zq21); (case side2 => exact zq34); rintro e w10 ⟨rfl, hi, hb, hk⟩; refine ⟨_, rfl, ?_⟩; replace BK357 := am (KeepBut.blk hk (g' := gb357) (o := .cells #[.int .i64 0, .slice none 0 0] 26 (0, 0)) (pKq BK357) NB357_358.out zq42); replace HO362 := am (Kd.R_mono (Kd.R_keep (IsS76.apart (show IsS76 w _ gb358 l0 t363 t364 from zq21) (pRq HO362) zq27) hk (fun _ h => h.2)) (fun _ h => h.1)); replace HB := am (hb); replace BK358 := am (hi); (try clear hb hk hi)) | ((with_reducible refine gate_callee (f := 70) rfl ?_); refine goesL_ (some 14) rfl rfl Tryz.func70 zq15 rfl #[.pointer (some ⟨gb358, 0, none⟩), .int .i64 9] rfl zq0 ?_; (with_reducible refine (spec_l1Cur_pick.calls gb358 l0 t366 t367 9 t368 t369 t370 w _ ?side1 ?side2 A4.out).mono ?_); (case side1 => exact zq21); (case side2 => exact zq34); rintro e w11 ⟨rfl, hi, hb, hk⟩; refine ⟨_, rfl, ?_⟩; replace BK357 := am (KeepBut.blk hk (g' := gb357) (o := .cells #[.int .i64 0, .slice none 0 0] 26 (0, 0)) (pKq BK357) NB357_358.out zq42); replace HO362 := am (Kd.R_mono (Kd.R_keep (IsS76.apart (show IsS76 w _ gb358 l0 t366 t367 from zq21) (pRq HO362) zq27) hk (fun _ h => h.2)) (fun _ h => h.1)); replace HB := am (hb); replace BK358 := am (hi); (try clear hb hk hi)) | ((with_reducible refine gate_callee (f := 70) rfl ?_); refine goesL_ (some 18) rfl rfl Tryz.func70 zq15 rfl #[.pointer (some ⟨gb358, 0, none⟩), .int .i64 6] rfl zq0 ?_; (with_reducible refine (spec_l1Cur_pick.calls gb358 l0 t369 t370 6 t371 t372 t373 w _ ?side1 ?side2 A5.out).mono ?_); (case side1 => exact zq21); (case side2 => exact zq34); rintro e w12 ⟨rfl, hi, hb, hk⟩; refine ⟨_, rfl, ?_⟩; replace BK357 := am (KeepBut.blk hk (g' := gb357) (o := .cells #[.int .i64 0, .slice none 0 0] 26 (0, 0)) (pKq BK357) NB357_358.out zq42); replace HO362 := am (Kd.R_mono (Kd.R_keep (IsS76.apart (show IsS76 w _ gb358 l0 t369 t370 from zq21) (pRq HO362) zq27) hk (fun _ h => h.2)) (fun _ h => h.1)); replace HB := am (hb); replace BK358 := am (hi); (try clear hb hk hi)) | ((with_reducible refine gate_callee (f := 70) rfl ?_); refine goesL_ (some 20) rfl rfl Tryz.func70 zq15 rfl #[.pointer (some ⟨gb358, 0, none⟩), .int .i64 9] rfl zq0 ?_; (with_reducible refine (spec_l1Cur_pick.calls gb358 l0 t372 t373 9 t374 t375 t376 w _ ?side1 ?side2 A6.out).mono ?_); (case side1 => exact zq21); (case side2 => exact zq34); rintro e w13 ⟨rfl, hi, hb, hk⟩; refine ⟨_, rfl, ?_⟩; replace BK357 := am (KeepBut.blk hk (g' := gb357) (o := .cells #[.int .i64 0, .slice none 0 0] 26 (0, 0)) (pKq BK357) NB357_358.out zq42); replace HO362 := am (Kd.R_mono (Kd.R_keep (IsS76.apart (show IsS76 w _ gb358 l0 t372 t373 from zq21) (pRq HO362) zq27) hk (fun _ h => h.2)) (fun _ h => h.1)); replace HB := am (hb); replace BK358 := am (hi); (try clear hb hk hi); have hnb14 := NB357_358.out; have hnc14 := NB358_357.out; obtain ⟨hcz15_0, hcz15_1, hfz15_0, hfz15_1⟩ := sC BK357; obtain ⟨Ao16, co16, eo16⟩ := Kd.R_slice HO362.out; subst eo16))
 refine bodyPost_ret (results_ctt rfl _ _ gb357 26 #[.int .i64 t359, .slice Ao16 t360.length co16] (0, 0) _ rfl (by (with_reducible repeat (first | refine blk_drewN ?_ _ | refine blk_drew ?_ | refine blk_alloc ?_ _)); refine blk_put (cs := #[.int .i64 t359, .slice none 0 0]) ?_ 1 _ rfl; (with_reducible repeat (first | refine blk_drewN ?_ _ | refine blk_drew ?_ | refine blk_alloc ?_ _)); refine blk_put (cs := #[.int .i64 0, .slice none 0 0]) ?_ 0 _ rfl; (with_reducible repeat (first | refine blk_drewN ?_ _ | refine blk_drew ?_ | refine blk_alloc ?_ _)); exact BK357.out) Tryz.underlying26 rfl zq15) rfl ?_
 exact ⟨_, zq6, by (with_reducible repeat (first | apply Kd.R_alloc | apply Kd.R_drewN | apply Kd.R_drew)); exact Kd.R_mono (Kd.R_far (p := ⟨gb357, 1, none⟩) (Kd.R_far (p := ⟨gb357, 0, none⟩) (Kd.R_types HO362.out BK357.out zq27) (fun _ hk => hk.2) (.int .i64 t359)) (fun _ hk => hk.2) (.slice Ao16 t360.length co16)) (fun _ hk => trivial), zq34⟩
end
end Go.Proofs.YtlmiiijjjcddkaaGreatDoor.PLg
