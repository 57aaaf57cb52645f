-- Written for this claim by a program of this session (myprint.py) over the kit's printer.
import Derived.Test.YtlmiiijjjcddkaaPKbx0
import Derived.Test.YtlmiiijjjcddkaaPKbx3
namespace Go.Proofs.Ytlmiiijjjcddkaa.PKb
noncomputable section
open Go.RowKit Go.Proofs.YtlmiiijjjcddkaaW.PrintWords Go.Proofs.YtlmiiijjjcddkaaW.PrintLast Go.Proofs.YtlmiiijjjcddkaaW.PrintMore
attribute [local go_sem] max2_int min2_int max_two min_two max_three min_three max_four min_four   -- for this text's walks alone
open List (setIfInBounds_toArray set_cons_zero set_cons_succ)
set_option maxHeartbeats 8000000
set_option maxRecDepth 100000
set_option linter.unusedVariables false
set_option linter.unusedSimpArgs false
theorem pRq4 {α : Type} {d : Kd α} {e base : Nat} {ok : Nat → Prop} {v : Value} {xs : List α} {w W : World} (h0 : Aside0 (Kd.R d e w base ok v xs)) (hp : Kd.R d e W base ok v xs := by (with_reducible repeat (first | apply Kd.R_alloc | apply Kd.R_drewN | apply Kd.R_drew)); exact Aside0.out (by with_reducible assumption)) : Kd.R d e W base ok v xs := hp
theorem pKq4 {g : Nat} {o : Obj} {w W : World} (h0 : Aside0 (w.heap[g]? = some o)) (hp : W.heap[g]? = some o := by (with_reducible repeat (first | refine blk_drewN ?_ _ | refine blk_drew ?_ | refine blk_alloc ?_ _)); exact Aside0.out (by with_reducible assumption)) : W.heap[g]? = some o := hp
theorem pBq4 {b : Nat} {w0 w W : World} (h0 : Aside0 (Below b w0 w)) (hp : Below b w0 W := by repeat (first | (with_reducible first | exact Aside0.out (by assumption) | apply below_alloc | apply pw_below_drewN | apply below_drew1 | refine below_set ?_ (Aside0.out (by assumption))))) : Below b w0 W := hp
/-! ### impl_descents: function 52 -/
def impl_descents.l0 : Nat → List Int → List Int → Int → Option (List Int)
 | 0, _, _, _ => none
 | k + 1, x0, x3, x4 => if (wrap64 (x4 + 1)) < (x0.length : Int) then (if 0 ≤ x4 then (if x4 < (x0.length : Int) then (if 0 ≤ (wrap64 (x4 + 1)) then (if (rd x0 x4) > (rd x0 (wrap64 (x4 + 1))) then (if x3.length < 17592186044416 then (impl_descents.l0 k x0 (x3 ++ [x4]) (wrap64 (x4 + 1))) else (none)) else (impl_descents.l0 k x0 x3 (wrap64 (x4 + 1)))) else (none)) else (none)) else (none)) else (some x3)
def impl_descents.f (k : Nat) (l0 : List Int) : Option (List Int) := impl_descents.l0 k l0 (([] : List Int)) 0
theorem impl_descents.mono_l : ∀ k, (∀ y0 y1 y2, LeO (impl_descents.l0 k y0 y1 y2) (impl_descents.l0 (k + 1) y0 y1 y2))
 | 0 => fun _ _ _ r h => by simp [impl_descents.l0] at h
 | k + 1 => by
  have ih0 := impl_descents.mono_l k
  ·intro y0 y1 y2
   unfold impl_descents.l0
   repeat' first | (with_reducible first | exact ih0 _ _ _ | exact LeO.refl _ | exact LeO.none _ | refine LeO.ite ?_ ?_ | refine LeO.bind ?_ (fun _ => ?_))
theorem impl_descents.mono : ∀ a0 k, LeO (impl_descents.f k a0) (impl_descents.f (k + 1) a0) := by
 intro a0 k
 have ih0 := impl_descents.mono_l k
 unfold impl_descents.f
 repeat' first | (with_reducible first | exact ih0 _ _ _ | exact LeO.refl _ | exact LeO.none _ | refine LeO.ite ?_ ?_ | refine LeO.bind ?_ (fun _ => ?_))
theorem impl_descents.calls (k : Nat) (A0 : Option Addr) (c0 : Nat) (l0 : List Int) (r : List Int) (w : World) (hr0 : Kd.C (Kd.int .i64) w A0 l0.length l0) (hc0 : l0.length ≤ c0) (h : impl_descents.f k l0 = some r) :
  Calls Try.prog 52 #[.slice A0 l0.length c0] w fun e w' => ∃ v0_ : Value, e = .returned (v0_) ∧ Kd.R (Kd.int .i64) 3 w' w.heap.size (fun _ => True) v0_ r ∧ Below w.heap.size w w' := by
 have HR0 := am hr0
 have HC0 := am hc0
 clear hr0 hc0
 have HB := am (Below.refl w.heap.size w)
 have H : (impl_descents.l0 k l0 (([] : List Int)) 0) = some r := h
 clear h
 obtain ⟨y237, hy237⟩ : ∃ y_ : List Int, y_ = (([] : List Int)) := ⟨_, rfl⟩
 replace H : (impl_descents.l0 k l0 y237 0) = some r := by first | (rw [hy237]; exact zH) | exact zH
 have Ny237 := am hy237
 clear hy237
 have H' := am H
 clear H
 go_enter Try.func52, Try.ntmps52
 go_wp2_with (first | ((with_reducible refine gate_dst (N := 5) rfl ?_); refine Kd.R_lit (Kd.int .i64) _ 3 ?hg (N := 5) ?hd (xs := ([] : List Int)) (inner := []) (ok := fun _ => True) (okp := fun _ => True) ?hr ?hp (fun _ hk => hk) trivial (Below.refl _ _) (Nat.le_refl _) zq24 ?_; (case hd => rfl); (case hg => rfl); (case hr => exact zq8); (case hp => exact (Reps.none _ _)); intro v238 w2 ho3 hb hg_ hnew_; clear hg_ hnew_; (first | rw [← Ny237.out] at ho3 | (simp only [Int.reduceToNat] at ho3; rw [← Ny237.out] at ho3)); have HO239 := am (Kd.R_lower ho3 (below_size (pBq4 HB))); replace HB := am (below_step (pBq4 HB) hb); clear hb ho3))
 repeat (go_quiet (first | ((with_reducible refine gate_dst (N := 5) rfl ?_); refine Kd.R_lit (Kd.int .i64) _ 3 ?hg (N := 5) ?hd (xs := ([] : List Int)) (inner := []) (ok := fun _ => True) (okp := fun _ => True) ?hr ?hp (fun _ hk => hk) trivial (Below.refl _ _) (Nat.le_refl _) zq24 ?_; (case hd => rfl); (case hg => rfl); (case hr => exact zq8); (case hp => exact (Reps.none _ _)); intro v238 w2 ho3 hb hg_ hnew_; clear hg_ hnew_; (first | rw [← Ny237.out] at ho3 | (simp only [Int.reduceToNat] at ho3; rw [← Ny237.out] at ho3)); have HO239 := am (Kd.R_lower ho3 (below_size (pBq4 HB))); replace HB := am (below_step (pBq4 HB) hb); clear hb ho3)); try go_wp2_with (first | ((with_reducible refine gate_dst (N := 5) rfl ?_); refine Kd.R_lit (Kd.int .i64) _ 3 ?hg (N := 5) ?hd (xs := ([] : List Int)) (inner := []) (ok := fun _ => True) (okp := fun _ => True) ?hr ?hp (fun _ hk => hk) trivial (Below.refl _ _) (Nat.le_refl _) zq24 ?_; (case hd => rfl); (case hg => rfl); (case hr => exact zq8); (case hp => exact (Reps.none _ _)); intro v238 w2 ho3 hb hg_ hnew_; clear hg_ hnew_; (first | rw [← Ny237.out] at ho3 | (simp only [Int.reduceToNat] at ho3; rw [← Ny237.out] at ho3)); have HO239 := am (Kd.R_lower ho3 (below_size (pBq4 HB))); replace HB := am (below_step (pBq4 HB) hb); clear hb ho3)))
 go_loopg [3, 4] k (fun kq v3 v4 w' => ∃ (x3_1 : List Int) (x4_1 : Int), v4 = .int .i64 x4_1 ∧ Aside0 (impl_descents.l0 kq l0 x3_1 x4_1 = some r) ∧ Aside0 (kq ≤ k) ∧ Aside0 (Kd.R (Kd.int .i64) 3 w' w.heap.size (fun _ => True) v3 x3_1) ∧ Aside0 (Below w.heap.size w w'))
 case atStart => exact ⟨(y237), (0), zq3, H', ⟨Nat.le_refl _⟩, ⟨by (with_reducible repeat (first | apply Kd.R_alloc | apply Kd.R_drewN | apply Kd.R_drew)); exact HO239.out⟩, ⟨zq1⟩⟩
 case round =>
  clear H'
  try clear p2
  obtain ⟨x3_1, x4_1, rfl, HA, HK1, HO_3, HB⟩ := hrel
  cases gk with
  | zero => exact absurd HA.out (by simp [impl_descents.l0])
  | succ k1 =>
   have H := HA.out
   clear HA
   simp only [impl_descents.l0] at H
   by_cases c4 : (wrap64 (x4_1 + 1)) < (l0.length : Int)
   ·rw [if_pos c4] at H
    have c4b0 : decide ((wrap64 (x4_1 + 1)) < (l0.length : Int)) = true := decide_eq_true c4
    clear c4
    by_cases c5 : 0 ≤ x4_1
    ·rw [if_pos c5] at H
     have c5b0 : decide (0 ≤ x4_1) = true := decide_eq_true c5
     clear c5
     by_cases c6 : x4_1 < (l0.length : Int)
     ·rw [if_pos c6] at H
      have c6b0 : decide (x4_1 < (l0.length : Int)) = true := decide_eq_true c6
      clear c6
      obtain ⟨ji7, hji7⟩ : ∃ j_ : Int, (wrap64 (x4_1 + 1)) = j_ := ⟨_, rfl⟩
      replace H : (if 0 ≤ (ji7) then (if (rd l0 x4_1) > (rd l0 (ji7)) then (if x3_1.length < 17592186044416 then (impl_descents.l0 k1 l0 (x3_1 ++ [x4_1]) ji7) else (none)) else (impl_descents.l0 k1 l0 x3_1 ji7)) else (none)) = some r := by first | (rw [hji7] at H; exact H) | (simp only [hji7] at H ⊢; exact H)
      (try rw [hji7] at c4b0)
      have hji7w : (IntKind.i64.wrap (x4_1 + 1)) = ji7 := (i64_w _).trans hji7
      by_cases c8 : 0 ≤ (ji7)
      ·rw [if_pos c8] at H
       have c8b0 : decide (0 ≤ (ji7)) = true := decide_eq_true c8
       clear c8
       by_cases c9 : (rd l0 x4_1) > (rd l0 (ji7))
       ·rw [if_pos c9] at H
        have c9b0 : decide ((rd l0 (ji7)) < (rd l0 x4_1)) = true := decide_eq_true c9
        clear c9
        by_cases c10 : x3_1.length < 17592186044416
        ·rw [if_pos c10] at H
         have LMc10 := am c10
         clear c10
         obtain ⟨y242, hy242⟩ : ∃ y_ : List Int, y_ = (x3_1 ++ [x4_1]) := ⟨_, rfl⟩
         replace H : (impl_descents.l0 k1 l0 y242 ji7) = some r := by first | (rw [hy242]; exact zH) | exact zH
         have Ny242 := am hy242
         clear hy242
         have H' := am H
         clear H
         have p240 : 0 ≤ (x4_1 : Int) := of_decide_eq_true zq0
         have q240 : x4_1 < (l0.length : Int) := of_decide_eq_true zq0
         obtain ⟨ad240, e240, hx240_0⟩ := Kd.at_int HR0.out x4_1 p240 q240
         cases e240
         replace hx240_0 := (HB.out.cell (World.block_lt_of_cell? w _ hx240_0)).trans hx240_0
         replace p240 := eq_true p240
         replace q240 := eq_true q240
         have p241 : 0 ≤ ((ji7) : Int) := of_decide_eq_true zq0
         have q241 : (ji7) < (l0.length : Int) := of_decide_eq_true zq0
         obtain ⟨ad241, e241, hx241_0⟩ := Kd.at_int HR0.out (ji7) p241 q241
         obtain rfl : ad240 = ad241 := (by injection e241)
         replace hx241_0 := (HB.out.cell (World.block_lt_of_cell? w _ hx241_0)).trans hx241_0
         replace p241 := eq_true p241
         replace q241 := eq_true q241
         go_wp2_with (first | ((with_reducible refine gate_builtin (b := .append) (xs := #[.tmp 23, .tmp 25]) rfl ?_); at_builtin; refine Kd.R_append (Kd.int .i64) (w0 := w) w.heap.size rfl (.tmp 23) (.tmp 25) 22 3 (.int .i64 0) 8 rfl Try.underlying22 info3 rfl zq33 zq10 u3 x3_1 x4_1 [.int .i64 x4_1] (fun _ => True) (fun _ => False) rfl rfl ?aP (fun _ hk => hk.elim) ?aF ?aO ?aB ?aS ?aL ?_; (case aP => exact rfl); (case aB => exact (pBq4 HB)); (case aF => exact (fun _ _ => trivial)); (case aO => exact (pRq4 HO_3)); (case aS => exact (below_size (pBq4 HB))); (case aL => have := LMc10.out; omega); intro v243 w11 ho hb hg hat; rw [← Ny242.out] at ho; have HO244 := am (ho); replace HB := am (hb); clear HO_3; clear ho hb hg hat))
         repeat (go_quiet (first | ((with_reducible refine gate_builtin (b := .append) (xs := #[.tmp 23, .tmp 25]) rfl ?_); at_builtin; refine Kd.R_append (Kd.int .i64) (w0 := w) w.heap.size rfl (.tmp 23) (.tmp 25) 22 3 (.int .i64 0) 8 rfl Try.underlying22 info3 rfl zq33 zq10 u3 x3_1 x4_1 [.int .i64 x4_1] (fun _ => True) (fun _ => False) rfl rfl ?aP (fun _ hk => hk.elim) ?aF ?aO ?aB ?aS ?aL ?_; (case aP => exact rfl); (case aB => exact (pBq4 HB)); (case aF => exact (fun _ _ => trivial)); (case aO => exact (pRq4 HO_3)); (case aS => exact (below_size (pBq4 HB))); (case aL => have := LMc10.out; omega); intro v243 w11 ho hb hg hat; rw [← Ny242.out] at ho; have HO244 := am (ho); replace HB := am (hb); clear HO_3; clear ho hb hg hat)); try go_wp2_with (first | ((with_reducible refine gate_builtin (b := .append) (xs := #[.tmp 23, .tmp 25]) rfl ?_); at_builtin; refine Kd.R_append (Kd.int .i64) (w0 := w) w.heap.size rfl (.tmp 23) (.tmp 25) 22 3 (.int .i64 0) 8 rfl Try.underlying22 info3 rfl zq33 zq10 u3 x3_1 x4_1 [.int .i64 x4_1] (fun _ => True) (fun _ => False) rfl rfl ?aP (fun _ hk => hk.elim) ?aF ?aO ?aB ?aS ?aL ?_; (case aP => exact rfl); (case aB => exact (pBq4 HB)); (case aF => exact (fun _ _ => trivial)); (case aO => exact (pRq4 HO_3)); (case aS => exact (below_size (pBq4 HB))); (case aL => have := LMc10.out; omega); intro v243 w11 ho hb hg hat; rw [← Ny242.out] at ho; have HO244 := am (ho); replace HB := am (hb); clear HO_3; clear ho hb hg hat)))
         go_roundg k1
         case measure => have := HK1.out; omega
         case rel => exact ⟨(y242), (ji7), (by first | rfl | (simp; done) | (simp only [← hji7] <;> (first | rfl | simp)) | (simp [*]; done)), H', ⟨zq32⟩, ⟨by (with_reducible repeat (first | apply Kd.R_alloc | apply Kd.R_drewN | apply Kd.R_drew)); exact HO244.out⟩, ⟨zq1⟩⟩
        ·rw [if_neg c10] at H
         exact absurd H zq24
       ·rw [if_neg c9] at H
        have c9b0 : decide ((rd l0 (ji7)) < (rd l0 x4_1)) = false := decide_eq_false c9
        clear c9
        have H' := am H
        clear H
        have p240 : 0 ≤ (x4_1 : Int) := of_decide_eq_true zq0
        have q240 : x4_1 < (l0.length : Int) := of_decide_eq_true zq0
        obtain ⟨ad240, e240, hx240_0⟩ := Kd.at_int HR0.out x4_1 p240 q240
        cases e240
        replace hx240_0 := (HB.out.cell (World.block_lt_of_cell? w _ hx240_0)).trans hx240_0
        replace p240 := eq_true p240
        replace q240 := eq_true q240
        have p241 : 0 ≤ ((ji7) : Int) := of_decide_eq_true zq0
        have q241 : (ji7) < (l0.length : Int) := of_decide_eq_true zq0
        obtain ⟨ad241, e241, hx241_0⟩ := Kd.at_int HR0.out (ji7) p241 q241
        obtain rfl : ad240 = ad241 := (by injection e241)
        replace hx241_0 := (HB.out.cell (World.block_lt_of_cell? w _ hx241_0)).trans hx241_0
        replace p241 := eq_true p241
        replace q241 := eq_true q241
        go_wp2
        repeat (go_quiet (fail); try go_wp2)
        go_roundg k1
        case measure => have := HK1.out; omega
        case rel => exact ⟨(x3_1), (ji7), (by first | rfl | (simp; done) | (simp only [← hji7] <;> (first | rfl | simp)) | (simp [*]; done)), H', ⟨zq32⟩, ⟨zq34⟩, ⟨zq1⟩⟩
      ·rw [if_neg c8] at H
       exact absurd H zq24
     ·rw [if_neg c6] at H
      exact absurd H zq24
    ·rw [if_neg c5] at H
     exact absurd H zq24
   ·rw [if_neg c4] at H
    have c4b0 : decide ((wrap64 (x4_1 + 1)) < (l0.length : Int)) = false := decide_eq_false c4
    clear c4
    obtain rfl := Option.some.inj H
    go_wp2
    repeat (go_quiet (fail); try go_wp2)
    go_ret
    exact ⟨_, zq6, zq34, zq1⟩
/-! ### slices_Clone_int_int: function 48 -/
def slices_Clone_int_int.f (l0 : List Int) : Option (List Int) := if l0.length < 17592186044416 then (some l0) else (none)
set_option maxHeartbeats 2000000 in
set_option maxRecDepth 100000 in
theorem slices_Clone_int_int.calls (A0 : Option Addr) (c0 : Nat) (l0 : List Int) (r : List Int) (w : World) (hr0 : Kd.C (Kd.int .i64) w A0 l0.length l0) (hc0 : l0.length ≤ c0) (h : slices_Clone_int_int.f l0 = some r) :
  Calls Try.prog 48 #[.slice A0 l0.length c0] w fun e w' => ∃ v0_ : Value, e = .returned (v0_) ∧ Kd.R (Kd.int .i64) 3 w' w.heap.size (fun _ => True) v0_ r ∧ Below w.heap.size w w' := by
 have HR0 := am hr0
 have hz : A0 = none → l0 = [] := fun e => by
  rcases Nat.eq_zero_or_pos l0.length with h0 | h0
  ·exact List.eq_nil_of_length_eq_zero h0
  ·obtain ⟨ad, hA, _⟩ := hr0.2.2 h0
   rw [e] at hA; cases hA
 unfold slices_Clone_int_int.f at h
 by_cases hl : l0.length < 17592186044416
 ·rw [if_pos hl] at h
  obtain rfl := Option.some.inj h
  have HL := am hl
  clear hl h hr0 hc0
  have hnil := fun (w : World) (a : Option Addr) (n c : Nat) => Lib.run_eql_slice_nil (P := Try.prog) w 22 3 a n c 0 0 Try.underlying22
  cases A0 with
  | none =>
   obtain rfl := hz rfl
   clear hz
   go_enter Try.func48, Try.ntmps48
   go_wp2
   go_ret
   exact ⟨_, rfl, Kd.R_nil _ _ _ _ _, zq26⟩
  | some ad =>
   clear hz
   have HB := am (Below.refl w.heap.size w)
   obtain ⟨y1, hy1⟩ : ∃ y_ : List Int, y_ = (([] : List Int)) := ⟨_, rfl⟩
   have Ny1 := am hy1
   obtain ⟨y2, hy2⟩ : ∃ y_ : List Int, y_ = (y1 ++ l0) := ⟨_, rfl⟩
   have Ny2 := am hy2
   have NE := am (show y2 = l0 by rw [hy2, hy1]; rfl)
   have LM := am (show y1.length + l0.length < 17592186044416 by rw [hy1]; simpa using HL.out)
   clear hy1 hy2
   go_enter Try.func48, Try.ntmps48
   go_wp2_with (first | ((with_reducible refine gate_dst (N := 5) rfl ?_); refine Kd.R_lit (Kd.int .i64) _ 3 ?hg (N := 5) ?hd (xs := ([] : List Int)) (inner := []) (ok := fun _ => True) (okp := fun _ => True) ?hr ?hp (fun _ hk => hk) trivial (Below.refl _ _) (Nat.le_refl _) zq24 ?_; (case hd => rfl); (case hg => rfl); (case hr => exact zq8); (case hp => exact (Reps.none _ _)); intro v1 w3 ho4 hb hg_ hnew_; clear hg_ hnew_; (first | rw [← Ny1.out] at ho4 | (simp only [Int.reduceToNat] at ho4; rw [← Ny1.out] at ho4)); have HO1 := am (Kd.R_lower ho4 (below_size HB.out)); replace HB := am (below_step HB.out hb); clear hb ho4) | ((with_reducible refine gate_builtin (b := .append) (xs := #[.tmp 5, .tmp 6]) rfl ?_); at_builtin; refine Kd.R_append_rows (Kd.int .i64) (w0 := w) w.heap.size rfl (.tmp 5) (.tmp 6) 22 3 (.int .i64 0) 8 rfl Try.underlying22 info3 rfl zq33 zq10 v1 y1 l0 _ _ _ (fun _ => True) (fun _ => False) rfl rfl ?aO ?aR (fun _ _ h => h) (fun _ h => h.elim) ?aF ?aB ?aS ?aL ?_; (case aR => exact zq7); (case aB => exact HB.out); (case aF => exact (fun _ _ => trivial)); (case aO => exact (pRq4 HO1)); (case aS => exact (below_size HB.out)); (case aL => have := LM.out; omega); intro v2 w5 ho hb hg hat; rw [← Ny2.out, NE.out] at ho; have HO2 := am (ho); replace HB := am (hb); clear HO1; clear ho hb hg hat))
   go_ret
   exact ⟨_, by rfl, by (with_reducible repeat (first | apply Kd.R_alloc | apply Kd.R_drewN | apply Kd.R_drew)); exact HO2.out, zq1⟩
 ·rw [if_neg hl] at h
  cases h
/-! ### impl_exchanged: function 53 -/
def impl_exchanged.f (l0 : List Int) (a1 : Int) : Option (List Int) := (slices_Clone_int_int.f l0).bind fun t245 => (if 0 ≤ (wrap64 (a1 + 1)) then (if (wrap64 (a1 + 1)) < (t245.length : Int) then (if 0 ≤ a1 then (if a1 < (t245.length : Int) then (some ((t245.set (a1 : Int).toNat (rd t245 (wrap64 (a1 + 1)))).set ((wrap64 (a1 + 1)) : Int).toNat (rd t245 a1))) else (none)) else (none)) else (none)) else (none))
def impl_exchanged.T2 : Bool × List (List Nat × List Nat) := (true, [([], []), ([], []), ([], []), ([], []), ([3], [3]), ([], []), ([], []), ([6], [6]), ([5, 7], [5, 7]), ([8], [8]), ([], []), ([], []), ([10, 11], [10, 11]), ([12], [12]), ([0, 1, 0, 1, 5, 6, 7, 8, 9, 13], [0, 1]), ([14, 9, 0, 1, 5, 6, 7, 8, 9, 13], [9, 14]), ([2, 4, 0, 1, 2, 3, 4, 5, 6, 7, 8, 9, 10, 11, 12, 13, 14, 15], [2, 4]), ([16, 13, 15, 0, 1, 2, 3, 4, 5, 6, 7, 8, 9, 10, 11, 12, 13, 14, 15], [13, 16])])
def impl_exchanged.B2 : List Nat := [0, 0, 0, 0, 8, 0, 0, 64, 224, 480, 0, 0, 3072, 7168, 16355, 32739, 65535, 131071]
theorem impl_exchanged.tab2 : rtab .any (opsOf Try.f53 2) = impl_exchanged.T2 := by kernel_rfl
theorem impl_exchanged.bits2 : waitsOk impl_exchanged.T2.2 impl_exchanged.B2 = true := by kernel_rfl
theorem impl_exchanged.calls (A0 : Option Addr) (c0 : Nat) (l0 : List Int) (a1 : Int) (r : List Int) (w : World) (hr0 : Kd.C (Kd.int .i64) w A0 l0.length l0) (hc0 : l0.length ≤ c0) (h : impl_exchanged.f l0 a1 = some r) :
  Calls Try.prog 53 #[.slice A0 l0.length c0, .int .i64 a1] w fun e w' => ∃ v0_ : Value, e = .returned (v0_) ∧ Kd.R (Kd.int .i64) 3 w' w.heap.size (fun _ => True) v0_ r ∧ Below w.heap.size w w' := by
 have HR0 := am hr0
 have HC0 := am hc0
 clear hr0 hc0
 have HB := am (Below.refl w.heap.size w)
 have H : ((slices_Clone_int_int.f l0).bind fun t245 => (if 0 ≤ (wrap64 (a1 + 1)) then (if (wrap64 (a1 + 1)) < (t245.length : Int) then (if 0 ≤ a1 then (if a1 < (t245.length : Int) then (some ((t245.set (a1 : Int).toNat (rd t245 (wrap64 (a1 + 1)))).set ((wrap64 (a1 + 1)) : Int).toNat (rd t245 a1))) else (none)) else (none)) else (none)) else (none))) = some r := h
 clear h
 obtain ⟨t245, A3, H⟩ := zS H
 (try dsimp only at H)
 obtain ⟨ji4, hji4⟩ : ∃ j_ : Int, (wrap64 (a1 + 1)) = j_ := ⟨_, rfl⟩
 replace H : (if 0 ≤ (ji4) then (if (ji4) < (t245.length : Int) then (if 0 ≤ a1 then (if a1 < (t245.length : Int) then (some ((t245.set (a1 : Int).toNat (rd t245 (ji4))).set ((ji4) : Int).toNat (rd t245 a1))) else (none)) else (none)) else (none)) else (none)) = some r := zq85
 (try rw [hji4] at A3)
 have hji4w : (IntKind.i64.wrap (a1 + 1)) = ji4 := (i64_w _).trans hji4
 by_cases c5 : 0 ≤ (ji4)
 ·rw [if_pos c5] at H
  have c5b0 : decide (0 ≤ (ji4)) = true := decide_eq_true c5
  clear c5
  by_cases c6 : (ji4) < (t245.length : Int)
  ·rw [if_pos c6] at H
   have c6b0 : decide ((ji4) < (t245.length : Int)) = true := decide_eq_true c6
   clear c6
   by_cases c7 : 0 ≤ a1
   ·rw [if_pos c7] at H
    have c7b0 : decide (0 ≤ a1) = true := decide_eq_true c7
    clear c7
    by_cases c8 : a1 < (t245.length : Int)
    ·rw [if_pos c8] at H
     have c8b0 : decide (a1 < (t245.length : Int)) = true := decide_eq_true c8
     clear c8
     obtain ⟨y250, hy250⟩ : ∃ y_ : List Int, y_ = (t245.set (a1 : Int).toNat (rd t245 (ji4))) := ⟨_, rfl⟩
     replace H : (some (y250.set ((ji4) : Int).toNat (rd t245 a1))) = some r := by first | (rw [hy250]; exact zH) | exact zH
     have Ny250 := am hy250
     clear hy250
     obtain ⟨y251, hy251⟩ : ∃ y_ : List Int, y_ = (y250.set ((ji4) : Int).toNat (rd t245 a1)) := ⟨_, rfl⟩
     replace H : (some y251) = some r := by first | (rw [hy251]; exact zH) | exact zH
     have Ny251 := am hy251
     clear hy251
     obtain rfl := Option.some.inj H
     go_enter Try.func53, Try.ntmps53
     try go_wp2_with (first | ((with_reducible refine gate_callee (f := 48) rfl ?_); refine goesL_ (some 7) rfl rfl Try.func48 zq20 rfl #[.slice A0 l0.length c0] rfl zq2 ?_; (with_reducible refine (slices_Clone_int_int.calls _ _ l0 t245 _ ?side1 ?side2 A3.out).mono ?_); (case side1 => exact zq9); (case side2 => exact HC0.out); rintro e w11 ⟨v246, rfl, ho0, hb⟩; refine ⟨_, rfl, ?_⟩; have HO247 := am (Kd.R_lower ho0 (below_size (pBq4 HB))); replace HB := am (below_step (pBq4 HB) hb); (try clear hb ho0)))
     replace HO247 := am (Kd.R_drew HO247.out)
     replace HB := am (below_drew1 HB.out)
     obtain ⟨Ao13, co13, eo13⟩ := Kd.R_slice HO247.out
     (first | subst eo13 | (injection eo13 with f1_ f2_ f3_; have f4_ := f1_.symm; have f5_ := f3_.symm; clear f1_ f2_ f3_; subst f4_; subst f5_))
     have p248 : 0 ≤ ((ji4) : Int) := of_decide_eq_true zq0
     have q248 : (ji4) < (t245.length : Int) := of_decide_eq_true zq0
     obtain ⟨ad248, e248, hx248_0⟩ := Kd.at_int (Kd.R_reads' HO247.out).2.2 (ji4) p248 q248
     cases e248
     replace p248 := eq_true p248
     replace q248 := eq_true q248
     have p249 : 0 ≤ (a1 : Int) := of_decide_eq_true zq0
     have q249 : a1 < (t245.length : Int) := of_decide_eq_true zq0
     obtain ⟨ad249, e249, hx249_0⟩ := Kd.at_int (Kd.R_reads' HO247.out).2.2 a1 p249 q249
     obtain rfl : ad248 = ad249 := (by injection e249)
     replace p249 := eq_true p249
     replace q249 := eq_true q249
     have p9 : 0 ≤ (a1 : Int) := of_decide_eq_true zq0
     have q9 : (a1 : Int) < ((t245.length : Int) : Int) := of_decide_eq_true zq0
     obtain ⟨go9, co9, eo9, gb9, gl9, cl9, HG9⟩ := Kd.R_form HO247.out zq10
     (first | cases eo9 | (injection eo9 with ea_ en_ ec_; (first | subst ea_ | (injection ea_ with ea_; subst ea_)); subst ec_; clear en_))
     have GB9 := am gb9
     have GG9 := am HG9
     clear gb9 gl9 HG9
     (first | simp only [add_plain] at hx248_0 | skip)
     (first | simp only [add_plain] at hx249_0 | skip)
     obtain ⟨hx9_0, hf9_0⟩ := Kd.R_celln 0 HO247.out (a1 : Int) p9 q9
     replace p9 := eq_true p9
     replace q9 := eq_true q9
     have HP14 := Kd.R_putn HO247.out (a1 : Int) (rd t245 (ji4))
     rw [← Ny250.out] at HP14
     have HQ14 := am HP14
     clear HP14
     have p10 : 0 ≤ ((ji4) : Int) := of_decide_eq_true zq0
     have q10 : ((ji4) : Int) < ((t245.length : Int) : Int) := of_decide_eq_true zq0
     obtain ⟨hx10_0, hf10_0⟩ := Kd.R_celln 0 HQ14.out ((ji4) : Int) p10 q10
     replace p10 := eq_true p10
     replace q10 := eq_true q10
     have HP15 := Kd.R_putn HQ14.out ((ji4) : Int) (rd t245 a1)
     rw [← Ny251.out] at HP15
     have HQ15 := am HP15
     clear HP15
     refine start_ (n := 18) (S := fun w' => w'.cell? ⟨go9, ((ji4)).toNat, none⟩ = some (.int .i64 (rd t245 (ji4))) ∧ w'.cell? ⟨go9, (a1).toNat, none⟩ = some (.int .i64 (rd t245 a1))) (ds := [15, 17]) #[false, false, false, false, false, false, false, false, false, false, false, false, false, false, false, false, false, false] zq20 rfl rfl ⟨hx248_0, hx249_0⟩ (fun hHeld => ?_); refine with_tabW impl_exchanged.tab2 impl_exchanged.bits2 (fun HT_ HW_ => ?_)
     generalize w11.drew = w12 at HO247 HB GG9 HQ14 HQ15 hf10_0 hf9_0 hx10_0 hx248_0 hx249_0 hx9_0 hHeld ⊢
     refine zU 0 8 HT_ ?_
     refine zU 1 9 HT_ ?_
     refine zU 2 10 HT_ ?_
     refine zU 3 11 HT_ ?_
     refine zU 4 12 HT_ ?_
     refine zU 5 13 HT_ ?_
     refine zU 6 14 HT_ ?_
     refine zU 7 15 HT_ ?_
     refine zU 8 16 HT_ ?_
     refine zU 10 18 HT_ ?_
     refine zU 11 19 HT_ ?_
     refine zU 12 20 HT_ ?_
     refine zT 9 17 HT_ HW_ hHeld ?_
     refine zT 13 21 HT_ HW_ hHeld ?_
     refine zU 14 22 HT_ ?_
     refine last_ (i := 15) (N := none) #[true, true, true, true, true, true, true, true, true, true, true, true, true, true, true, true, false, false] rfl rfl (one_of HT_.out zq20) zq33 (fun K hK => ?_)
     refine skip_ (w1 := ?_) (by rfl) rfl ?_ ?_
     rotate_left
     ·go_simp
      rfl
     refine hK.out _ _ ?_
     clear hK K
     refine zU 16 23 HT_ ?_
     refine last_ (i := 17) (N := none) #[true, true, true, true, true, true, true, true, true, true, true, true, true, true, true, true, true, true] rfl rfl (one_of HT_.out zq20) zq33 (fun K hK => ?_)
     refine skip_ (w1 := ?_) (by rfl) rfl ?_ ?_
     rotate_left
     ·go_simp
      rfl
     refine hK.out _ _ ?_
     clear hK K
     refine done_ (done_of HT_.out zq20) ?_
     try go_wp2
     go_ret
     exact ⟨_, zq67, by (with_reducible repeat (first | apply Kd.R_alloc | apply Kd.R_drewN | apply Kd.R_drew)); exact HQ15.out, by repeat (first | (with_reducible first | exact HB.out | apply below_alloc | apply pw_below_drewN | apply below_drew1 | refine below_set ?_ GB9.out | refine below_set ?_ GB9.out) | exact HB.out)⟩
    ·rw [if_neg c8] at H
     exact absurd H zq24
   ·rw [if_neg c7] at H
    exact absurd H zq24
  ·rw [if_neg c6] at H
   exact absurd H zq24
 ·rw [if_neg c5] at H
  exact absurd H zq24
/-! ### impl_counter_count: function 40 -/
open Classical in
noncomputable def impl_counter_count.ev {α : Type} (g : Nat → Option α) : Option α := if h : ∃ k r, g k = some r then g h.choose else none
theorem impl_counter_count.ev_some {α : Type} {g : Nat → Option α} {r : α} (h : impl_counter_count.ev g = some r) : ∃ k, g k = some r := by
 unfold impl_counter_count.ev at h
 split at h
 ·exact ⟨_, h⟩
 ·cases h
def impl_counter_count.good (l : List Int) : Bool := l.all fun x => decide (0 ≤ x) && decide (x ≤ 100)
theorem impl_counter_count.good_mem {l : List Int} (h : impl_counter_count.good l = true) : ∀ x ∈ l, 0 ≤ x ∧ x ≤ 100 := fun x hx => by
 have := List.all_eq_true.1 h x hx
 simpa using this
def impl_counter_count.key (l : List Int) : List UInt8 := l.map fun x => UInt8.ofNat ((48 + x) % 256).toNat
theorem impl_counter_count.key_inj : ∀ (a b : List Int), (∀ x ∈ a, 0 ≤ x ∧ x ≤ 100) → (∀ x ∈ b, 0 ≤ x ∧ x ≤ 100) → impl_counter_count.key a = impl_counter_count.key b → a = b
 | [], [], _, _, _ => rfl
 | [], y :: b, _, _, h => by simp [impl_counter_count.key] at h
 | x :: a, [], _, _, h => by simp [impl_counter_count.key] at h
 | x :: a, y :: b, ha, hb, h => by
  have hx := ha x zq24
  have hy := hb y zq24
  simp only [impl_counter_count.key, List.map_cons, List.cons.injEq] at h
  have h1 := congrArg UInt8.toNat h.1
  simp only [UInt8.toNat_ofNat'] at h1
  have e : x = y := zq10
  have e2 := impl_counter_count.key_inj a b (fun z hz => ha z (by simp [hz])) (fun z hz => hb z (by simp [hz])) h.2
  rw [e, e2]
theorem impl_counter_count.ok_key : ∀ (d i : Nat) (l acc : List Int) (k : Nat), i + d = l.length → l.length ≤ 8 → (∀ x ∈ l, 0 ≤ x ∧ x ≤ 100) → acc.length ≤ i → d < k → impl_orderKey.l0 k acc l (l.length : Int) (i : Int) = some (strOfNums (acc ++ (l.drop i).map fun x => (48 + x) % 256)) := by
 intro d
 induction d with
 | zero =>
  intro i l acc k hd h8 hg ha hk
  obtain ⟨k, rfl⟩ : ∃ m, k = m + 1 := ⟨k - 1, zq10⟩
  rw [impl_orderKey.l0, if_neg zq10, List.drop_eq_nil_of_le zq10]
  simp
 | succ d ih =>
  intro i l acc k hd h8 hg ha hk
  obtain ⟨k, rfl⟩ : ∃ m, k = m + 1 := ⟨k - 1, zq10⟩
  have hi : i < l.length := zq10
  have hr : rd l (i : Int) = l[i] := by
   show l.getD ((i : Int)).toNat 0 = _
   rw [Int.toNat_natCast, List.getD_eq_getElem?_getD, List.getElem?_eq_getElem hi]; rfl
  have hm := hg _ (List.getElem_mem hi)
  have hw : wrap64 (48 + l[i]) = 48 + l[i] := by unfold wrap64; omega
  have hw2 : wrap64 ((i : Int) + 1) = ((i + 1 : Nat) : Int) := by unfold wrap64; omega
  rw [impl_orderKey.l0, if_pos zq10, if_pos zq10, if_pos zq10, if_pos zq10, hr, hw, hw2, ih (i + 1) l _ k zq10 h8 hg (by simp; omega) zq10, List.drop_eq_getElem_cons hi, List.map_cons, List.append_assoc]
  rfl
theorem impl_counter_count.orderKey {l : List Int} (h8 : l.length ≤ 8) (hg : ∀ x ∈ l, 0 ≤ x ∧ x ≤ 100) : ∃ s : ByteArray, impl_orderKey.f 100 l = some s ∧ s.data.toList = impl_counter_count.key l ∧ s.size ≤ 8 := by
 refine ⟨_, impl_counter_count.ok_key l.length 0 l [] 100 zq10 h8 hg zq24 zq10, ?_, ?_⟩
 ·rw [strOfNums_data, List.nil_append, List.drop_zero, List.map_map]; rfl
 ·rw [strOfNums_size]; simpa using h8
def impl_counter_count.sm (g : List Int → Option Int) (l : List Int) : List Int → Int → Option Int
 | [], n => some n
 | r :: rs, n => (impl_exchanged.f l r).bind fun q => (g q).bind fun m => impl_counter_count.sm g l rs (wrap64 (n + m))
/-- How many least ladders there are, the falls taken one by one. -/
noncomputable def impl_counter_count.g : Nat → List Int → Option Int
 | 0, _ => none
 | d + 1, l => if impl_counter_count.good l = true ∧ l.length ≤ 8 then (impl_counter_count.ev fun k => impl_descents.f k l).bind fun ds => (if ds.length = 0 then some 1 else if ds.length ≤ 8 then impl_counter_count.sm (impl_counter_count.g d) l ds 0 else none) else none
noncomputable def impl_counter_count.f (l0 : List Int) : Option Int := impl_counter_count.g 16 l0
theorem impl_counter_count.sm_mono {g g' : List Int → Option Int} (h : ∀ q v, g q = some v → g' q = some v) (l : List Int) : ∀ (ds : List Int) (n r : Int), impl_counter_count.sm g l ds n = some r → impl_counter_count.sm g' l ds n = some r
 | [], _, _, e => e
 | x :: ds, n, r, e => by
  simp only [impl_counter_count.sm] at e ⊢
  obtain ⟨q, hq, e⟩ := Option.bind_eq_some_iff.1 e
  obtain ⟨m, hm, e⟩ := Option.bind_eq_some_iff.1 e
  rw [hq]
  simp only [Option.bind_some]
  rw [h q m hm]
  exact impl_counter_count.sm_mono h l ds _ r e
theorem impl_counter_count.g_succ : ∀ (d : Nat) (l : List Int) (v : Int), impl_counter_count.g d l = some v → impl_counter_count.g (d + 1) l = some v
 | 0, _, _, e => by simp [impl_counter_count.g] at e
 | d + 1, l, v, e => by
  rw [impl_counter_count.g] at e ⊢
  split at e
  ·rename_i hc
   rw [if_pos hc]
   obtain ⟨ds, hds, e⟩ := Option.bind_eq_some_iff.1 e
   rw [hds]
   simp only [Option.bind_some]
   split at e
   ·rename_i h0; rw [if_pos h0]; exact e
   ·rename_i h0
    rw [if_neg h0]
    split at e
    ·rename_i h1; rw [if_pos h1]; exact impl_counter_count.sm_mono (fun q v => impl_counter_count.g_succ d q v) l ds 0 v e
    ·cases e
  ·cases e
theorem impl_counter_count.g_le {d d' : Nat} (h : d ≤ d') {l : List Int} {v : Int} (e : impl_counter_count.g d l = some v) : impl_counter_count.g d' l = some v := by
 induction h with
 | refl => exact e
 | step _ ih => exact impl_counter_count.g_succ _ _ _ ih
theorem impl_counter_count.g_one {d d' : Nat} {l : List Int} {v v' : Int} (e : impl_counter_count.g d l = some v) (e' : impl_counter_count.g d' l = some v') : v = v' := by
 have h1 := impl_counter_count.g_le (Nat.le_max_left d d') e
 have h2 := impl_counter_count.g_le (Nat.le_max_right d d') e'
 rw [h1] at h2
 exact Option.some.inj h2
theorem impl_counter_count.sm_wf (g : List Int → Option Int) (l : List Int) : ∀ (ds : List Int) (n r : Int), (Lit.int .i64 n).wf = true → impl_counter_count.sm g l ds n = some r → (Lit.int .i64 r).wf = true
 | [], n, r, hn, e => by cases e; exact hn
 | x :: ds, n, r, hn, e => by
  simp only [impl_counter_count.sm] at e
  obtain ⟨q, hq, e⟩ := Option.bind_eq_some_iff.1 e
  obtain ⟨m, hm, e⟩ := Option.bind_eq_some_iff.1 e
  exact impl_counter_count.sm_wf g l ds _ r (wrap64_wf _) e
/-- What the counter remembers is so. -/
def impl_counter_count.Inv (D : DataW Unit) : Prop := Maps.IsMap D ∧ ∀ q : List Int, (∀ x ∈ q, 0 ≤ x ∧ x ≤ 100) → Maps.has D (.string (impl_counter_count.key q)) = true → ∃ d v, impl_counter_count.g d q = some v ∧ ∀ z, D.atKey (.string (impl_counter_count.key q)) z = .lit (.int .i64 v)
theorem impl_counter_count.inv_empty : impl_counter_count.Inv (.map []) := ⟨Maps.isMap_empty, fun q _ h => by simp [Maps.has] at h⟩
theorem impl_counter_count.inv_put {D : DataW Unit} (h : impl_counter_count.Inv D) {l : List Int} (hl : ∀ x ∈ l, 0 ≤ x ∧ x ≤ 100) {d : Nat} {v : Int} (hg : impl_counter_count.g d l = some v) : impl_counter_count.Inv (D.put (.string (impl_counter_count.key l)) (.lit (.int .i64 v))) := by
 refine ⟨h.1.put _ _, fun q hq hh => ?_⟩
 by_cases e : q = l
 ·subst e
  exact ⟨d, v, hg, fun z => Maps.atKey_put_same h.1 (show WideAt.IsKeyLit (Lit.string (impl_counter_count.key q)) from trivial) _ z⟩
 ·have hne : (Lit.string (impl_counter_count.key q)) ≠ .string (impl_counter_count.key l) := fun h2 => e (impl_counter_count.key_inj q l hq hl (by injection h2))
  rw [Maps.has_put_other hne] at hh
  obtain ⟨d', v', h1, h2⟩ := h.2 q hq hh
  exact ⟨d', v', h1, fun z => by rw [Maps.atKey_put_other hne]; exact h2 z⟩
theorem impl_counter_count.law : Maps.Keyed Try.prog 9 := Maps.string_keyed Try.underlying9
theorem impl_counter_count.zero (w : World) : (zeroValue 3).run Try.prog w = .ok (.int .i64 0) w := by kernel_rfl
/-- The counter's memory: block B is a map that reads as D, and what it remembers is so. -/
structure impl_counter_count.Mem (w : World) (B n : Nat) : Prop where mk :: (out : ∃ D : DataW Unit, w.ownsMap Try.prog 9 (plainElem Try.prog 3) B n D ∧ impl_counter_count.Inv D)
theorem impl_counter_count.Mem.kept {w w' : World} {B n : Nat} {S : Nat → Prop} (h : impl_counter_count.Mem w B n) (hk : Kept w w' S) (hS : ¬ S B) : impl_counter_count.Mem w' B n := by
 obtain ⟨D, h1, h2⟩ := h
 refine ⟨D, ?_, h2⟩
 obtain ⟨es, clock, hb, hF, hs, hD⟩ := h1
 exact ⟨es, clock, (hk.2 B (blk_lt hb) hS).trans hb, hF, hs, hD⟩
theorem impl_counter_count.Mem.below {w w' : World} {B n : Nat} (h : impl_counter_count.Mem w B n) (hb : Below w.heap.size w w') : impl_counter_count.Mem w' B n := h.kept (Kept.of_below hb (fun _ => False)) (fun h => h)
theorem impl_counter_count.Mem.mono {w : World} {B n n' : Nat} (h : impl_counter_count.Mem w B n) (hn : n ≤ n') : impl_counter_count.Mem w B n' := by
 obtain ⟨D, h1, h2⟩ := h
 exact ⟨D, h1.mono hn, h2⟩
theorem impl_counter_count.Mem.lt {w : World} {B n : Nat} (h : impl_counter_count.Mem w B n) : B < w.heap.size := by
 obtain ⟨D, h1, h2⟩ := h
 exact h1.lt
theorem impl_counter_count.pow9 (d : Nat) : 1 ≤ 9 ^ d ∧ 9 ^ (d + 1) = 9 * 9 ^ d := ⟨Nat.one_le_pow _ _ zq33, by rw [Nat.pow_succ, Nat.mul_comm]⟩
theorem impl_counter_count.calls_g (d : Nat) : ∀ (B n : Nat) (A0 : Option Addr) (c0 : Nat) (l0 : List Int) (r : Int) (w0 w : World) (hB : Below w0.heap.size w0 w) (hb : w0.heap.size ≤ B) (hm : impl_counter_count.Mem w B n) (hn : n + 9 ^ d ≤ 4611686018427387904)
  (hr0 : ∀ W', Kept w W' (fun k_ => k_ = B) → Kd.C (Kd.int .i64) W' A0 l0.length l0) (hc0 : l0.length ≤ c0) (h : impl_counter_count.g d l0 = some r),
  Calls Try.prog 40 #[.map (some B), .slice A0 l0.length c0] w fun e w' => e = .returned (.int .i64 r) ∧ impl_counter_count.Mem w' B (n + 9 ^ d) ∧ Below w0.heap.size w0 w' ∧ Kept w w' (fun k_ => k_ = B) := by
 induction d with
 | zero => intro B n A0 c0 l0 r w0 w _ _ _ _ _ _ h; simp [impl_counter_count.g] at h
 | succ d ih =>
  intro B n A0 c0 l0 r w0 w hB hb hm hn hr0 hc0 h
  obtain ⟨hp1, hp2⟩ := impl_counter_count.pow9 d
  have h0 := h
  rw [impl_counter_count.g] at h
  split at h
  ·rename_i hcond
   obtain ⟨hg, h8⟩ := hcond
   have hg := impl_counter_count.good_mem hg
   obtain ⟨ds, hds, h⟩ := Option.bind_eq_some_iff.1 h
   obtain ⟨kd, hds⟩ := impl_counter_count.ev_some hds
   obtain ⟨s, hs, hsk, hs8⟩ := impl_counter_count.orderKey h8 hg
   have hkey : keyOf Try.prog 9 (.string s) = some (Lit.string (impl_counter_count.key l0)) := by
    rw [← hsk]; exact WideMaps.keyOf_string_mk Try.underlying9 (s := s) (by unfold maxLen; omega)
   have hwf : (Lit.int .i64 r).wf = true := by
    split at h
    ·cases h; decide
    ·split at h
     ·exact impl_counter_count.sm_wf _ _ _ _ _ zq33 h
     ·cases h
   have HS := am hs
   have HDS := am hds
   have HKEY := am hkey
   have HWF := am hwf
   have HR := am hr0
   have HC := am hc0
   have HB := am hB
   have HG := am hg
   have HN := am hn
   have Hb := am hb
   have H0 := am h0
   have H := am h
   have IH := am ih
   have HP := am (And.intro hp1 hp2)
   have HM := am hm
   have HK := am (Kept.refl w (fun k_ => k_ = B))
   clear hs hds hkey hwf hr0 hc0 hB hg hn hb h0 h ih hp1 hp2 hm hsk
   obtain ⟨D, hown, hinv⟩ := HM.out
   have HOWN := am hown
   have HINV := am hinv
   clear hown hinv
   cases hh : Maps.has D (.string (impl_counter_count.key l0)) with
   | true =>
    obtain ⟨d1, v1, hv1, hat1⟩ := HINV.out.2 l0 HG.out hh
    obtain rfl := impl_counter_count.g_one hv1 H0.out
    have HAT := am (hat1 (.lit (.int .i64 0)))
    have HH := am hh
    clear hat1 hv1 hh
    go_enter Try.func40, Try.ntmps40
    go_wp2_with (first | (go_at_call 51; (with_reducible refine (impl_orderKey.calls 100 _ _ l0 s _ ?side1 ?side2 HS.out).mono ?_); (case side1 => exact HR.out _ zq13); (case side2 => exact HC.out); rintro e w1 ⟨rfl, hb1⟩; have HB1 := am (below_then HB.out HB.out.size hb1); have HK1 := am (HK.out.below hb1); have HM1 := am (HM.out.below hb1); have HOWN1 := am (HOWN.out.kept (grown_of_below hb1 none) zq24); clear hb1) | (at_lookup; refine wpList_lookup_own_ok_int _ rfl _ _ 64 rfl 9 3 .i64 impl_counter_count.law Try.underlying64 Try.underlying3 (impl_counter_count.zero _) B n D rfl HOWN1.out _ _ rfl HKEY.out ?_; intro c hat hwc; obtain rfl : c = v1 := (by have h_ := hat.symm.trans HAT.out; simpa using h_); rw [HH.out]))
    go_ret
    exact ⟨rfl, HM1.out.mono (by have := HP.out; omega), HB1.out, HK1.out⟩
   | false =>
    obtain ⟨rr, hsm, hrr, hd8⟩ : ∃ rr, impl_counter_count.sm (impl_counter_count.g d) l0 ds 0 = some rr ∧ r = (if ds.length = 0 then 1 else rr) ∧ ds.length ≤ 8 := by
     have h := H.out
     by_cases hz : ds.length = 0
     ·rw [if_pos hz] at h
      have e := List.length_eq_zero_iff.1 hz
      subst e
      exact ⟨0, rfl, (Option.some.inj h).symm, zq24⟩
     ·rw [if_neg hz] at h
      split at h
      ·rename_i h8
       exact ⟨r, h, by rw [if_neg hz], h8⟩
      ·cases h
    have HSM := am hsm
    have HRR := am hrr
    have HD8 := am hd8
    clear hsm hrr hd8 hds
    have HH := am hh
    clear hh
    go_enter Try.func40, Try.ntmps40
    go_wp2_with (first | (go_at_call 51; (with_reducible refine (impl_orderKey.calls 100 _ _ l0 s _ ?side1 ?side2 HS.out).mono ?_); (case side1 => exact HR.out _ zq13); (case side2 => exact HC.out); rintro e w1 ⟨rfl, hb1⟩; have HB1 := am (below_then HB.out HB.out.size hb1); have HK1 := am (HK.out.below hb1); have HM1 := am (HM.out.below hb1); have HOWN1 := am (HOWN.out.kept (grown_of_below hb1 none) zq24); clear hb1) | (at_lookup; refine wpList_lookup_own_ok_int _ rfl _ _ 64 rfl 9 3 .i64 impl_counter_count.law Try.underlying64 Try.underlying3 (impl_counter_count.zero _) B n D rfl HOWN1.out _ _ rfl HKEY.out ?_; intro c hat hwc; rw [HH.out]; clear hat hwc) | (go_at_call 52; (with_reducible refine (impl_descents.calls kd _ _ l0 ds _ ?side1 ?side2 HDS.out).mono ?_); (case side1 => exact HR.out _ (by repeat (first | (with_reducible first | exact HK1.out | apply Kept.alloc | apply Kept.drewN | apply Kept.drew) | exact HK1.out))); (case side2 => exact HC.out); rintro e w2 ⟨v2, rfl, ho2, hb2⟩; have HL := am (Kd.R_mono (Kd.R_bound ho2) (fun k_ h_ => (show k_ ≠ B from fun e_ => by have := HM1.out.lt; have := h_.2.1; omega))); have HB2 := am (below_then HB1.out HB1.out.size hb2); have HK2 := am (HK1.out.below hb2); have HM2 := am (HM1.out.below hb2); clear hb2 ho2; obtain ⟨A2, c2, e2⟩ := Kd.R_slice HL.out; subst e2))
    go_loopg [9, 26] ds.length (fun gg v9 v26 w' => ∃ (i : Nat) (acc : Int) (N : Nat), v9 = .int .i64 acc ∧ v26 = .int .i64 i ∧ i ≤ ds.length ∧ ds.length - i ≤ gg ∧ Aside0 (impl_counter_count.sm (impl_counter_count.g d) l0 (ds.drop i) acc = some rr) ∧ Aside0 (N ≤ n + i * 9 ^ d) ∧ Aside0 (impl_counter_count.Mem w' B N) ∧ Aside0 (Kd.R (Kd.int .i64) 3 w' w1.heap.size (fun k_ => k_ ≠ B) (.slice A2 ds.length c2) ds) ∧ Aside0 (Below w0.heap.size w0 w') ∧ Aside0 (Kept w w' (fun k_ => k_ = B)))
    case atStart => exact ⟨0, 0, n, rfl, rfl, Nat.zero_le _, zq10, ⟨by rw [List.drop_zero]; exact HSM.out⟩, ⟨zq10⟩, HM2, HL, HB2, HK2⟩
    case round =>
     clear HB1 HK1 HM1 HOWN1 HB2 HK2 HM2 HL HSM
     obtain ⟨i, acc, N, rfl, rfl, hi, hgk, HSM, HNN, HM2, HL, HB2, HK2⟩ := hrel
     by_cases hlt : i < ds.length
     ·have hltz : (i : Int) < (ds.length : Int) := zq10
      have hdr : ds.drop i = rd ds (i : Int) :: ds.drop (i + 1) := by
       have hr_ : rd ds (i : Int) = ds[i] := by
        show ds.getD ((i : Int)).toNat 0 = _
        rw [Int.toNat_natCast, List.getD_eq_getElem?_getD, List.getElem?_eq_getElem hlt]; rfl
       rw [hr_]; exact List.drop_eq_getElem_cons hlt
      obtain ⟨ad, ead, hx0⟩ := Kd.at_int (Kd.R_reads' HL.out).2.2 (i : Int) (Int.natCast_nonneg i) hltz
      cases ead
      obtain ⟨x, hx⟩ : ∃ x, x = rd ds (i : Int) := ⟨_, rfl⟩
      rw [← hx] at hx0 hdr
      have hsm := HSM.out
      rw [hdr, impl_counter_count.sm] at hsm
      obtain ⟨q, hq, hsm⟩ := Option.bind_eq_some_iff.1 hsm
      obtain ⟨m, hm, hsm⟩ := Option.bind_eq_some_iff.1 hsm
      rw [Int.toNat_natCast] at hx0
      have HQ := am hq
      have HMM := am hm
      have HSM2 := am hsm
      clear HSM hsm hq hm hdr hx
      have hb9 : N + 9 ^ d ≤ n + (i + 1) * 9 ^ d := by have := HNN.out; rw [Nat.add_mul, Nat.one_mul]; omega
      have hlim : N + 9 ^ d ≤ 4611686018427387904 := by
       have h1 := HN.out; have h2 := HP.out; have h3 := HD8.out
       have h4 : (i + 1) * 9 ^ d ≤ 8 * 9 ^ d := Nat.mul_le_mul_right _ zq10
       omega
      have HB9 := am hb9
      have HLIM := am hlim
      clear hb9 hlim
      go_wp2_with (first | (go_at_call 53; (with_reducible refine (impl_exchanged.calls _ _ l0 x q _ ?side1 ?side2 HQ.out).mono ?_); (case side1 => exact HR.out _ zq25); (case side2 => exact HC.out); rintro e w4 ⟨v4, rfl, ho4, hb4⟩; have HQR := am (Kd.R_mono (Kd.R_bound ho4) (fun k_ h_ => (show k_ ≠ B from fun e_ => by have h1_ := HM2.out.lt; have h2_ := h_.2.1; exact absurd (Nat.lt_of_lt_of_le h1_ h2_) (by rw [e_]; exact Nat.lt_irrefl B)))); have HB4 := am (below_then HB2.out HB2.out.size hb4); have HK4 := am (HK2.out.below hb4); have HM4 := am (HM2.out.below hb4); have HL4 := am (Kd.R_below (by (with_reducible repeat (first | apply Kd.R_alloc | apply Kd.R_drewN | apply Kd.R_drew)); exact HL.out) hb4); clear hb4 ho4; obtain ⟨A4, c4, e4⟩ := Kd.R_slice HQR.out; subst e4) | (go_at_call 40; (with_reducible refine (IH.out B N A4 c4 q m w0 _ ?side1 Hb.out ?side2 HLIM.out ?side3 ?side4 HMM.out).mono ?_); (case side1 => exact HB4.out); (case side2 => exact HM4.out); (case side3 => exact zq95); (case side4 => exact (Kd.R_reads' HQR.out).2.1); rintro e w5 ⟨rfl, hm5, hb5, hk5⟩; have HM5 := am hm5; have HB5 := am hb5; have HK5 := am (HK4.out.then_ hk5 (fun _ h_ => .inl h_)); have HL5 := am (Kd.R_kept HL4.out hk5 (fun _ h1_ h2_ => h1_ h2_)); clear hm5 hb5 hk5))
      have hd8_ := HD8.out
      go_roundg (ds.length - (i + 1))
      case measure => omega
      case rel => exact ⟨i + 1, wrap64 (acc + m), N + 9 ^ d, zq93, (by first | go_num | (congr 1; unfold wrap64; omega)), zq10, zq10, HSM2, HB9, HM5, HL5, HB5, HK5⟩
     ·have hltz : ¬ (i : Int) < (ds.length : Int) := zq10
      have hie : i = ds.length := zq10
      have hsm := HSM.out
      rw [List.drop_eq_nil_of_le zq10, impl_counter_count.sm] at hsm
      obtain rfl := Option.some.inj hsm
      clear HSM hsm
      obtain ⟨D5, hown5, hinv5⟩ := HM2.out
      have HO5 := am hown5
      have HI5 := am hinv5
      clear hown5 hinv5
      have hlim : N + 1 ≤ n + 9 ^ (d + 1) ∧ N < 4611686018427387904 := by
       have h1 := HN.out; have h2 := HP.out; have h3 := HD8.out; have h4 := HNN.out
       have h5 : i * 9 ^ d ≤ 8 * 9 ^ d := Nat.mul_le_mul_right _ zq10
       omega
      have HLIM := am hlim
      clear hlim
      by_cases hz : ds.length = 0
      ·have hr1 : r = 1 := by have := HRR.out; rw [if_pos hz] at this; exact this
       subst hr1
       have hz0 : decide ((ds.length : Int) = 0) = true := decide_eq_true zq10
       have hz1 : decide (ds.length = 0) = true := decide_eq_true hz
       go_wp2_with (at_mapUpdate; refine wpList_mapUpdate_own _ rfl _ _ _ 64 rfl 9 3 impl_counter_count.law Try.underlying64 _ B N D5 rfl HO5.out (by have := HLIM.out; unfold maxLen; omega) _ _ _ rfl rfl HKEY.out _ [] (plainElem_int Try.underlying3 HWF.out) ?_; intro w6 hown6 hgrow6)
       go_ret
       exact ⟨rfl, ⟨_, hown6.mono HLIM.out.1, impl_counter_count.inv_put HI5.out HG.out H0.out⟩, HB2.out.grown hgrow6 HB2.out.size (fun k_ h_ => by cases h_; exact Hb.out), Kept.of_grown hgrow6 HK2.out (fun k_ h_ => by cases h_; exact .inl rfl)⟩
      ·have hr1 : r = acc := by have := HRR.out; rw [if_neg hz] at this; exact this
       subst hr1
       have hz0 : decide ((ds.length : Int) = 0) = false := decide_eq_false zq10
       have hz1 : decide (ds.length = 0) = false := decide_eq_false hz
       go_wp2_with (at_mapUpdate; refine wpList_mapUpdate_own _ rfl _ _ _ 64 rfl 9 3 impl_counter_count.law Try.underlying64 _ B N D5 rfl HO5.out (by have := HLIM.out; unfold maxLen; omega) _ _ _ rfl rfl HKEY.out _ [] (plainElem_int Try.underlying3 HWF.out) ?_; intro w6 hown6 hgrow6)
       go_ret
       exact ⟨rfl, ⟨_, hown6.mono HLIM.out.1, impl_counter_count.inv_put HI5.out HG.out H0.out⟩, HB2.out.grown hgrow6 HB2.out.size (fun k_ h_ => by cases h_; exact Hb.out), Kept.of_grown hgrow6 HK2.out (fun k_ h_ => by cases h_; exact .inl rfl)⟩
  ·cases h
theorem impl_counter_count.calls (B n : Nat) (A0 : Option Addr) (c0 : Nat) (l0 : List Int) (r : Int) (w0 w : World) (hB : Below w0.heap.size w0 w) (hb : w0.heap.size ≤ B) (hm : impl_counter_count.Mem w B n) (hn : n + 9 ^ 16 ≤ 4611686018427387904)
  (hr0 : ∀ W', Kept w W' (fun k_ => k_ = B) → Kd.C (Kd.int .i64) W' A0 l0.length l0) (hc0 : l0.length ≤ c0) (h : impl_counter_count.f l0 = some r) :
  Calls Try.prog 40 #[.map (some B), .slice A0 l0.length c0] w fun e w' => e = .returned (.int .i64 r) ∧ impl_counter_count.Mem w' B (n + 9 ^ 16) ∧ Below w0.heap.size w0 w' ∧ Kept w w' (fun k_ => k_ = B) :=
 impl_counter_count.calls_g 16 B n A0 c0 l0 r w0 w hB hb hm hn hr0 hc0 h
theorem impl_counter_count.Mem.made (w : World) : impl_counter_count.Mem (w.alloc (.map #[] 0)) w.heap.size 0 := ⟨_, World.ownsMap_made _ _ _ _, impl_counter_count.inv_empty⟩
theorem impl_counter_count.callsN (B n : Nat) (A0 : Option Addr) (c0 : Nat) (l0 : List Int) (r : Int) (w0 w : World) (hB : Below w0.heap.size w0 w) (hb : w0.heap.size ≤ B) (hm : impl_counter_count.Mem w B n) (hn : n + 1853020188851841 ≤ 4611686018427387904)
  (hr0 : ∀ W', Kept w W' (fun k_ => k_ = B) → Kd.C (Kd.int .i64) W' A0 l0.length l0) (hc0 : l0.length ≤ c0) (h : impl_counter_count.f l0 = some r) :
  Calls Try.prog 40 #[.map (some B), .slice A0 l0.length c0] w fun e w' => e = .returned (.int .i64 r) ∧ impl_counter_count.Mem w' B (n + 1853020188851841) ∧ Below w0.heap.size w0 w' ∧ Kept w w' (fun k_ => k_ = B) := by
 have e : (9 : Nat) ^ 16 = 1853020188851841 := zq33
 have h1 := impl_counter_count.calls B n A0 c0 l0 r w0 w hB hb hm (by rw [e]; exact hn) hr0 hc0 h
 rw [e] at h1
 exact h1
/-! ### impl_all: function 41 -/
open Classical in
noncomputable def impl_all.ev {α : Type} (g : Nat → Option α) : Option α := if h : ∃ k r, g k = some r then g h.choose else none
theorem impl_all.ev_some {α : Type} {g : Nat → Option α} {r : α} (h : impl_all.ev g = some r) : ∃ k, g k = some r := by
 unfold impl_all.ev at h
 split at h
 ·exact ⟨_, h⟩
 ·cases h
def impl_all.lp (G : List Int → List Int → List S40 → Option (List S40)) (l1 l2 ds : List Int) : Nat → Nat → List S40 → Option (List S40)
 | 0, _, xs => some xs
 | m + 1, i, xs => (slices_Clone_int_int.f l1).bind fun c => if c.length < 1000 then (impl_exchanged.f l2 (rd ds i)).bind fun q => (G (c ++ [rd ds i]) q xs).bind fun ys => impl_all.lp G l1 l2 ds m (i + 1) ys else none
noncomputable def impl_all.g : Nat → Int → List Int → List Int → List S40 → Option (List S40)
 | 0, _, _, _, _ => none
 | d + 1, a0, l1, l2, xs => (impl_all.ev fun k => impl_descents.f k l2).bind fun ds => if ds.length = 0 then (if xs.length < 100000 then some (xs ++ [⟨a0, l1⟩]) else none) else impl_all.lp (fun l1' l2' xs' => impl_all.g d a0 l1' l2' xs') l1 l2 ds ds.length 0 xs
theorem impl_all.calls_g : ∀ (d : Nat) (a0 : Int) (Pd : Nat → Prop) (A1 : Option Addr) (c1 : Nat) (l1 : List Int) (Pp : Nat → Prop) (A2 : Option Addr) (c2 : Nat) (l2 : List Int) (P : Nat → Prop) (v : Value) (xs ys : List S40) (w0 w : World) (hB : Below w0.heap.size w0 w) (h1 : Kd.R (Kd.int .i64) 3 w w0.heap.size Pd (.slice A1 l1.length c1) l1) (h1p : ∀ k, Pd k → ¬ P k) (h2 : Kd.F (Kd.int .i64) w Pp A2 l2.length l2) (hc2 : l2.length ≤ c2) (h2p : ∀ k, Pp k → ¬ P k) (hS : Kd.S k40 40 w w0.heap.size P v xs) (hPw : ∀ k, P k → k < w.heap.size) (h : impl_all.g d a0 l1 l2 xs = some ys),
  Calls Try.prog 41 #[.int .i64 a0, .slice A1 l1.length c1, .slice A2 l2.length c2, v] w fun e w' => ∃ v0_ : Value, e = .returned v0_ ∧ Kd.S k40 40 w' w0.heap.size (fun k => P k ∨ Pd k ∨ w.heap.size ≤ k) v0_ ys ∧ Below w0.heap.size w0 w' ∧ Kept w w' P
 | 0, _, _, _, _, _, _, _, _, _, _, _, _, _, _, _, _, _, _, _, _, _, _, _, h => by cases h
 | d + 1, a0, Pd, A1, c1, l1, Pp, A2, c2, l2, P, v, xs, ys, w0, w, hB, h1, h1p, h2, hc2, h2p, hS, hPw, h => by
  obtain ⟨ds, hd, h⟩ := Option.bind_eq_some_iff.1 h
  obtain ⟨kd, hd⟩ := impl_all.ev_some hd
  have HD := am hd
  have HB := am hB
  have H1 := am h1
  have H2 := am h2
  have HC2 := am hc2
  have HS := am hS
  have HP1 := am h1p
  have HP2 := am h2p
  have HPw := am hPw
  clear hd hB h1 h2 hc2 hS h1p h2p hPw
  by_cases c : ds.length = 0
  ·rw [if_pos c] at h
   split at h
   case isFalse => cases h
   rename_i hx
   obtain rfl := Option.some.inj h
   have HX := am hx
   clear h hx
   have cb : ((ds.length : Int) == 0) = true := beq_iff_eq.mpr zq10
   have cd : decide ((ds.length : Int) = 0) = true := decide_eq_true zq10
   have HV : Aside0 (∀ k, v.ownBlock = some k → P k) := am (Kd.S_R HS.out).1
   go_enter Try.func41, Try.ntmps41
   go_wp2_with (first | (go_at_call 52; (with_reducible refine (impl_descents.calls kd _ _ l2 ds _ ?side1 HC2.out HD.out).mono ?_); (case side1 => exact Kd.F_now H2.out); rintro e w2 ⟨v2, rfl, hr2, hb2⟩; obtain ⟨A9, c9, e9⟩ := Kd.R_slice hr2; subst e9; have HB2 := am (below_step HB.out hb2); have HBw := am hb2; have H12 := am (Kd.R_below H1.out hb2); have HS2 := am (Kd.S_below HS.out hb2); clear hr2 hb2) | ((with_reducible refine gate_builtin (b := .append) (xs := #[.tmp 17, .tmp 21]) rfl ?_); at_builtin; refine Kd.S_append k40 (w0 := w0) w0.heap.size rfl (.tmp 17) (.tmp 21) 23 40 (.agg #[(.int .i64 0), (.slice none 0 0)]) 32 rfl Try.underlying23 info40 rfl zq33 zq10 v xs (⟨a0, l1⟩ : S40) [.int .i64 a0, .slice A1 l1.length c1] (fun k => P k ∨ Pd k ∨ w.heap.size ≤ k) Pd rfl rfl ?aP ?aK ?aF ?aO ?aB ?aS ?aL ?_; (case aP => exact k40_mkM _ _ _ ⟨a0, l1⟩ H12.out); (case aK => exact fun k hk => ⟨.inr (.inl hk), fun e_ => HP1.out k hk (HV.out k e_.symm)⟩); (case aF => exact fun k hk => .inr (.inr (Nat.le_trans HBw.out.size hk))); (case aO => exact Kd.S_mono HS2.out (fun k hk => ⟨.inl hk, fun h_ => HP1.out k h_ hk⟩)); (case aB => exact HB2.out); (case aS => exact below_size HB2.out); (case aL => have := HX.out; omega); intro v3 w3 ho hb hg hat; have HO3 := am ho; have HB3 := am hb; have HK3 := am (Kept.of_grown (S := P) hg (by repeat (first | exact Kept.of_below HBw.out _ | apply Kept.drewN | apply Kept.drew | apply Kept.alloc)) (fun k e_ => .inl (HV.out k e_))); clear ho hb hg hat))
   go_ret
   exact ⟨_, rfl, HO3.out, HB3.out, HK3.out⟩
  ·rw [if_neg c] at h
   have HL := am h
   have HNZ := am c
   have cb : ((ds.length : Int) == 0) = false := beq_eq_false_iff_ne.mpr zq10
   have cd : decide ((ds.length : Int) = 0) = false := decide_eq_false zq10
   clear h c
   go_enter Try.func41, Try.ntmps41
   go_wp2_with (go_at_call 52; (with_reducible refine (impl_descents.calls kd _ _ l2 ds _ ?side1 HC2.out HD.out).mono ?_); (case side1 => exact Kd.F_now H2.out); rintro e w2 ⟨v2, rfl, hr2, hb2⟩; obtain ⟨A9, c9, e9⟩ := Kd.R_slice hr2; subst e9; have HB2 := am (below_step HB.out hb2); have HBw := am hb2; have H12 := am (Kd.R_below H1.out hb2); have HS2 := am (Kd.S_below HS.out hb2); have H22 := am (Kd.F_below H2.out hb2); have HR9 := am hr2; clear hr2 hb2)
   go_loopg [3, 25] ds.length (fun kq v3 v25 w' => ∃ (i : Nat) (xs1 : List S40), v25 = .int .i64 (i : Int) ∧ Aside0 (i + kq = ds.length) ∧ Aside0 (impl_all.lp (fun l1' l2' xs' => impl_all.g d a0 l1' l2' xs') l1 l2 ds kq i xs1 = some ys) ∧ Aside0 (Kd.S k40 40 w' w0.heap.size (fun k => P k ∨ w2.heap.size ≤ k) v3 xs1) ∧ Aside0 (Kept w2 w' P) ∧ Aside0 (Below w0.heap.size w0 w'))
   case atStart => exact ⟨0, xs, rfl, ⟨zq10⟩, HL, ⟨Kd.S_mono HS2.out (fun k hk => .inl hk)⟩, ⟨Kept.refl _ _⟩, ⟨HB2.out⟩⟩
   case round =>
    have HSZ2 := am HBw.out.size
    clear HB2 HS2
    obtain ⟨i, xs1, rfl, HI, HA, HO, HK, HB3⟩ := hrel
    have HR9' := am (Kd.R_step (Kd.R_tight rfl HR9.out) (fun k hk hlt => HK.out.2 k hlt (fun hp => by have h1_ := HPw.out k hp; have h2_ := Kd.R_base HR9.out k hk.symm; omega)))
    cases gk with
    | zero =>
     have H := HA.out
     simp only [impl_all.lp, Option.some.injEq] at H
     subst H
     have HI0 := HI.out
     have ct : decide ((i : Int) < (ds.length : Int)) = false := decide_eq_false zq10
     go_wp2
     go_ret
     exact ⟨_, rfl, Kd.S_mono HO.out (fun k hk => hk.elim .inl (fun h_ => .inr (.inr (Nat.le_trans HSZ2.out h_)))), HB3.out, Kept.then_ (Kept.of_below HBw.out P) HK.out (fun k hk => .inl hk)⟩
    | succ k1 =>
     have H := HA.out
     simp only [impl_all.lp] at H
     obtain ⟨cl, hcl, H⟩ := Option.bind_eq_some_iff.1 H
     by_cases hc1 : cl.length < 1000
     case neg => rw [if_neg hc1] at H; cases H
     rw [if_pos hc1] at H
     obtain ⟨q, hq, H⟩ := Option.bind_eq_some_iff.1 H
     obtain ⟨ys1, hg, H⟩ := Option.bind_eq_some_iff.1 H
     have HI0 := HI.out
     have p9 : (0 : Int) ≤ (i : Int) := zq10
     have q9 : (i : Int) < ds.length := zq10
     have ct : decide ((i : Int) < (ds.length : Int)) = true := decide_eq_true q9
     obtain ⟨ad9, e9, hx9⟩ := Kd.at_int (Kd.R_reads' HR9'.out).2.2 (i : Int) p9 q9
     subst e9
     simp only [Int.toNat_natCast] at hx9
     obtain ⟨y5, ny5⟩ : ∃ y, y = cl ++ [rd ds (i : Int)] := ⟨_, rfl⟩
     rw [← ny5] at hg
     have NY := am ny5
     clear ny5
     have HCL := am hcl
     have HQ := am hq
     have HG := am hg
     have HT := am H
     have HC1 := am hc1
     have H13 := am (Kd.F_kept (Kd.R_F H12.out) HK.out HP1.out)
     have H23 := am (Kd.F_kept H22.out HK.out HP2.out)
     have HL1 : Aside0 (l1.length ≤ c1) := am (Kd.R_reads' H12.out).2.1
     clear hcl hq hg H hc1
     have p9' := eq_true p9
     have q9' := eq_true q9
     have HMX := am (Kd.F_max (Kd.R_F HR9'.out))
     go_wp2_with (first | (go_at_call 48; (with_reducible refine (slices_Clone_int_int.calls _ _ l1 cl _ ?side1 HL1.out HCL.out).mono ?_); (case side1 => exact Kd.F_now H13.out); rintro e w4 ⟨v4, rfl, hr4, hb4⟩; obtain ⟨A4, c4, e4⟩ := Kd.R_slice hr4; subst e4; have HR4 := am hr4; have HB4 := am hb4; clear hr4 hb4) | ((with_reducible refine gate_builtin (b := .append) (xs := #[.tmp 31, .tmp 33]) rfl ?_); at_builtin; refine Kd.R_append (Kd.int .i64) (w0 := wr) wr.heap.size rfl (.tmp 31) (.tmp 33) 22 3 (.int .i64 0) 8 rfl Try.underlying22 info3 rfl zq33 zq10 (.slice A4 cl.length c4) cl (rd ds (i : Int)) [.int .i64 (rd ds (i : Int))] (fun _ => True) (fun _ => False) rfl rfl ?aP (fun _ hk => hk.elim) ?aF ?aO ?aB ?aS ?aL ?_; (case aP => exact rfl); (case aF => exact (fun _ _ => trivial)); (case aO => first | exact HR4.out | exact Kd.R_mono HR4.out (fun _ _ => trivial)); (case aB => exact HB4.out); (case aS => exact HB4.out.size); (case aL => have := HC1.out; omega); intro v5 w5 ho hb hg5 hat; rw [← NY.out] at ho; obtain ⟨A5, c5, e5⟩ := Kd.R_slice ho; subst e5; have HR5 := am ho; have HB5 := am hb; clear ho hb hg5 hat) | (go_at_call 53; (with_reducible refine (impl_exchanged.calls _ _ l2 (rd ds (i : Int)) q _ ?side1 HC2.out HQ.out).mono ?_); (case side1 => exact Kd.F_now (Kd.F_below H23.out HB5.out)); rintro e w6 ⟨v6, rfl, hr6, hb6⟩; obtain ⟨A6, c6, e6⟩ := Kd.R_slice hr6; subst e6; have HR6 := am hr6; have HB6 := am (below_step HB5.out hb6); have HR56 := am (Kd.R_below HR5.out hb6); have HZ5 := am HB5.out.size; clear hr6 hb6) | (go_at_call 41; (with_reducible refine (impl_all.calls_g d a0 (fun k => some k = (Value.slice A5 y5.length c5).ownBlock) A5 c5 y5 (fun k => some k = (Value.slice A6 q.length c6).ownBlock) A6 c6 q (fun k => (P k ∨ w2.heap.size ≤ k) ∧ k < wr.heap.size) _ xs1 ys1 w0 _ ?r1 ?r2 ?r3 ?r4 ?r5 ?r6 ?r7 ?r8 HG.out).mono ?_); (case r1 => exact below_step HB3.out HB6.out); (case r2 => exact Kd.R_lower (Kd.R_tight rfl HR56.out) HB3.out.size); (case r3 => exact fun k hk hp => by have h1_ := Kd.R_base HR56.out k hk.symm; have h2_ := hp.2; omega); (case r4 => exact Kd.R_F (Kd.R_tight rfl HR6.out)); (case r5 => exact (Kd.R_reads' HR6.out).2.1); (case r6 => exact fun k hk hp => by have h1_ := Kd.R_base HR6.out k hk.symm; have h2_ := hp.2; have h3_ := HZ5.out; omega); (case r7 => exact Kd.S_below (Kd.S_mono (Kd.S_bound HO.out) (fun k hk => ⟨hk.1, hk.2.2.1⟩)) HB6.out); (case r8 => exact fun k hk => Nat.lt_of_lt_of_le hk.2 HB6.out.size); rintro e w7 ⟨v7, rfl, hs7, hb7, hk7⟩; have HO7 := am (Kd.S_mono (ok' := fun k => P k ∨ w2.heap.size ≤ k) hs7 (fun k hk => hk.elim (fun h_ => h_.1) (fun h_ => h_.elim (fun h_ => .inr (Nat.le_trans HK.out.1 (Kd.R_base HR56.out k h_.symm))) (fun h_ => .inr (Nat.le_trans HK.out.1 (Nat.le_trans HB6.out.size h_)))))); have HB7 := am hb7; have HK7 := am (Kept.then_ (Kept.below HK.out HB6.out) hk7 (fun k hk => hk.1)); clear hs7 hb7 hk7))
     go_roundg k1
     case measure => omega
     case rel => exact ⟨i + 1, ys1, (by have h_ := HMX.out; first | rfl | (simp; done) | (simp [wrap64]; omega)), ⟨zq10⟩, HT, HO7, HK7, HB7⟩
/-! ### impl_listed: function 27 -/
open Classical in
noncomputable def impl_listed.ev {α : Type} (g : Nat → Option α) : Option α := if h : ∃ k r, g k = some r then g h.choose else none
theorem impl_listed.ev_some {α : Type} {g : Nat → Option α} {r : α} (h : impl_listed.ev g = some r) : ∃ k, g k = some r := by
 unfold impl_listed.ev at h
 split at h
 ·exact ⟨_, h⟩
 ·cases h
noncomputable def impl_listed.f (l0 : List Int) : Option ((List S40) × Bool) := (impl_listed.ev fun k => impl_isCounted.f k l0).bind fun t => if t = true then ((impl_counter_count.f l0).bind fun r => if r > 800 then some ([], false) else (impl_listed.ev fun d => impl_all.g d (l0.length : Int) [] l0 []).bind fun x => some (x, true)) else some ([], false)
theorem impl_listed.all0 (d : Nat) (a0 : Int) (A0 : Option Addr) (c0 : Nat) (l0 : List Int) (ys : List S40) (w0 w : World) (hB : Below w0.heap.size w0 w) (h2 : Kd.C (Kd.int .i64) w A0 l0.length l0) (hc0 : l0.length ≤ c0) (h : impl_all.g d a0 [] l0 [] = some ys) :
  Calls Try.prog 41 #[.int .i64 a0, .slice none 0 0, .slice A0 l0.length c0, .slice none 0 0] w fun e w' => ∃ v0_ : Value, e = .returned v0_ ∧ Kd.S k40 40 w' w0.heap.size (fun _ => True) v0_ ys ∧ Below w0.heap.size w0 w' := by
 have := impl_all.calls_g d a0 (fun _ => False) none 0 [] (fun k => k < w.heap.size) A0 c0 l0 (fun _ => False) (.slice none 0 0) [] ys w0 w hB (Kd.R_nil _ _ _ _ _) (fun _ h_ => h_.elim) (Kd.C_F (Kd.heap_int .i64) h2) hc0 (fun _ _ h_ => h_) (Kd.S_nil _ _ _ _ _) (fun _ h_ => h_.elim) h
 refine this.mono ?_
 rintro e w' ⟨v, rfl, hs, hb, _⟩
 exact ⟨v, rfl, Kd.S_mono hs (fun _ _ => trivial), hb⟩
theorem impl_listed.calls (A0 : Option Addr) (c0 : Nat) (l0 : List Int) (r1 : List S40) (r2 : Bool) (w : World) (hr0 : Kd.C (Kd.int .i64) w A0 l0.length l0) (hc0 : l0.length ≤ c0) (h : impl_listed.f l0 = some (r1, r2)) :
  Calls Try.prog 27 #[.slice A0 l0.length c0] w fun e w' => ∃ v0_ : Value, e = .returned (.tuple #[v0_, .bool r2]) ∧ Kd.S k40 40 w' w.heap.size (fun _ => True) v0_ r1 ∧ Below w.heap.size w w' := by
 have HR0 := am hr0
 have HC0 := am hc0
 clear hr0 hc0
 unfold impl_listed.f at h
 obtain ⟨t, ht, h⟩ := Option.bind_eq_some_iff.1 h
 obtain ⟨kt, ht⟩ := impl_listed.ev_some ht
 have HT := am ht
 clear ht
 cases t with
 | false =>
  rw [if_neg zq33] at h
  simp only [Option.some.injEq, Prod.mk.injEq] at h
  obtain ⟨rfl, rfl⟩ := h
  go_enter Try.func27, Try.ntmps27
  go_wp2_with (go_at_call 39; (with_reducible refine (impl_isCounted.calls kt _ _ l0 false _ ?side1 HC0.out HT.out).mono ?_); (case side1 => exact HR0.out); rintro e w' ⟨rfl, ⟨nd, rfl⟩⟩)
  go_ret2
  exact ⟨_, rfl, Kd.S_nil _ _ _ _ _, pw_below_drewN (Below.refl _ _) nd⟩
 | true =>
  rw [if_pos rfl] at h
  obtain ⟨r, hr, h⟩ := Option.bind_eq_some_iff.1 h
  have HRR := am hr
  clear hr
  have hmm := @run_makeMap Try.prog
  by_cases c : r > 800
  ·rw [if_pos c] at h
   simp only [Option.some.injEq, Prod.mk.injEq] at h
   obtain ⟨rfl, rfl⟩ := h
   have cb : decide (800 < r) = true := decide_eq_true c
   go_enter Try.func27, Try.ntmps27
   go_wp2_with (first | (go_at_call 39; (with_reducible refine (impl_isCounted.calls kt _ _ l0 true _ ?side1 HC0.out HT.out).mono ?_); (case side1 => exact HR0.out); rintro e w' ⟨rfl, ⟨nd, rfl⟩⟩) | (go_at_call 40; (with_reducible refine (impl_counter_count.calls w.heap.size 0 _ _ l0 r w _ ?side1 (Nat.le_refl _) ?side2 zq33 ?side3 HC0.out HRR.out).mono ?_); (case side1 => exact zq23); (case side2 => exact impl_counter_count.Mem.made _); (case side3 => exact Kd.C_kept_came (Kd.heap_int .i64) HR0.out zq23 (fun k_ h_ => by rw [h_]; exact Nat.le_refl _)); rintro e w3 ⟨rfl, hm3, hb3, hk3⟩; have HB3 := am hb3; clear hm3 hb3 hk3))
   go_ret2
   exact ⟨_, rfl, Kd.S_nil _ _ _ _ _, HB3.out⟩
  ·rw [if_neg c] at h
   obtain ⟨x, hx, h⟩ := Option.bind_eq_some_iff.1 h
   simp only [Option.some.injEq, Prod.mk.injEq] at h
   obtain ⟨rfl, rfl⟩ := h
   obtain ⟨kx, hx⟩ := impl_listed.ev_some hx
   have HX := am hx
   clear hx
   have cb : decide (800 < r) = false := decide_eq_false c
   go_enter Try.func27, Try.ntmps27
   go_wp2_with (first | (go_at_call 39; (with_reducible refine (impl_isCounted.calls kt _ _ l0 true _ ?side1 HC0.out HT.out).mono ?_); (case side1 => exact HR0.out); rintro e w' ⟨rfl, ⟨nd, rfl⟩⟩) | (go_at_call 40; (with_reducible refine (impl_counter_count.calls w.heap.size 0 _ _ l0 r w _ ?side1 (Nat.le_refl _) ?side2 zq33 ?side3 HC0.out HRR.out).mono ?_); (case side1 => exact zq23); (case side2 => exact impl_counter_count.Mem.made _); (case side3 => exact Kd.C_kept_came (Kd.heap_int .i64) HR0.out zq23 (fun k_ h_ => by rw [h_]; exact Nat.le_refl _)); rintro e w3 ⟨rfl, hm3, hb3, hk3⟩; have HB3 := am hb3; clear hm3 hb3 hk3) | (go_at_call 41; (with_reducible refine (impl_listed.all0 kx _ _ _ l0 x w _ ?side1 ?side2 HC0.out HX.out).mono ?_); (case side1 => repeat (first | exact HB3.out | apply below_alloc | apply pw_below_drewN | apply below_drew1)); (case side2 => exact Kd.C_below HR0.out HB3.out); rintro e w4 ⟨v4, rfl, hr4, hb4⟩; have HR4 := am hr4; have HB4 := am hb4; clear hr4 hb4))
   go_ret2
   exact ⟨_, rfl, HR4.out, HB4.out⟩
/-! ### slices_Equal_int_int: function 28 -/
def slices_Equal_int_int.l0 : Nat → List Int → List Int → Int → Int → Option (Bool)
 | 0, _, _, _, _ => none
 | k + 1, x0, x1, x12, x13 => if x13 < x12 then (if 0 ≤ x13 then (if x13 < (x0.length : Int) then (if x13 < (x1.length : Int) then (if (rd x0 x13) = (rd x1 x13) then (slices_Equal_int_int.l0 k x0 x1 x12 (wrap64 (x13 + 1))) else (some false)) else (none)) else (none)) else (none)) else (some true)
def slices_Equal_int_int.f (k : Nat) (l0 : List Int) (l1 : List Int) : Option (Bool) := if (l0.length : Int) = (l1.length : Int) then (slices_Equal_int_int.l0 k l0 l1 (l0.length : Int) 0) else (some false)
theorem slices_Equal_int_int.mono_l : ∀ k, (∀ y0 y1 y2 y3, LeO (slices_Equal_int_int.l0 k y0 y1 y2 y3) (slices_Equal_int_int.l0 (k + 1) y0 y1 y2 y3))
 | 0 => fun _ _ _ _ r h => by simp [slices_Equal_int_int.l0] at h
 | k + 1 => by
  have ih0 := slices_Equal_int_int.mono_l k
  ·intro y0 y1 y2 y3
   unfold slices_Equal_int_int.l0
   repeat' first | (with_reducible first | exact ih0 _ _ _ _ | exact LeO.refl _ | exact LeO.none _ | refine LeO.ite ?_ ?_ | refine LeO.bind ?_ (fun _ => ?_))
theorem slices_Equal_int_int.mono : ∀ a0 a1 k, LeO (slices_Equal_int_int.f k a0 a1) (slices_Equal_int_int.f (k + 1) a0 a1) := by
 intro a0 a1 k
 have ih0 := slices_Equal_int_int.mono_l k
 unfold slices_Equal_int_int.f
 repeat' first | (with_reducible first | exact ih0 _ _ _ _ | exact LeO.refl _ | exact LeO.none _ | refine LeO.ite ?_ ?_ | refine LeO.bind ?_ (fun _ => ?_))
theorem slices_Equal_int_int.calls (k : Nat) (A0 : Option Addr) (c0 : Nat) (l0 : List Int) (A1 : Option Addr) (c1 : Nat) (l1 : List Int) (r : Bool) (w : World) (hr0 : Kd.C (Kd.int .i64) w A0 l0.length l0) (hc0 : l0.length ≤ c0) (hr1 : Kd.C (Kd.int .i64) w A1 l1.length l1) (hc1 : l1.length ≤ c1) (h : slices_Equal_int_int.f k l0 l1 = some r) :
  Calls Try.prog 28 #[.slice A0 l0.length c0, .slice A1 l1.length c1] w fun e w' => e = .returned (.bool r) ∧ Drawn0 w w' := by
 have HR0 := am hr0
 have HC0 := am hc0
 clear hr0 hc0
 have HR1 := am hr1
 have HC1 := am hc1
 clear hr1 hc1
 have H : (if (l0.length : Int) = (l1.length : Int) then (slices_Equal_int_int.l0 k l0 l1 (l0.length : Int) 0) else (some false)) = some r := h
 clear h
 by_cases c3 : (l0.length : Int) = (l1.length : Int)
 ·rw [if_pos c3] at H
  have c3b0 : ((l0.length : Int) == (l1.length : Int)) = true := beq_iff_eq.mpr c3
  have c3b1 : ((l0.length : Int) != (l1.length : Int)) = false := bne_eq_false_iff_eq.mpr c3
  have c3b2 : (l0.length == l1.length) = true := zq92
  clear c3
  have H' := am H
  clear H
  go_enter Try.func28, Try.ntmps28
  go_wp2
  repeat (go_quiet (fail); try go_wp2)
  go_loopg [13] k (fun kq v13 w' => ∃ (x13_1 : Int), v13 = .int .i64 x13_1 ∧ Aside0 (slices_Equal_int_int.l0 kq l0 l1 (l0.length : Int) x13_1 = some r) ∧ Aside0 (kq ≤ k) ∧ Drawn0 w w')
  case atStart => exact ⟨(0), zq3, H', ⟨Nat.le_refl _⟩, zq4⟩
  case round =>
   clear H'
   try clear c1
   try clear c2
   try clear p2
   try clear c3
   try clear c3b0
   try clear c3b1
   try clear c3b2
   obtain ⟨x13_1, rfl, HA, HK1, ⟨m1, rfl⟩⟩ := hrel
   cases gk with
   | zero => exact absurd HA.out (by simp [slices_Equal_int_int.l0])
   | succ k1 =>
    have H := HA.out
    clear HA
    simp only [slices_Equal_int_int.l0] at H
    by_cases c4 : x13_1 < (l0.length : Int)
    ·rw [if_pos c4] at H
     have c4b0 : decide (x13_1 < (l0.length : Int)) = true := decide_eq_true c4
     clear c4
     by_cases c5 : 0 ≤ x13_1
     ·rw [if_pos c5] at H
      have c5b0 : decide (0 ≤ x13_1) = true := decide_eq_true c5
      clear c5
      by_cases c6 : x13_1 < (l0.length : Int)
      ·rw [if_pos c6] at H
       have c6b0 : decide (x13_1 < (l0.length : Int)) = true := decide_eq_true c6
       clear c6
       by_cases c7 : x13_1 < (l1.length : Int)
       ·rw [if_pos c7] at H
        have c7b0 : decide (x13_1 < (l1.length : Int)) = true := decide_eq_true c7
        clear c7
        by_cases c8 : (rd l0 x13_1) = (rd l1 x13_1)
        ·rw [if_pos c8] at H
         have c8b0 : ((rd l0 x13_1) == (rd l1 x13_1)) = true := beq_iff_eq.mpr c8
         have c8b1 : ((rd l0 x13_1) != (rd l1 x13_1)) = false := bne_eq_false_iff_eq.mpr c8
         clear c8
         have H' := am H
         clear H
         have p252 : 0 ≤ (x13_1 : Int) := of_decide_eq_true zq0
         have q252 : x13_1 < (l0.length : Int) := of_decide_eq_true zq0
         obtain ⟨ad252, e252, hx252_0⟩ := Kd.at_int HR0.out x13_1 p252 q252
         cases e252
         replace p252 := eq_true p252
         replace q252 := eq_true q252
         have p253 : 0 ≤ (x13_1 : Int) := of_decide_eq_true zq0
         have q253 : x13_1 < (l1.length : Int) := of_decide_eq_true zq0
         obtain ⟨ad253, e253, hx253_0⟩ := Kd.at_int HR1.out x13_1 p253 q253
         cases e253
         replace p253 := eq_true p253
         replace q253 := eq_true q253
         go_wp2
         repeat (go_quiet (fail); try go_wp2)
         go_roundg k1
         case measure => have := HK1.out; omega
         case rel => exact ⟨(wrap64 (x13_1 + 1)), zq3, H', ⟨zq32⟩, zq4⟩
        ·rw [if_neg c8] at H
         have c8b0 : ((rd l0 x13_1) == (rd l1 x13_1)) = false := beq_eq_false_iff_ne.mpr c8
         have c8b1 : ((rd l0 x13_1) != (rd l1 x13_1)) = true := bne_iff_ne.mpr c8
         obtain rfl := Option.some.inj H
         have p252 : 0 ≤ (x13_1 : Int) := of_decide_eq_true zq0
         have q252 : x13_1 < (l0.length : Int) := of_decide_eq_true zq0
         obtain ⟨ad252, e252, hx252_0⟩ := Kd.at_int HR0.out x13_1 p252 q252
         cases e252
         replace p252 := eq_true p252
         replace q252 := eq_true q252
         have p253 : 0 ≤ (x13_1 : Int) := of_decide_eq_true zq0
         have q253 : x13_1 < (l1.length : Int) := of_decide_eq_true zq0
         obtain ⟨ad253, e253, hx253_0⟩ := Kd.at_int HR1.out x13_1 p253 q253
         cases e253
         replace p253 := eq_true p253
         replace q253 := eq_true q253
         go_wp2
         repeat (go_quiet (fail); try go_wp2)
         go_ret
         exact ⟨zq3, zq4⟩
       ·rw [if_neg c7] at H
        exact absurd H zq24
      ·rw [if_neg c6] at H
       exact absurd H zq24
     ·rw [if_neg c5] at H
      exact absurd H zq24
    ·rw [if_neg c4] at H
     have c4b0 : decide (x13_1 < (l0.length : Int)) = false := decide_eq_false c4
     clear c4
     obtain rfl := Option.some.inj H
     go_wp2
     repeat (go_quiet (fail); try go_wp2)
     go_ret
     exact ⟨zq3, zq4⟩
 ·rw [if_neg c3] at H
  have c3b0 : ((l0.length : Int) == (l1.length : Int)) = false := beq_eq_false_iff_ne.mpr c3
  have c3b1 : ((l0.length : Int) != (l1.length : Int)) = true := bne_iff_ne.mpr c3
  have c3b2 : (l0.length == l1.length) = false := zq92
  obtain rfl := Option.some.inj H
  go_enter Try.func28, Try.ntmps28
  go_wp2
  repeat (go_quiet (fail); try go_wp2)
  go_ret
  exact ⟨zq3, zq4⟩
/-! ### impl_firsts: function 42 -/
/-- Are two rungs so near that they can't be exchanged? -/
def impl_firsts.near (r : Int) (x : Int) : Bool := !(decide (2 ≤ x - r) || decide (2 ≤ r - x))
def impl_firsts.idx (p : Int → Bool) (l : List Int) : Int := if l.any p then ((l.findIdx p : Nat) : Int) else -1
theorem impl_firsts.idx_hit (p : Int → Bool) (l : List Int) (i : Nat) (hi : i < l.length) (hp : p (rd l i) = true) (hb : ∀ j, j < i → p (rd l j) = false) : impl_firsts.idx p l = (i : Int) := by
 have hg : ∀ j : Nat, ∀ h : j < l.length, rd l j = l[j] := fun j h => by
  show l.getD ((j : Int)).toNat 0 = _
  rw [Int.toNat_natCast, List.getD_eq_getElem?_getD, List.getElem?_eq_getElem h]; rfl
 have h1 : l.any p = true := List.any_eq_true.2 ⟨rd l i, by rw [hg i hi]; exact List.getElem_mem hi, hp⟩
 unfold impl_firsts.idx
 rw [if_pos h1]
 congr 1
 refine (List.findIdx_eq hi).2 ⟨by rw [← hg i hi]; exact hp, fun j hj => ?_⟩
 have := hb j hj
 rw [hg j zq10] at this
 simpa using this
theorem impl_firsts.idx_miss (p : Int → Bool) (l : List Int) (hb : ∀ j, j < l.length → p (rd l j) = false) : impl_firsts.idx p l = -1 := by
 have h1 : ¬ l.any p = true := fun h => by
  obtain ⟨x, hx, hp⟩ := List.any_eq_true.1 h
  obtain ⟨j, hj, rfl⟩ := List.getElem_of_mem hx
  have h2 := hb j hj
  have hg : rd l j = l[j] := by
   show l.getD ((j : Int)).toNat 0 = _
   rw [Int.toNat_natCast, List.getD_eq_getElem?_getD, List.getElem?_eq_getElem hj]; rfl
  rw [hg, hp] at h2
  cases h2
 unfold impl_firsts.idx
 rw [if_neg h1]
theorem impl_firsts.idx_any (p : Int → Bool) (l : List Int) : decide (0 ≤ impl_firsts.idx p l) = l.any p := by
 unfold impl_firsts.idx
 cases h : l.any p
 ·simp
 ·simp [Int.natCast_nonneg]
set_option maxHeartbeats 1000000 in
theorem impl_firsts.apart (a b : Int) (w : World) (ha : 0 ≤ a ∧ a ≤ 1000) (hb : 0 ≤ b ∧ b ≤ 1000) :
  Calls Try.prog 56 #[.int .i64 a, .int .i64 b] w fun e w' => e = .returned (.bool (decide (2 ≤ a - b) || decide (2 ≤ b - a))) ∧ Drawn0 w w' := by
 have h1 : wrap64 (a - b) = a - b := by unfold wrap64; omega
 have h2 : wrap64 (b - a) = b - a := by unfold wrap64; omega
 by_cases c : 2 ≤ a - b
 ·have c0 : decide (2 ≤ a - b) = true := decide_eq_true c
  have c1 : decide (a - b ≥ 2) = true := decide_eq_true c
  clear c ha hb
  go_enter Try.func56, Try.ntmps56
  go_wp2
  go_ret
  exact ⟨by simp [c0], zq4⟩
 ·have c0 : decide (2 ≤ a - b) = false := decide_eq_false c
  have c1 : decide (a - b ≥ 2) = false := decide_eq_false c
  clear c ha hb
  go_enter Try.func56, Try.ntmps56
  go_wp2
  go_ret
  exact ⟨by simp [c0], zq4⟩
set_option maxHeartbeats 1000000 in
/-- The first closure: is the rung near the one that was caught? -/
theorem impl_firsts.clos (x r : Int) (g : Nat) (w : World) (hx : 0 ≤ x ∧ x ≤ 1000) (hr : 0 ≤ r ∧ r ≤ 1000) (hc : w.cell? ⟨g, 0, none⟩ = some (.int .i64 r)) :
  Calls Try.prog 55 #[.int .i64 x, .pointer (some ⟨g, 0, none⟩)] w fun e w' => e = .returned (.bool (impl_firsts.near r x)) ∧ Drawn0 w w' := by
 have HX := am hx
 have HR := am hr
 clear hx hr
 go_enter Try.func55, Try.ntmps55
 go_wp2_with (go_at_call 56; (with_reducible refine (impl_firsts.apart x r _ HX.out HR.out).mono ?_); rintro e w' ⟨rfl, ⟨nd, rfl⟩⟩)
 go_ret
 exact ⟨by simp [impl_firsts.near], zq4⟩
theorem impl_firsts.rd_in (l : List Int) (k : Nat) (h : k < l.length) : rd l (k : Int) ∈ l := by
 have : rd l (k : Int) = l[k] := by
  show l.getD ((k : Int)).toNat 0 = _
  rw [Int.toNat_natCast, List.getD_eq_getElem?_getD, List.getElem?_eq_getElem h]; rfl
 rw [this]; exact List.getElem_mem h
def impl_firsts.Gives (n : Int) (g : Nat) (w : World) : Prop := ∀ (x : Int) (q : Nat), 0 ≤ x ∧ x ≤ 1000 → Calls Try.prog 55 #[.int .i64 x, .pointer (some ⟨g, 0, none⟩)] (w.drewN q) fun e w' => e = .returned (.bool (impl_firsts.near n x)) ∧ Drawn0 (w.drewN q) w'
set_option maxHeartbeats 1000000 in
set_option maxRecDepth 100000 in
theorem impl_firsts.index (A0 : Option Addr) (c0 : Nat) (l0 : List Int) (n : Int) (g : Nat) (w : World) (hr0 : Kd.C (Kd.int .i64) w A0 l0.length l0) (hc0 : l0.length ≤ c0) (hG : impl_firsts.Gives n g w) (hs : ∀ x ∈ l0, 0 ≤ x ∧ x ≤ 1000) :
  Calls Try.prog 65 #[.slice A0 l0.length c0, .func (.func 55) #[] #[.pointer (some ⟨g, 0, none⟩)]] w fun e w' => e = .returned (.int .i64 (impl_firsts.idx (impl_firsts.near n) l0)) ∧ Drawn0 w w' := by
 have HR0 := am hr0
 have HG := am hG
 have HN : l0.length ≤ 9223372036854775807 := hr0.2.1
 have HS := am hs
 clear hr0 hc0 hG hs
 go_enter Try.func65, Try.ntmps65
 go_wp2
 go_loopg [5, 8] l0.length (fun gg _ s8 wr => ∃ kk q : Nat, kk ≤ l0.length ∧ l0.length - kk ≤ gg ∧ s8 = .int .i64 kk ∧ wr = w.drewN q ∧ Aside0 (∀ j : Nat, j < kk → impl_firsts.near n (rd l0 (j : Int)) = false))
 case atStart => exact ⟨0, 0, Nat.zero_le _, zq10, rfl, rfl, ⟨fun j hj => absurd hj (Nat.not_lt_zero _)⟩⟩
 case round =>
  obtain ⟨kk, q, hkk, hg, rfl, rfl, A⟩ := hrel
  by_cases hlt : kk < l0.length
  ·have hltz : (kk : Int) < (l0.length : Int) := zq10
   obtain ⟨ad1, e1, hx0⟩ := Kd.at_int HR0.out (kk : Int) (Int.natCast_nonneg kk) hltz
   cases e1
   have hx : w.cell? (ad1.add kk) = some (.int .i64 (rd l0 (kk : Int))) := by rw [Int.toNat_natCast] at hx0; exact hx0
   clear hx0
   cases hq : impl_firsts.near n (rd l0 (kk : Int)) with
   | true =>
    have hcall := fun q => HG.out (rd l0 (kk : Int)) q (HS.out _ (impl_firsts.rd_in l0 kk hlt))
    rw [hq] at hcall
    have HC := am hcall
    have HQ := am hq
    clear hcall hq
    go_wp2_with (go_at_call 55; refine (HC.out _).mono ?_; rintro e w' ⟨rfl, ⟨q', rfl⟩⟩)
    go_ret
    refine ⟨?_, zq4⟩
    rw [impl_firsts.idx_hit _ l0 kk hlt HQ.out A.out]; rfl
   | false =>
    have hcall := fun q => HG.out (rd l0 (kk : Int)) q (HS.out _ (impl_firsts.rd_in l0 kk hlt))
    rw [hq] at hcall
    have HC := am hcall
    have HQ := am hq
    clear hcall hq
    go_wp2_with (go_at_call 55; refine (HC.out _).mono ?_; rintro e w' ⟨rfl, ⟨q', rfl⟩⟩)
    go_roundg (l0.length - (kk + 1))
    case measure => omega
    case rel =>
     refine ⟨kk + 1, _, zq10, zq10, by go_num, rfl, ⟨fun j hj => ?_⟩⟩
     by_cases e : j = kk
     ·subst e; exact HQ.out
     ·exact A.out j zq10
  ·have hltz : ¬ (kk : Int) < (l0.length : Int) := zq10
   have hk : kk = l0.length := zq10
   subst hk
   go_wp2
   go_ret
   refine ⟨?_, zq4⟩
   rw [impl_firsts.idx_miss _ l0 A.out]; rfl
set_option maxHeartbeats 1000000 in
theorem impl_firsts.contains (A0 : Option Addr) (c0 : Nat) (l0 : List Int) (n : Int) (g : Nat) (r : Bool) (w : World) (hr0 : Kd.C (Kd.int .i64) w A0 l0.length l0) (hc0 : l0.length ≤ c0) (hG : impl_firsts.Gives n g w) (hs : ∀ x ∈ l0, 0 ≤ x ∧ x ≤ 1000) (h : l0.any (impl_firsts.near n) = r) :
  Calls Try.prog 54 #[.slice A0 l0.length c0, .func (.func 55) #[] #[.pointer (some ⟨g, 0, none⟩)]] w fun e w' => e = .returned (.bool r) ∧ Drawn0 w w' := by
 have HI := am (impl_firsts.index A0 c0 l0 n g w hr0 hc0 hG hs)
 have HA := am (impl_firsts.idx_any (impl_firsts.near n) l0)
 have HH := am h
 clear hr0 hG h hs
 go_enter Try.func54, Try.ntmps54
 go_wp2_with (go_at_call 65; (with_reducible refine HI.out.mono ?_); rintro e w' ⟨rfl, ⟨nd, rfl⟩⟩)
 go_ret
 exact ⟨by rw [HA.out, HH.out]; rfl, zq4⟩
/-- Is the rung at place i brought to the top by slides? -/
def impl_firsts.free (l : List Int) (i : Nat) : Bool := !((l.take i).any (impl_firsts.near (rd l (i : Int))))
def impl_firsts.outs (l : List Int) (i : Nat) : List Nat := (List.range i).filter (impl_firsts.free l)
def impl_firsts.small (l : List Int) : Bool := l.all fun x => decide (0 ≤ x) && decide (x ≤ 1000)
theorem impl_firsts.small_mem {l : List Int} (h : impl_firsts.small l = true) : ∀ x ∈ l, 0 ≤ x ∧ x ≤ 1000 := fun x hx => by
 have := List.all_eq_true.1 h x hx
 simpa using this
/-- The places, as they are handed to the sort. -/
abbrev impl_firsts.Pl (l : List Int) := Fin (l.length - 1 + 1)
def impl_firsts.enc {m : Nat} (x : Fin m) : Value := .int .i64 (x.val : Int)
def impl_firsts.cf (l : List Int) (x y : impl_firsts.Pl l) : Int := rd l (x.val : Int) - rd l (y.val : Int)
def impl_firsts.arr (l : List Int) : Array (impl_firsts.Pl l) := ((impl_firsts.outs l l.length).map fun i => Fin.ofNat (l.length - 1 + 1) i).toArray
def impl_firsts.sorted (l : List Int) : Array (impl_firsts.Pl l) := Sort.insertionSort (ltOf (impl_firsts.cf l)) (impl_firsts.arr l) 0 (impl_firsts.arr l).size
def impl_firsts.f (l0 : List Int) : Option (List Int) := if 0 < l0.length ∧ l0.length ≤ 1000 ∧ impl_firsts.small l0 = true ∧ (impl_firsts.outs l0 l0.length).length ≤ 12 then some ((impl_firsts.sorted l0).toList.map fun x => (x.val : Int)) else none
set_option maxHeartbeats 2000000 in
/-- The second closure: the difference of two rungs. -/
theorem impl_firsts.cmp (l : List Int) (hs : ∀ x ∈ l, 0 ≤ x ∧ x ≤ 1000) (x y : Nat) (hx : x < l.length) (hy : y < l.length) (g : Nat) (A : Option Addr) (c : Nat) (w : World) (hcell : w.cell? ⟨g, 0, none⟩ = some (.slice A l.length c)) (hr : Kd.C (Kd.int .i64) w A l.length l) :
  Calls Try.prog 58 #[.int .i64 (x : Int), .int .i64 (y : Int), .pointer (some ⟨g, 0, none⟩)] w fun e w' => e = .returned (.int .i64 (rd l (x : Int) - rd l (y : Int))) ∧ Drawn0 w w' := by
 have h1 := hs _ (impl_firsts.rd_in l x hx)
 have h2 := hs _ (impl_firsts.rd_in l y hy)
 have hw : wrap64 (rd l (x : Int) - rd l (y : Int)) = rd l (x : Int) - rd l (y : Int) := by unfold wrap64; omega
 obtain ⟨xi, hxi⟩ : ∃ xi : Int, xi = (x : Int) := ⟨_, rfl⟩
 obtain ⟨yi, hyi⟩ : ∃ yi : Int, yi = (y : Int) := ⟨_, rfl⟩
 rw [← hxi, ← hyi] at hw ⊢
 have p171 : 0 ≤ xi := zq10
 have q171 : xi < (l.length : Int) := zq10
 have p172 : 0 ≤ yi := zq10
 have q172 : yi < (l.length : Int) := zq10
 obtain ⟨ad, ead, hx0⟩ := Kd.at_int hr xi p171 q171
 cases ead
 obtain ⟨ad2, ead2, hy0⟩ := Kd.at_int hr yi p172 q172
 obtain rfl : ad = ad2 := (by injection ead2)
 obtain ⟨u, hu⟩ : ∃ u, u = rd l xi := ⟨_, rfl⟩
 obtain ⟨v, hv⟩ : ∃ v, v = rd l yi := ⟨_, rfl⟩
 rw [← hu] at hx0 hw ⊢
 rw [← hv] at hy0 hw ⊢
 have hwi : (IntKind.i64.wrap (u - v)) = u - v := (i64_w _).trans hw
 clear hu hv ead2 hr h1 h2 hxi hyi hx hy hs
 replace p171 := eq_true p171
 replace q171 := eq_true q171
 replace p172 := eq_true p172
 replace q172 := eq_true q172
 go_enter Try.func58, Try.ntmps58
 go_wp2
 repeat (go_quiet (fail); try go_wp2)
 go_ret
 exact ⟨zq3, zq4⟩
theorem impl_firsts.encs_map (l : List Int) : encs (Value.int .i64) l = l.map (Value.int .i64) := by simp [encs]
theorem impl_firsts.fin (g : Nat) (c : Array Value) (W : World) (base n' cap : Nat) (P' : Nat → Prop) (r : List Int) (hh : W.heap[g]? = some (.cells c 3 (0, 0))) (hc : c.size = cap) (hr : r.length = n') (hn : n' ≤ cap) (hcm : cap ≤ maxLen) (hb : base ≤ g) (hP : P' g) (ht : c.toList.take n' = r.map (Value.int .i64)) : Kd.R (Kd.int .i64) 3 W base P' (.slice (some ⟨g, 0, none⟩) n' cap) r := by
 subst hr
 refine Kd.R_of_own (enc := Value.int .i64) (h1 := fun _ => rfl) ?_ (fun k hk => ?_)
 ·refine ⟨by rw [encs_length, Nat.mul_one], .inr ⟨g, cap, c, rfl, hb, hh, hn, hcm, zq10, ?_⟩⟩
  rw [Nat.mul_one, ht, impl_firsts.encs_map]
 ·simp only [Value.ownBlock] at hk
  obtain rfl : g = k := by simpa using hk
  exact hP
theorem impl_firsts.own {w : World} {base : Nat} {P' : Nat → Prop} {v : Value} {l : List Int} (h : Kd.R (Kd.int .i64) 3 w base P' v l) : (v = .slice none 0 0 ∧ l = []) ∨ ∃ g cap cur, v = .slice (some ⟨g, 0, none⟩) l.length cap ∧ base ≤ g ∧ P' g ∧ w.heap[g]? = some (.cells cur 3 (0, 0)) ∧ l.length ≤ cap ∧ cap ≤ maxLen ∧ cur.size = cap ∧ cur.toList.take l.length = l.map (Value.int .i64) := by
 rcases (Kd.own_of_R (enc := Value.int .i64) (h1 := fun _ => rfl) h).2 with ⟨hv, hn⟩ | ⟨g, cap, cur, hv, hb, hh, hnc, hcm, hcs, ht⟩
 ·exact .inl ⟨by rw [hv], List.eq_nil_of_length_eq_zero hn⟩
 ·refine .inr ⟨g, cap, cur, hv, hb, h.1 g (by rw [hv]; simp [Value.ownBlock]), hh, hnc, hcm, zq10, ?_⟩
  rw [Nat.mul_one, impl_firsts.encs_map] at ht
  exact ht
def impl_firsts.ints (l : List Nat) : List Int := l.map fun i : Nat => ((i : Nat) : Int)
theorem impl_firsts.outs_succ (l : List Int) (i : Nat) : impl_firsts.outs l (i + 1) = if impl_firsts.free l i = true then impl_firsts.outs l i ++ [i] else impl_firsts.outs l i := by
 unfold impl_firsts.outs
 rw [List.range_succ, List.filter_append]
 by_cases h : impl_firsts.free l i = true
 ·rw [if_pos h, List.filter_cons, if_pos h]; rfl
 ·rw [if_neg h, List.filter_cons, if_neg h]; simp
theorem impl_firsts.hlen (n : Nat) (W : World) (h : n ≤ 12) : Calls Try.prog (Try.laysSort_ren.f 15) #[.int .u64 n] W fun e w' => (∃ l : Int, e = .returned (.int .i64 l)) ∧ w' = W :=
 (Any.bits_Len Try.laysLen n W zq10 zq10).mono fun _ _ ⟨he, hw⟩ => ⟨⟨_, he⟩, hw⟩
theorem impl_firsts.sw_heap {m : Nat} (w : World) (blk n : Nat) (dk : Array (Fin (m + 1))) (os : Array Obj) (k : Nat) (h1 : k ≠ blk) (h2 : k < w.heap.size) : (sortWorld (impl_firsts.enc (m := m + 1)) w blk 0 n dk os).heap[k]? = w.heap[k]? := by
 unfold sortWorld
 have hs : (Sort.putRow (impl_firsts.enc (m := m + 1)) (Sort.ahead w n) blk 0 dk).heap.size = w.heap.size := by simp [Sort.putRow, Sort.mapBlock, Sort.ahead]
 rw [Sort.heap_grow_old _ _ (by rw [hs]; exact h2)]
 simp only [Sort.putRow, Sort.mapBlock, Sort.ahead, Array.getElem?_modify, if_neg (Ne.symm h1)]
theorem impl_firsts.swo (l : List Int) : Sort.SWO (ltOf (impl_firsts.cf l)) where
 irrefl := fun x => by simp [ltOf, impl_firsts.cf]
 trans := fun x y z h1 h2 => by
  have h1' := of_decide_eq_true h1
  have h2' := of_decide_eq_true h2
  refine decide_eq_true ?_
  unfold impl_firsts.cf at *
  omega
 ntrans := fun x y z h1 h2 => by
  have h1' := of_decide_eq_false h1
  have h2' := of_decide_eq_false h2
  refine decide_eq_false ?_
  unfold impl_firsts.cf at *
  omega
theorem impl_firsts.arr_enc (l : List Int) (h : 0 < l.length) : (impl_firsts.arr l).toList.map (impl_firsts.enc) = (impl_firsts.ints (impl_firsts.outs l l.length)).map (Value.int .i64) := by
 unfold impl_firsts.arr impl_firsts.ints
 simp only [List.map_map]
 refine List.map_congr_left fun i hi => ?_
 have h1 : i < l.length := by
  have := (List.mem_filter.1 hi).1
  exact List.mem_range.1 this
 have h2 : (Fin.ofNat (l.length - 1 + 1) i).val = i := by
  show i % (l.length - 1 + 1) = i
  exact Nat.mod_eq_of_lt zq10
 show Value.int .i64 ((Fin.ofNat (l.length - 1 + 1) i).val : Int) = Value.int .i64 ((i : Nat) : Int)
 rw [h2]
theorem impl_firsts.put_take {m : Nat} (d : Array (Fin (m + 1))) (cur : Array Value) (h : d.size ≤ cur.size) : (Sort.putCells (impl_firsts.enc (m := m + 1)) 0 d cur).toList.take d.size = d.toList.map (impl_firsts.enc) := by
 apply List.ext_getElem?
 intro j
 rw [List.getElem?_take]
 by_cases hj : j < d.size
 ·rw [if_pos hj, Array.getElem?_toList]
  simp only [Sort.putCells, Array.getElem?_mapIdx, List.getElem?_map, Array.getElem?_toList]
  rw [Array.getElem?_eq_getElem (show j < cur.size by omega), Array.getElem?_eq_getElem hj]
  simp only [Option.map_some]
  rw [if_pos ⟨Nat.zero_le _, zq10⟩, Nat.sub_zero, getElem!_pos d j hj]
 ·rw [if_neg hj, List.getElem?_map, List.getElem?_eq_none (by rw [Array.length_toList]; omega)]
  rfl
theorem impl_firsts.calls (A0 : Option Addr) (c0 : Nat) (l0 : List Int) (r : List Int) (w : World) (hr0 : Kd.C (Kd.int .i64) w A0 l0.length l0) (hc0 : l0.length ≤ c0) (h : impl_firsts.f l0 = some r) :
  Calls Try.prog 42 #[.slice A0 l0.length c0] w fun e w' => ∃ v0_ : Value, e = .returned (v0_) ∧ Kd.R (Kd.int .i64) 3 w' w.heap.size (fun _ => True) v0_ r ∧ Below w.heap.size w w' := by
 unfold impl_firsts.f at h
 split at h
 ·rename_i hcond
  obtain ⟨hpos, h1000, hsm, h12⟩ := hcond
  obtain rfl := Option.some.inj h
  have hmem := impl_firsts.small_mem hsm
  obtain ⟨ad, ead, _⟩ := Kd.at_int hr0 0 zq33 zq10
  subst ead
  obtain ⟨i0, hi0, _, hsz0, _⟩ := info_parts info3
  have HI0 := am hi0
  have HR := am hr0
  have HC := am hc0
  have HM := am hmem
  have HL := am (And.intro hpos h1000)
  have H12 := am h12
  clear hr0 hc0 hmem hpos h1000 h12 h hsm hi0 hsz0
  go_enter Try.func42, Try.ntmps42
  go_wp2_with (first | ((with_reducible refine gate_dst (N := 1) rfl ?_); refine zE 1 (cs := #[.slice (some ad) l0.length c0]) 22 ?_; intro gb hg w1 hbox hb; have HBX := am hbox; have HB1 := am hb; have HG := am hg; clear hbox hb hg) | ((with_reducible refine gate_dst (N := 6) rfl ?_); refine Kd.R_lit (Kd.int .i64) _ 3 ?hg (N := 6) ?hd (xs := ([] : List Int)) (inner := []) (ok := fun _ => True) (okp := fun _ => True) ?hr ?hp (fun _ hk => hk) trivial (Below.refl _ _) (Nat.le_refl _) zq24 ?_; (case hd => rfl); (case hg => rfl); (case hr => exact zq8); (case hp => exact (Reps.none _ _)); intro v6 w2 ho3 hb_ hg_ hnew_; have hb := below_step (w := w1) zq23 hb_; clear hg_ hnew_ hb_; have HO := am (Kd.R_lower (Kd.R_mono (Kd.R_bound ho3) (fun k_ h_ => (show k_ ≠ gb from fun e_ => by have h1_ := blk_lt HBX.out; have h2_ := h_.2.1; exact absurd (Nat.lt_of_lt_of_le h1_ h2_) (by rw [e_]; exact Nat.lt_irrefl gb)))) (show w.heap.size ≤ _ from HB1.out.size)); have HB2 := am (below_step HB1.out hb); have hbx2 := blk_below HBX.out hb; have HBX2 := am hbx2; have hcell0 := blk_cell hbx2 0; clear hb ho3 hbx2))
  clear hcell0
  go_loopg [3, 9] l0.length (fun gg v3 v9 w' => ∃ (i : Nat) (x9 : Int), v9 = .int .i64 x9 ∧ Aside0 (x9 = (i : Int)) ∧ i ≤ l0.length ∧ l0.length - i ≤ gg ∧ Aside0 (Kd.R (Kd.int .i64) 3 w' w.heap.size (fun k_ => k_ ≠ gb) v3 (impl_firsts.ints (impl_firsts.outs l0 i))) ∧ Aside0 (w'.heap[gb]? = some (.cells #[.slice (some ad) l0.length c0] 22 (0, 0))) ∧ Aside0 (Below w.heap.size w w'))
  case atStart => exact ⟨0, 0, rfl, ⟨rfl⟩, Nat.zero_le _, zq10, ⟨HO.out⟩, HBX2, HB2⟩
  case round =>
   clear HO HBX2 HB2 HBX HB1
   obtain ⟨i, x9, rfl, HX9, hi, hgk, HO, HBX, HB⟩ := hrel
   by_cases hlt : i < l0.length
   ·have p171 : 0 ≤ x9 := by have := HX9.out; omega
    have q171 : x9 < (l0.length : Int) := by have := HX9.out; omega
    obtain ⟨ad1, ead1, hx0⟩ := Kd.at_int (Kd.C_below HR.out HB.out) x9 p171 q171
    obtain rfl : ad = ad1 := (by injection ead1)
    obtain ⟨x, hx⟩ : ∃ x, x = rd l0 x9 := ⟨_, rfl⟩
    rw [← hx] at hx0
    have hcb := blk_cell HBX.out 0
    obtain ⟨y, hy⟩ : ∃ y, y = l0.take i := ⟨_, rfl⟩
    have hyl : y.length = x9.toNat := by rw [hy, List.length_take]; have := HX9.out; omega
    have hcut := cut_to (P := Try.prog) 22 3 .i64 Try.underlying22 HI0.out (some ad) l0.length c0 x9 p171 zq10 HC.out
    rw [← hyl] at hcut
    have HYL := am (show y.length ≤ c0 from by have h1 := HC.out; rw [hyl]; omega)
    have HYM := am (show ∀ z ∈ y, 0 ≤ z ∧ z ≤ 1000 from fun z hz => HM.out z (by rw [hy] at hz; exact List.mem_of_mem_take hz))
    have HXM := am (show 0 ≤ x ∧ x ≤ 1000 from by rw [hx, HX9.out]; exact HM.out _ (impl_firsts.rd_in l0 i hlt))
    have HCY := am (show ∀ W, Below w.heap.size w W → Kd.C (Kd.int .i64) W (some ad) y.length y from fun W hW => by rw [hy]; exact Kd.C_take (Kd.C_below HR.out hW) zq10)
    have HOL := am (show (impl_firsts.ints (impl_firsts.outs l0 i)).length ≤ 1000 from by
     have h1 : (impl_firsts.outs l0 i).length ≤ (List.range i).length := List.length_filter_le _ _
     rw [List.length_range] at h1
     unfold impl_firsts.ints
     rw [List.length_map]
     have := HL.out.2; omega)
    have hany : y.any (impl_firsts.near x) = !(impl_firsts.free l0 i) := by rw [hy, hx, HX9.out]; unfold impl_firsts.free; rw [Bool.not_not]
    have HOS := am (impl_firsts.outs_succ l0 i)
    have hlt1000 := HL.out.2
    replace p171 := eq_true p171
    replace q171 := eq_true q171
    by_cases hf : impl_firsts.free l0 i = true
    ·rw [hf] at hany
     have HANY := am hany
     have HF := am hf
     clear hy hyl hx hany hf
     go_wp2_with (first | ((with_reducible refine gate_dst (N := 5) rfl ?_); refine zE 5 (cs := #[.int .i64 0]) 3 ?_; intro gr hg w5 hbox hb_; have hb := below_step (w := wr) zq23 hb_; have HRB := am hbox; have hfr := blk_frozen hbox 0; have hrb0 : w5.cell? ⟨gr, 0, none⟩ = some (.int .i64 0) := blk_cell hbox 0; have HRL := am (show gb < gr ∧ w.heap.size ≤ gr from by have h1_ := blk_lt HBX.out; have h2_ := HB.out.size; have h3_ : gr = wr.heap.size := hg; omega); have HO5 := am (Kd.R_below (Kd.R_mono (Kd.R_bound HO.out) (fun k_ h_ => (show k_ ≠ gb ∧ k_ < gr from ⟨h_.1, by have h3_ : gr = wr.heap.size := hg; have h4_ := h_.2.2.1; omega⟩))) hb); have HBX5 := am (blk_below HBX.out hb); have HB5 := am (below_step HB.out hb); clear hbox hb hb_ hg) | ((with_reducible refine gate_store (t := 3) (p := 5) rfl ?_); refine store_event (t := 3) (p := 5) (v := ?vo) (w1 := (w5.setCell ⟨gr, 0, none⟩ (.int .i64 x))) ?hg ?ho ?hn ?hr ?_; (case ho => rfl); (case hg => rfl); (case hn => rfl); (case hr => exact zq8); intro w8 hw; have hb8 : w8.heap[gb]? = some (.cells #[.slice (some ad) l0.length c0] 22 (0, 0)) := (by rw [hw]; exact blk_far HBX5.out (by have := HRL.out; show gb ≠ gr; omega) _); have hcb8 : w8.cell? ⟨gb, 0, none⟩ = some (.slice (some ad) l0.length c0) := blk_cell hb8 0; have HBX8 := am hb8; have HRC := am (show w8.cell? ⟨gr, 0, none⟩ = some (.int .i64 x) from by rw [hw]; exact blk_cell (blk_put HRB.out 0 _ rfl) 0); have HO8 := am (show Kd.R (Kd.int .i64) 3 w8 w.heap.size (fun k_ => k_ ≠ gb) u3 (impl_firsts.ints (impl_firsts.outs l0 i)) from zq94); have HB8 := am (show Below w.heap.size w w8 from by rw [hw]; exact below_set HB5.out HRL.out.2); clear hw hb8) | (go_at_call 54; (with_reducible refine (impl_firsts.contains (some ad) c0 y x gr false _ ?side1 ?side2 ?side3 ?side4 ?side5).mono ?_); (case side1 => exact (show Kd.C (Kd.int .i64) _ (some ad) y.length y from by have h_ := HCY.out w8 HB8.out; exact h_)); (case side2 => exact HYL.out); (case side3 => exact fun z_ q_ hz_ => impl_firsts.clos z_ x gr _ hz_ HXM.out HRC.out); (case side4 => exact HYM.out); (case side5 => exact HANY.out); rintro e w' ⟨rfl, ⟨nd, rfl⟩⟩) | ((with_reducible refine gate_builtin (b := .append) (xs := #[.tmp 20, .tmp 22]) rfl ?_); at_builtin; refine Kd.R_append (Kd.int .i64) (w0 := w) w.heap.size rfl (.tmp 20) (.tmp 22) 22 3 (.int .i64 0) 8 rfl Try.underlying22 info3 rfl zq33 zq10 u3 (impl_firsts.ints (impl_firsts.outs l0 i)) x9 [.int .i64 x9] (fun k_ => k_ ≠ gb) (fun _ => False) rfl rfl ?aP (fun _ hk => hk.elim) ?aF ?aO ?aB ?aS ?aL ?_; (case aP => exact rfl); (case aB => exact (by repeat (first | exact HB8.out | apply below_alloc | apply pw_below_drewN | apply below_drew1))); (case aF => exact (fun k_ h_ => by have h1_ := blk_lt HBX8.out; show k_ ≠ gb; have h2_ : w8.heap.size ≤ k_ := h_; omega)); (case aO => exact (pRq4 HO8)); (case aS => exact (show w.heap.size ≤ w8.heap.size from HB8.out.size)); (case aL => have := HOL.out; omega); intro v25 w11 ho hb hg hat; have HO9 := am ho; have HB9 := am hb; have HBX9 := am (blk_grown (w := w8) HBX8.out (row := u3.ownBlock) ⟨hg.os, hg.tape, hg.output, hg.size, hg.block⟩ (fun h_ => (HO8.out.1 gb h_.symm) rfl)); clear ho hb hg hat))
     go_roundg (l0.length - (i + 1))
     case measure => omega
     case rel => exact ⟨i + 1, wrap64 (x9 + 1), zq93, ⟨by have := HX9.out; unfold wrap64; omega⟩, zq10, zq10, ⟨by rw [HOS.out, if_pos HF.out]; have h_ := HO9.out; unfold impl_firsts.ints at h_ ⊢; rw [List.map_append]; rw [HX9.out] at h_; exact h_⟩, HBX9, HB9⟩
    ·have hf0 := Bool.eq_false_iff.2 hf
     rw [hf0] at hany
     have HANY := am hany
     have HF := am hf
     clear hy hyl hx hany hf hf0
     go_wp2_with (first | ((with_reducible refine gate_dst (N := 5) rfl ?_); refine zE 5 (cs := #[.int .i64 0]) 3 ?_; intro gr hg w5 hbox hb_; have hb := below_step (w := wr) zq23 hb_; have HRB := am hbox; have hfr := blk_frozen hbox 0; have hrb0 : w5.cell? ⟨gr, 0, none⟩ = some (.int .i64 0) := blk_cell hbox 0; have HRL := am (show gb < gr ∧ w.heap.size ≤ gr from by have h1_ := blk_lt HBX.out; have h2_ := HB.out.size; have h3_ : gr = wr.heap.size := hg; omega); have HO5 := am (Kd.R_below (Kd.R_mono (Kd.R_bound HO.out) (fun k_ h_ => (show k_ ≠ gb ∧ k_ < gr from ⟨h_.1, by have h3_ : gr = wr.heap.size := hg; have h4_ := h_.2.2.1; omega⟩))) hb); have HBX5 := am (blk_below HBX.out hb); have HB5 := am (below_step HB.out hb); clear hbox hb hb_ hg) | ((with_reducible refine gate_store (t := 3) (p := 5) rfl ?_); refine store_event (t := 3) (p := 5) (v := ?vo) (w1 := (w5.setCell ⟨gr, 0, none⟩ (.int .i64 x))) ?hg ?ho ?hn ?hr ?_; (case ho => rfl); (case hg => rfl); (case hn => rfl); (case hr => exact zq8); intro w8 hw; have hb8 : w8.heap[gb]? = some (.cells #[.slice (some ad) l0.length c0] 22 (0, 0)) := (by rw [hw]; exact blk_far HBX5.out (by have := HRL.out; show gb ≠ gr; omega) _); have hcb8 : w8.cell? ⟨gb, 0, none⟩ = some (.slice (some ad) l0.length c0) := blk_cell hb8 0; have HBX8 := am hb8; have HRC := am (show w8.cell? ⟨gr, 0, none⟩ = some (.int .i64 x) from by rw [hw]; exact blk_cell (blk_put HRB.out 0 _ rfl) 0); have HO8 := am (show Kd.R (Kd.int .i64) 3 w8 w.heap.size (fun k_ => k_ ≠ gb) u3 (impl_firsts.ints (impl_firsts.outs l0 i)) from zq94); have HB8 := am (show Below w.heap.size w w8 from by rw [hw]; exact below_set HB5.out HRL.out.2); clear hw hb8) | (go_at_call 54; (with_reducible refine (impl_firsts.contains (some ad) c0 y x gr true _ ?side1 ?side2 ?side3 ?side4 ?side5).mono ?_); (case side1 => exact (show Kd.C (Kd.int .i64) _ (some ad) y.length y from by have h_ := HCY.out w8 HB8.out; exact h_)); (case side2 => exact HYL.out); (case side3 => exact fun z_ q_ hz_ => impl_firsts.clos z_ x gr _ hz_ HXM.out HRC.out); (case side4 => exact HYM.out); (case side5 => exact HANY.out); rintro e w' ⟨rfl, ⟨nd, rfl⟩⟩))
     go_roundg (l0.length - (i + 1))
     case measure => omega
     case rel => exact ⟨i + 1, wrap64 (x9 + 1), zq93, ⟨by have := HX9.out; unfold wrap64; omega⟩, zq10, zq10, ⟨by rw [HOS.out, if_neg HF.out]; exact (pRq4 HO8)⟩, ⟨by (with_reducible repeat (first | refine blk_drewN ?_ _ | refine blk_drew ?_ | refine blk_alloc ?_ _)); exact HBX8.out⟩, ⟨(by repeat (first | exact HB8.out | apply below_alloc | apply pw_below_drewN | apply below_drew1))⟩⟩
   ·have hi2 : i = l0.length := zq10
    have q171 : ¬ x9 < (l0.length : Int) := by have := HX9.out; omega
    have q172 : decide (x9 < (l0.length : Int)) = false := decide_eq_false q171
    rw [hi2] at HO
    have hpos := HL.out.1
    have hae := impl_firsts.arr_enc l0 hpos
    have hne : 0 < (impl_firsts.ints (impl_firsts.outs l0 l0.length)).length := by
     have h0 : 0 ∈ impl_firsts.outs l0 l0.length := List.mem_filter.2 ⟨List.mem_range.2 hpos, by unfold impl_firsts.free; rw [List.take_zero]; rfl⟩
     unfold impl_firsts.ints
     rw [List.length_map]
     exact List.length_pos_of_mem h0
    have hsz : (impl_firsts.arr l0).size = (impl_firsts.ints (impl_firsts.outs l0 l0.length)).length := by
     have := congrArg List.length hae
     simpa using this
    have hsz12 : (impl_firsts.arr l0).size ≤ 12 := by rw [hsz]; unfold impl_firsts.ints; rw [List.length_map]; exact H12.out
    rcases impl_firsts.own HO.out with ⟨_, e⟩ | ⟨g, cap, cur, eu, hgb, hgP, hgh, hgn, hgm, hgs, hgt⟩
    ·rw [e] at hne; simp at hne
    ·subst eu
     rw [← hsz] at hgn hgt ⊢
     have hH : Sort.Holds (impl_firsts.enc (m := l0.length - 1 + 1)) wr g 0 (impl_firsts.arr l0) := by
      intro j hj
      refine ⟨?_, blk_frozen hgh _⟩
      rw [Nat.zero_add, blk_cell hgh j]
      have h1 : (cur.toList.take (impl_firsts.arr l0).size)[j]? = ((impl_firsts.arr l0).toList.map (impl_firsts.enc))[j]? := by rw [hgt, hae]
      rw [List.getElem?_take, if_pos hj, Array.getElem?_toList] at h1
      rw [h1, List.getElem?_map, Array.getElem?_toList, Array.getElem?_eq_getElem hj, getElem!_pos _ j hj]
      rfl
     have hcmp : CmpReads Try.prog 58 #[.pointer (some ⟨gb, 0, none⟩)] (impl_firsts.enc (m := l0.length - 1 + 1)) (impl_firsts.cf l0) g 0 (impl_firsts.arr l0).size wr := by
      intro m os dk hdk x y
      have hgw : w.heap.size ≤ g := hgb
      have hgbg : gb ≠ g := fun e_ => hgP e_.symm
      have hwh : ∀ k, k < w.heap.size → (sortWorld (impl_firsts.enc (m := l0.length - 1 + 1)) wr g 0 m dk os).heap[k]? = w.heap[k]? := fun k hk => (impl_firsts.sw_heap wr g m dk os k zq10 (Nat.lt_of_lt_of_le hk HB.out.size)).trans (HB.out.block k hk)
      have hcb : (sortWorld (impl_firsts.enc (m := l0.length - 1 + 1)) wr g 0 m dk os).cell? ⟨gb, 0, none⟩ = some (.slice (some ad) l0.length c0) := (World.cell?_of_block (impl_firsts.sw_heap wr g m dk os gb hgbg (blk_lt HBX.out))).trans (blk_cell HBX.out 0)
      have hq := impl_firsts.cmp l0 HM.out x.val y.val (by have := x.isLt; omega) (by have := y.isLt; omega) gb (some ad) c0 _ hcb ((Kd.heap_int .i64).C hwh HR.out)
      refine Calls.mono hq ?_
      rintro e w' ⟨rfl, ⟨q, rfl⟩⟩
      exact ⟨rfl, q, rfl⟩
     have eg : ∀ args w, (callFunc 58 args).run Try.prog w = .ok (.enter 58 args) w := enters_of Try.func58 zq20 rfl
     have hsort := Any.slices_SortFunc_small Try.laysSort (impl_firsts.enc (m := l0.length - 1 + 1)) (fun _ => rfl) (impl_firsts.cf l0) 58 #[.pointer (some ⟨gb, 0, none⟩)] g 0 cap (impl_firsts.arr l0) wr eg hcmp hH hsz12 impl_firsts.hlen
     change Calls Try.prog 57 _ _ _ at hsort
     have hperm := (Sort.insertionSort_holds (impl_firsts.swo l0) (impl_firsts.arr l0) 0 (impl_firsts.arr l0).size (Nat.zero_le _) (Nat.le_refl _)).1
     have hss : (impl_firsts.sorted l0).size = (impl_firsts.arr l0).size := hperm.1
     have HSORT := am hsort
     have HGG := am (show w.heap.size ≤ g ∧ wr.heap[g]? = some (.cells cur 3 (0, 0)) ∧ (impl_firsts.arr l0).size ≤ cap ∧ cap ≤ maxLen ∧ cur.size = cap from ⟨hgb, hgh, hgn, hgm, hgs⟩)
     have HSS := am hss
     have hcb := blk_cell HBX.out 0
     clear hsort hperm hss eg hcmp hH hgb hgP hgh hgn hgm hgs hgt hae hne hsz hsz12 HO hpos
     go_wp2_with (go_at_call 57; (refine HSORT.out.mono ?_); rintro e w9 ⟨rfl, nn, rfl⟩)
     go_ret
     refine ⟨_, rfl, ?_, ?_⟩
     ·refine Kd.R_mono (impl_firsts.fin g (Sort.putCells (impl_firsts.enc (m := l0.length - 1 + 1)) 0 (impl_firsts.sorted l0) cur) _ w.heap.size (impl_firsts.arr l0).size cap (fun _ => True) _ ?_ ?_ ?_ HGG.out.2.2.1 HGG.out.2.2.2.1 HGG.out.1 trivial ?_) (fun _ _ => trivial)
      ·show (Sort.putRow _ wr g 0 _).heap[g]? = _
       simp only [Sort.putRow, Sort.mapBlock, Array.getElem?_modify, if_true]
       rw [HGG.out.2.1]; rfl
      ·show (Sort.putCells _ 0 _ cur).size = cap
       simp only [Sort.putCells, Array.size_mapIdx]
       exact HGG.out.2.2.2.2
      ·rw [List.length_map, Array.length_toList]; exact HSS.out
      ·rw [← HSS.out, impl_firsts.put_take (impl_firsts.sorted l0) cur (by rw [HSS.out, HGG.out.2.2.2.2]; exact HGG.out.2.2.1), List.map_map]; rfl
     ·refine pw_below_drewN ?_ _
      refine ⟨HB.out.os, HB.out.tape, HB.out.output, ?_, fun k hk => ?_⟩
      ·show w.heap.size ≤ (Sort.putRow _ wr g 0 _).heap.size
       simp only [Sort.putRow, Sort.mapBlock, Array.size_modify]
       exact HB.out.size
      ·show (Sort.putRow _ wr g 0 _).heap[k]? = _
       have h1 := HGG.out.1
       simp only [Sort.putRow, Sort.mapBlock, Array.getElem?_modify, if_neg (show ¬ g = k by omega)]
       exact HB.out.block k hk
 ·cases h
end
end Go.Proofs.Ytlmiiijjjcddkaa.PKb
