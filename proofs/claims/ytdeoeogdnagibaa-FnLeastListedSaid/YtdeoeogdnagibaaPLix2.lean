-- Written for this claim by a program of this session (myprint.py) over the kit's printer.
import Derived.Test.YtdeoeogdnagibaaPLix0
import Derived.Test.YtdeoeogdnagibaaPLix1
namespace Go.Proofs.Ytdeoeogdnagibaa.PLi
noncomputable section
open Go.RowKit Go.Proofs.YtdeoeogdnagibaaW.PrintWords Go.Proofs.YtdeoeogdnagibaaW.PrintLast Go.Proofs.YtdeoeogdnagibaaW.PrintMore
attribute [local go_sem] max2_int min2_int max_two min_two max_three min_three max_four min_four   -- for this text's walks alone
set_option maxHeartbeats 8000000
set_option maxRecDepth 100000
set_option linter.unusedVariables false
set_option linter.unusedSimpArgs false
theorem pRq2 {α : Type} {d : Kd α} {e base : Nat} {ok : Nat → Prop} {v : Value} {xs : List α} {w W : World} (h0 : Aside0 (Kd.R d e w base ok v xs)) (hp : Kd.R d e W base ok v xs := by (with_reducible repeat (first | apply Kd.R_alloc | apply Kd.R_drewN | apply Kd.R_drew)); exact Aside0.out (by with_reducible assumption)) : Kd.R d e W base ok v xs := hp
theorem pKq2 {g : Nat} {o : Obj} {w W : World} (h0 : Aside0 (w.heap[g]? = some o)) (hp : W.heap[g]? = some o := by (with_reducible repeat (first | refine blk_drewN ?_ _ | refine blk_drew ?_ | refine blk_alloc ?_ _)); exact Aside0.out (by with_reducible assumption)) : W.heap[g]? = some o := hp
theorem pBq2 {b : Nat} {w0 w W : World} (h0 : Aside0 (Below b w0 w)) (hp : Below b w0 W := by repeat (first | (with_reducible first | exact Aside0.out (by assumption) | apply below_alloc | apply pw_below_drewN | apply below_drew1 | refine below_set ?_ (Aside0.out (by assumption))))) : Below b w0 W := hp
/-! ### impl_descents: function 43 -/
def impl_descents.l0 : Nat → List Int → List Int → Int → Option (List Int)
 | 0, _, _, _ => none
 | k + 1, x0, x3, x4 => if (wrap64 (x4 + 1)) < (x0.length : Int) then (if 0 ≤ x4 then (if x4 < (x0.length : Int) then (if 0 ≤ (wrap64 (x4 + 1)) then (if (rd x0 x4) > (rd x0 (wrap64 (x4 + 1))) then (if x3.length < 17592186044416 then (impl_descents.l0 k x0 (x3 ++ [x4]) (wrap64 (x4 + 1))) else (none)) else (impl_descents.l0 k x0 x3 (wrap64 (x4 + 1)))) else (none)) else (none)) else (none)) else (some x3)
def impl_descents.f (k : Nat) (l0 : List Int) : Option (List Int) := impl_descents.l0 k l0 (([] : List Int)) 0
theorem impl_descents.mono_l : ∀ k, (∀ y0 y1 y2, LeO (impl_descents.l0 k y0 y1 y2) (impl_descents.l0 (k + 1) y0 y1 y2))
 | 0 => fun _ _ _ r h => by simp [impl_descents.l0] at h
 | k + 1 => by
  have ih0 := impl_descents.mono_l k
  ·intro y0 y1 y2
   unfold impl_descents.l0
   repeat' first | (with_reducible first | exact ih0 _ _ _ | exact LeO.refl _ | exact LeO.none _ | refine LeO.ite ?_ ?_ | refine LeO.bind ?_ (fun _ => ?_))
theorem impl_descents.mono : ∀ a0 k, LeO (impl_descents.f k a0) (impl_descents.f (k + 1) a0) := by
 intro a0 k
 have ih0 := impl_descents.mono_l k
 unfold impl_descents.f
 repeat' first | (with_reducible first | exact ih0 _ _ _ | exact LeO.refl _ | exact LeO.none _ | refine LeO.ite ?_ ?_ | refine LeO.bind ?_ (fun _ => ?_))
theorem impl_descents.calls (k : Nat) (A0 : Option Addr) (c0 : Nat) (l0 : List Int) (r : List Int) (w : World) (hr0 : Kd.C (Kd.int .i64) w A0 l0.length l0) (hc0 : l0.length ≤ c0) (h : impl_descents.f k l0 = some r) :
  Calls Try.prog 43 #[.slice A0 l0.length c0] w fun e w' => ∃ v0_ : Value, e = .returned (v0_) ∧ Kd.R (Kd.int .i64) 3 w' w.heap.size (fun _ => True) v0_ r ∧ Below w.heap.size w w' := by
 have HR0 := am hr0
 have HC0 := am hc0
 clear hr0 hc0
 have HB := am (Below.refl w.heap.size w)
 have H : (impl_descents.l0 k l0 (([] : List Int)) 0) = some r := h
 clear h
 obtain ⟨y213, hy213⟩ : ∃ y_ : List Int, y_ = (([] : List Int)) := ⟨_, rfl⟩
 replace H : (impl_descents.l0 k l0 y213 0) = some r := by first | (rw [hy213]; exact zH) | exact zH
 have Ny213 := am hy213
 clear hy213
 have H' := am H
 clear H
 go_enter Try.func43, Try.ntmps43
 go_wp2_with (first | ((with_reducible refine gate_dst (N := 5) rfl ?_); refine Kd.R_lit (Kd.int .i64) _ 3 ?hg (N := 5) ?hd (xs := ([] : List Int)) (inner := []) (ok := fun _ => True) (okp := fun _ => True) ?hr ?hp (fun _ hk => hk) trivial (Below.refl _ _) (Nat.le_refl _) zq66 ?_; (case hd => rfl); (case hg => rfl); (case hr => exact zq53); (case hp => exact (Reps.none _ _)); intro v214 w2 ho3 hb hg_ hnew_; clear hg_ hnew_; (first | rw [← Ny213.out] at ho3 | (simp only [Int.reduceToNat] at ho3; rw [← Ny213.out] at ho3)); have HO215 := am (Kd.R_lower ho3 (below_size (pBq2 HB))); replace HB := am (below_step (pBq2 HB) hb); clear hb ho3))
 repeat (go_quiet (first | ((with_reducible refine gate_dst (N := 5) rfl ?_); refine Kd.R_lit (Kd.int .i64) _ 3 ?hg (N := 5) ?hd (xs := ([] : List Int)) (inner := []) (ok := fun _ => True) (okp := fun _ => True) ?hr ?hp (fun _ hk => hk) trivial (Below.refl _ _) (Nat.le_refl _) zq66 ?_; (case hd => rfl); (case hg => rfl); (case hr => exact zq53); (case hp => exact (Reps.none _ _)); intro v214 w2 ho3 hb hg_ hnew_; clear hg_ hnew_; (first | rw [← Ny213.out] at ho3 | (simp only [Int.reduceToNat] at ho3; rw [← Ny213.out] at ho3)); have HO215 := am (Kd.R_lower ho3 (below_size (pBq2 HB))); replace HB := am (below_step (pBq2 HB) hb); clear hb ho3)); try go_wp2_with (first | ((with_reducible refine gate_dst (N := 5) rfl ?_); refine Kd.R_lit (Kd.int .i64) _ 3 ?hg (N := 5) ?hd (xs := ([] : List Int)) (inner := []) (ok := fun _ => True) (okp := fun _ => True) ?hr ?hp (fun _ hk => hk) trivial (Below.refl _ _) (Nat.le_refl _) zq66 ?_; (case hd => rfl); (case hg => rfl); (case hr => exact zq53); (case hp => exact (Reps.none _ _)); intro v214 w2 ho3 hb hg_ hnew_; clear hg_ hnew_; (first | rw [← Ny213.out] at ho3 | (simp only [Int.reduceToNat] at ho3; rw [← Ny213.out] at ho3)); have HO215 := am (Kd.R_lower ho3 (below_size (pBq2 HB))); replace HB := am (below_step (pBq2 HB) hb); clear hb ho3)))
 go_loopg [3, 4] k (fun kq v3 v4 w' => ∃ (x3_1 : List Int) (x4_1 : Int), v4 = .int .i64 x4_1 ∧ Aside0 (impl_descents.l0 kq l0 x3_1 x4_1 = some r) ∧ Aside0 (kq ≤ k) ∧ Aside0 (Kd.R (Kd.int .i64) 3 w' w.heap.size (fun _ => True) v3 x3_1) ∧ Aside0 (Below w.heap.size w w'))
 case atStart => exact ⟨(y213), (0), zq13, H', ⟨Nat.le_refl _⟩, ⟨by (with_reducible repeat (first | apply Kd.R_alloc | apply Kd.R_drewN | apply Kd.R_drew)); exact HO215.out⟩, ⟨zq12⟩⟩
 case round =>
  clear H'
  try clear p2
  obtain ⟨x3_1, x4_1, rfl, HA, HK1, HO_3, HB⟩ := hrel
  cases gk with
  | zero => exact absurd HA.out (by simp [impl_descents.l0])
  | succ k1 =>
   have H := HA.out
   clear HA
   simp only [impl_descents.l0] at H
   by_cases c4 : (wrap64 (x4_1 + 1)) < (l0.length : Int)
   ·rw [if_pos c4] at H
    have c4b0 : decide ((wrap64 (x4_1 + 1)) < (l0.length : Int)) = true := decide_eq_true c4
    clear c4
    by_cases c5 : 0 ≤ x4_1
    ·rw [if_pos c5] at H
     have c5b0 : decide (0 ≤ x4_1) = true := decide_eq_true c5
     clear c5
     by_cases c6 : x4_1 < (l0.length : Int)
     ·rw [if_pos c6] at H
      have c6b0 : decide (x4_1 < (l0.length : Int)) = true := decide_eq_true c6
      clear c6
      obtain ⟨ji7, hji7⟩ : ∃ j_ : Int, (wrap64 (x4_1 + 1)) = j_ := ⟨_, rfl⟩
      replace H : (if 0 ≤ (ji7) then (if (rd l0 x4_1) > (rd l0 (ji7)) then (if x3_1.length < 17592186044416 then (impl_descents.l0 k1 l0 (x3_1 ++ [x4_1]) ji7) else (none)) else (impl_descents.l0 k1 l0 x3_1 ji7)) else (none)) = some r := by first | (rw [hji7] at H; exact H) | (simp only [hji7] at H ⊢; exact H)
      (try rw [hji7] at c4b0)
      have hji7w : (IntKind.i64.wrap (x4_1 + 1)) = ji7 := (i64_w _).trans hji7
      by_cases c8 : 0 ≤ (ji7)
      ·rw [if_pos c8] at H
       have c8b0 : decide (0 ≤ (ji7)) = true := decide_eq_true c8
       clear c8
       by_cases c9 : (rd l0 x4_1) > (rd l0 (ji7))
       ·rw [if_pos c9] at H
        have c9b0 : decide ((rd l0 (ji7)) < (rd l0 x4_1)) = true := decide_eq_true c9
        clear c9
        by_cases c10 : x3_1.length < 17592186044416
        ·rw [if_pos c10] at H
         have LMc10 := am c10
         clear c10
         obtain ⟨y218, hy218⟩ : ∃ y_ : List Int, y_ = (x3_1 ++ [x4_1]) := ⟨_, rfl⟩
         replace H : (impl_descents.l0 k1 l0 y218 ji7) = some r := by first | (rw [hy218]; exact zH) | exact zH
         have Ny218 := am hy218
         clear hy218
         have H' := am H
         clear H
         have p216 : 0 ≤ (x4_1 : Int) := of_decide_eq_true zq9
         have q216 : x4_1 < (l0.length : Int) := of_decide_eq_true zq9
         obtain ⟨ad216, e216, hx216_0⟩ := Kd.at_int HR0.out x4_1 p216 q216
         cases e216
         replace hx216_0 := (HB.out.cell (World.block_lt_of_cell? w _ hx216_0)).trans hx216_0
         replace p216 := eq_true p216
         replace q216 := eq_true q216
         have p217 : 0 ≤ ((ji7) : Int) := of_decide_eq_true zq9
         have q217 : (ji7) < (l0.length : Int) := of_decide_eq_true zq9
         obtain ⟨ad217, e217, hx217_0⟩ := Kd.at_int HR0.out (ji7) p217 q217
         obtain rfl : ad216 = ad217 := (by injection e217)
         replace hx217_0 := (HB.out.cell (World.block_lt_of_cell? w _ hx217_0)).trans hx217_0
         replace p217 := eq_true p217
         replace q217 := eq_true q217
         go_wp2_with (first | ((with_reducible refine gate_builtin (b := .append) (xs := #[.tmp 23, .tmp 25]) rfl ?_); at_builtin; refine Kd.R_append (Kd.int .i64) (w0 := w) w.heap.size rfl (.tmp 23) (.tmp 25) 24 3 (.int .i64 0) 8 rfl Try.underlying24 info3 rfl zq36 zq62 u3 x3_1 x4_1 [.int .i64 x4_1] (fun _ => True) (fun _ => False) rfl rfl ?aP (fun _ hk => hk.elim) ?aF ?aO ?aB ?aS ?aL ?_; (case aP => exact rfl); (case aB => exact (pBq2 HB)); (case aF => exact zq145); (case aO => exact (pRq2 HO_3)); (case aS => exact (below_size (pBq2 HB))); (case aL => have := LMc10.out; omega); intro v219 w11 ho hb hg hat; rw [← Ny218.out] at ho; have HO220 := am (ho); replace HB := am (hb); clear HO_3; clear ho hb hg hat))
         repeat (go_quiet (first | ((with_reducible refine gate_builtin (b := .append) (xs := #[.tmp 23, .tmp 25]) rfl ?_); at_builtin; refine Kd.R_append (Kd.int .i64) (w0 := w) w.heap.size rfl (.tmp 23) (.tmp 25) 24 3 (.int .i64 0) 8 rfl Try.underlying24 info3 rfl zq36 zq62 u3 x3_1 x4_1 [.int .i64 x4_1] (fun _ => True) (fun _ => False) rfl rfl ?aP (fun _ hk => hk.elim) ?aF ?aO ?aB ?aS ?aL ?_; (case aP => exact rfl); (case aB => exact (pBq2 HB)); (case aF => exact zq145); (case aO => exact (pRq2 HO_3)); (case aS => exact (below_size (pBq2 HB))); (case aL => have := LMc10.out; omega); intro v219 w11 ho hb hg hat; rw [← Ny218.out] at ho; have HO220 := am (ho); replace HB := am (hb); clear HO_3; clear ho hb hg hat)); try go_wp2_with (first | ((with_reducible refine gate_builtin (b := .append) (xs := #[.tmp 23, .tmp 25]) rfl ?_); at_builtin; refine Kd.R_append (Kd.int .i64) (w0 := w) w.heap.size rfl (.tmp 23) (.tmp 25) 24 3 (.int .i64 0) 8 rfl Try.underlying24 info3 rfl zq36 zq62 u3 x3_1 x4_1 [.int .i64 x4_1] (fun _ => True) (fun _ => False) rfl rfl ?aP (fun _ hk => hk.elim) ?aF ?aO ?aB ?aS ?aL ?_; (case aP => exact rfl); (case aB => exact (pBq2 HB)); (case aF => exact zq145); (case aO => exact (pRq2 HO_3)); (case aS => exact (below_size (pBq2 HB))); (case aL => have := LMc10.out; omega); intro v219 w11 ho hb hg hat; rw [← Ny218.out] at ho; have HO220 := am (ho); replace HB := am (hb); clear HO_3; clear ho hb hg hat)))
         go_roundg k1
         case measure => have := HK1.out; omega
         case rel => exact ⟨(y218), (ji7), (by first | rfl | (simp; done) | (simp only [← hji7] <;> (first | rfl | simp)) | (simp [*]; done)), H', ⟨zq101⟩, ⟨by (with_reducible repeat (first | apply Kd.R_alloc | apply Kd.R_drewN | apply Kd.R_drew)); exact HO220.out⟩, ⟨zq12⟩⟩
        ·rw [if_neg c10] at H
         exact absurd H zq66
       ·rw [if_neg c9] at H
        have c9b0 : decide ((rd l0 (ji7)) < (rd l0 x4_1)) = false := decide_eq_false c9
        clear c9
        have H' := am H
        clear H
        have p216 : 0 ≤ (x4_1 : Int) := of_decide_eq_true zq9
        have q216 : x4_1 < (l0.length : Int) := of_decide_eq_true zq9
        obtain ⟨ad216, e216, hx216_0⟩ := Kd.at_int HR0.out x4_1 p216 q216
        cases e216
        replace hx216_0 := (HB.out.cell (World.block_lt_of_cell? w _ hx216_0)).trans hx216_0
        replace p216 := eq_true p216
        replace q216 := eq_true q216
        have p217 : 0 ≤ ((ji7) : Int) := of_decide_eq_true zq9
        have q217 : (ji7) < (l0.length : Int) := of_decide_eq_true zq9
        obtain ⟨ad217, e217, hx217_0⟩ := Kd.at_int HR0.out (ji7) p217 q217
        obtain rfl : ad216 = ad217 := (by injection e217)
        replace hx217_0 := (HB.out.cell (World.block_lt_of_cell? w _ hx217_0)).trans hx217_0
        replace p217 := eq_true p217
        replace q217 := eq_true q217
        go_wp2
        repeat (go_quiet (fail); try go_wp2)
        go_roundg k1
        case measure => have := HK1.out; omega
        case rel => exact ⟨(x3_1), (ji7), (by first | rfl | (simp; done) | (simp only [← hji7] <;> (first | rfl | simp)) | (simp [*]; done)), H', ⟨zq101⟩, ⟨by (with_reducible repeat (first | apply Kd.R_alloc | apply Kd.R_drewN | apply Kd.R_drew)); exact HO_3.out⟩, ⟨zq12⟩⟩
      ·rw [if_neg c8] at H
       exact absurd H zq66
     ·rw [if_neg c6] at H
      exact absurd H zq66
    ·rw [if_neg c5] at H
     exact absurd H zq66
   ·rw [if_neg c4] at H
    have c4b0 : decide ((wrap64 (x4_1 + 1)) < (l0.length : Int)) = false := decide_eq_false c4
    clear c4
    obtain rfl := Option.some.inj H
    go_wp2
    repeat (go_quiet (fail); try go_wp2)
    go_ret
    exact ⟨_, zq11, by (with_reducible repeat (first | apply Kd.R_alloc | apply Kd.R_drewN | apply Kd.R_drew)); exact HO_3.out, zq12⟩
/-! ### impl_orderKey: function 59 -/
def impl_orderKey.l0 : Nat → List Int → List Int → Int → Int → Option (ByteArray)
 | 0, _, _, _, _ => none
 | k + 1, x3, x7, x8, x9 => if x9 < x8 then (if 0 ≤ x9 then (if x9 < (x7.length : Int) then (if x3.length < 140737488355328 then (impl_orderKey.l0 k (x3 ++ [(wrap64 (48 + (rd x7 x9))) % 256]) x7 x8 (wrap64 (x9 + 1))) else (none)) else (none)) else (none)) else (some (strOfNums x3))
def impl_orderKey.f (k : Nat) (l0 : List Int) : Option (ByteArray) := impl_orderKey.l0 k (([] : List Int)) l0 (l0.length : Int) 0
theorem impl_orderKey.mono_l : ∀ k, (∀ y0 y1 y2 y3, LeO (impl_orderKey.l0 k y0 y1 y2 y3) (impl_orderKey.l0 (k + 1) y0 y1 y2 y3))
 | 0 => fun _ _ _ _ r h => by simp [impl_orderKey.l0] at h
 | k + 1 => by
  have ih0 := impl_orderKey.mono_l k
  ·intro y0 y1 y2 y3
   unfold impl_orderKey.l0
   repeat' first | (with_reducible first | exact ih0 _ _ _ _ | exact LeO.refl _ | exact LeO.none _ | refine LeO.ite ?_ ?_ | refine LeO.bind ?_ (fun _ => ?_))
theorem impl_orderKey.mono : ∀ a0 k, LeO (impl_orderKey.f k a0) (impl_orderKey.f (k + 1) a0) := by
 intro a0 k
 have ih0 := impl_orderKey.mono_l k
 unfold impl_orderKey.f
 repeat' first | (with_reducible first | exact ih0 _ _ _ _ | exact LeO.refl _ | exact LeO.none _ | refine LeO.ite ?_ ?_ | refine LeO.bind ?_ (fun _ => ?_))
theorem impl_orderKey.calls (k : Nat) (A0 : Option Addr) (c0 : Nat) (l0 : List Int) (r : ByteArray) (w : World) (hr0 : Kd.C (Kd.int .i64) w A0 l0.length l0) (hc0 : l0.length ≤ c0) (h : impl_orderKey.f k l0 = some r) :
  Calls Try.prog 59 #[.slice A0 l0.length c0] w fun e w' => e = .returned (.string r) ∧ Below w.heap.size w w' := by
 have HR0 := am hr0
 have HC0 := am hc0
 clear hr0 hc0
 have HB := am (Below.refl w.heap.size w)
 have H : (impl_orderKey.l0 k (([] : List Int)) l0 (l0.length : Int) 0) = some r := h
 clear h
 obtain ⟨y221, hy221⟩ : ∃ y_ : List Int, y_ = (([] : List Int)) := ⟨_, rfl⟩
 replace H : (impl_orderKey.l0 k y221 l0 (l0.length : Int) 0) = some r := by first | (rw [hy221]; exact zH) | exact zH
 have Ny221 := am hy221
 clear hy221
 have H' := am H
 clear H
 go_enter Try.func59, Try.ntmps59
 go_wp2_with (first | ((with_reducible refine gate_dst (N := 6) rfl ?_); refine Kd.R_lit (Kd.int .u8) _ 5 ?hg (N := 6) ?hd (xs := ([] : List Int)) (inner := []) (ok := fun _ => True) (okp := fun _ => True) ?hr ?hp (fun _ hk => hk) trivial (Below.refl _ _) (Nat.le_refl _) zq66 ?_; (case hd => rfl); (case hg => rfl); (case hr => exact zq53); (case hp => exact (Reps.none _ _)); intro v222 w2 ho3 hb hg_ hnew_; clear hg_ hnew_; (first | rw [← Ny221.out] at ho3 | (simp only [Int.reduceToNat] at ho3; rw [← Ny221.out] at ho3)); have HO223 := am (Kd.R_lower ho3 (below_size (pBq2 HB))); replace HB := am (below_step (pBq2 HB) hb); clear hb ho3))
 go_loopg [3, 9] k (fun kq v3 v9 w' => ∃ (x3_1 : List Int) (x9_1 : Int), v9 = .int .i64 x9_1 ∧ Aside0 (impl_orderKey.l0 kq x3_1 l0 (l0.length : Int) x9_1 = some r) ∧ Aside0 (kq ≤ k) ∧ Aside0 (Kd.R (Kd.int .u8) 5 w' w.heap.size (fun _ => True) v3 x3_1) ∧ Aside0 (Below w.heap.size w w'))
 case atStart => exact ⟨(y221), (0), zq13, H', ⟨Nat.le_refl _⟩, ⟨by (with_reducible repeat (first | apply Kd.R_alloc | apply Kd.R_drewN | apply Kd.R_drew)); exact HO223.out⟩, ⟨zq12⟩⟩
 case round =>
  clear H'
  try clear p2
  obtain ⟨x3_1, x9_1, rfl, HA, HK1, HO_3, HB⟩ := hrel
  cases gk with
  | zero => exact absurd HA.out (by simp [impl_orderKey.l0])
  | succ k1 =>
   have H := HA.out
   clear HA
   simp only [impl_orderKey.l0] at H
   by_cases c4 : x9_1 < (l0.length : Int)
   ·rw [if_pos c4] at H
    have c4b0 : decide (x9_1 < (l0.length : Int)) = true := decide_eq_true c4
    clear c4
    by_cases c5 : 0 ≤ x9_1
    ·rw [if_pos c5] at H
     have c5b0 : decide (0 ≤ x9_1) = true := decide_eq_true c5
     clear c5
     by_cases c6 : x9_1 < (l0.length : Int)
     ·rw [if_pos c6] at H
      have c6b0 : decide (x9_1 < (l0.length : Int)) = true := decide_eq_true c6
      clear c6
      by_cases c7 : x3_1.length < 140737488355328
      ·rw [if_pos c7] at H
       have LMc7 := am c7
       clear c7
       obtain ⟨y225, hy225⟩ : ∃ y_ : List Int, y_ = (x3_1 ++ [(wrap64 (48 + (rd l0 x9_1))) % 256]) := ⟨_, rfl⟩
       replace H : (impl_orderKey.l0 k1 y225 l0 (l0.length : Int) (wrap64 (x9_1 + 1))) = some r := by first | (rw [hy225]; exact zH) | exact zH
       have Ny225 := am hy225
       clear hy225
       have H' := am H
       clear H
       have p224 : 0 ≤ (x9_1 : Int) := of_decide_eq_true zq9
       have q224 : x9_1 < (l0.length : Int) := of_decide_eq_true zq9
       obtain ⟨ad224, e224, hx224_0⟩ := Kd.at_int HR0.out x9_1 p224 q224
       cases e224
       replace hx224_0 := (HB.out.cell (World.block_lt_of_cell? w _ hx224_0)).trans hx224_0
       replace p224 := eq_true p224
       replace q224 := eq_true q224
       go_wp2_with (first | ((with_reducible refine gate_builtin (b := .append) (xs := #[.tmp 13, .tmp 17]) rfl ?_); at_builtin; refine Kd.R_append (Kd.int .u8) (w0 := w) w.heap.size rfl (.tmp 13) (.tmp 17) 22 5 (.int .u8 0) 1 rfl Try.underlying22 info5 rfl zq36 zq62 u3 x3_1 ((wrap64 (48 + (rd l0 x9_1))) % 256) [.int .u8 ((wrap64 (48 + (rd l0 x9_1))) % 256)] (fun _ => True) (fun _ => False) rfl rfl ?aP (fun _ hk => hk.elim) ?aF ?aO ?aB ?aS ?aL ?_; (case aP => exact rfl); (case aB => exact (pBq2 HB)); (case aF => exact zq145); (case aO => exact (pRq2 HO_3)); (case aS => exact (below_size (pBq2 HB))); (case aL => have := LMc7.out; omega); intro v226 w8 ho hb hg hat; rw [← Ny225.out] at ho; have HO227 := am (ho); replace HB := am (hb); clear HO_3; clear ho hb hg hat))
       go_roundg k1
       case measure => have := HK1.out; omega
       case rel => exact ⟨(y225), (wrap64 (x9_1 + 1)), zq13, H', ⟨zq101⟩, ⟨by (with_reducible repeat (first | apply Kd.R_alloc | apply Kd.R_drewN | apply Kd.R_drew)); exact HO227.out⟩, ⟨zq12⟩⟩
      ·rw [if_neg c7] at H
       exact absurd H zq66
     ·rw [if_neg c6] at H
      exact absurd H zq66
    ·rw [if_neg c5] at H
     exact absurd H zq66
   ·rw [if_neg c4] at H
    have c4b0 : decide (x9_1 < (l0.length : Int)) = false := decide_eq_false c4
    clear c4
    obtain rfl := Option.some.inj H
    have hcv9 := own_string (P := Try.prog) Try.underlying22 Try.underlying5 Try.underlying9 (Kd.own_of_R HO_3.out)
    go_wp2
    go_ret
    exact ⟨zq11, zq12⟩
/-! ### impl_counter_count: function 32 -/
open Classical in
noncomputable def impl_counter_count.ev {α : Type} (g : Nat → Option α) : Option α := if h : ∃ k r, g k = some r then g h.choose else none
theorem impl_counter_count.ev_some {α : Type} {g : Nat → Option α} {r : α} (h : impl_counter_count.ev g = some r) : ∃ k, g k = some r := by
 unfold impl_counter_count.ev at h
 split at h
 ·exact ⟨_, h⟩
 ·cases h
def impl_counter_count.good (l : List Int) : Bool := l.all fun x => decide (0 ≤ x) && decide (x ≤ 100)
theorem impl_counter_count.good_mem {l : List Int} (h : impl_counter_count.good l = true) : ∀ x ∈ l, 0 ≤ x ∧ x ≤ 100 := fun x hx => by
 have := List.all_eq_true.1 h x hx
 simpa using this
def impl_counter_count.key (l : List Int) : List UInt8 := l.map fun x => UInt8.ofNat ((48 + x) % 256).toNat
theorem impl_counter_count.key_inj : ∀ (a b : List Int), (∀ x ∈ a, 0 ≤ x ∧ x ≤ 100) → (∀ x ∈ b, 0 ≤ x ∧ x ≤ 100) → impl_counter_count.key a = impl_counter_count.key b → a = b
 | [], [], _, _, _ => rfl
 | [], y :: b, _, _, h => by simp [impl_counter_count.key] at h
 | x :: a, [], _, _, h => by simp [impl_counter_count.key] at h
 | x :: a, y :: b, ha, hb, h => by
  have hx := ha x zq66
  have hy := hb y zq66
  simp only [impl_counter_count.key, List.map_cons, List.cons.injEq] at h
  have h1 := congrArg UInt8.toNat h.1
  simp only [UInt8.toNat_ofNat'] at h1
  have e : x = y := zq62
  have e2 := impl_counter_count.key_inj a b (fun z hz => ha z (by simp [hz])) (fun z hz => hb z (by simp [hz])) h.2
  rw [e, e2]
theorem impl_counter_count.ok_key : ∀ (d i : Nat) (l acc : List Int) (k : Nat), i + d = l.length → l.length ≤ 8 → (∀ x ∈ l, 0 ≤ x ∧ x ≤ 100) → acc.length ≤ i → d < k → impl_orderKey.l0 k acc l (l.length : Int) (i : Int) = some (strOfNums (acc ++ (l.drop i).map fun x => (48 + x) % 256)) := by
 intro d
 induction d with
 | zero =>
  intro i l acc k hd h8 hg ha hk
  obtain ⟨k, rfl⟩ : ∃ m, k = m + 1 := ⟨k - 1, zq62⟩
  rw [impl_orderKey.l0, if_neg zq62, List.drop_eq_nil_of_le zq62]
  simp
 | succ d ih =>
  intro i l acc k hd h8 hg ha hk
  obtain ⟨k, rfl⟩ : ∃ m, k = m + 1 := ⟨k - 1, zq62⟩
  have hi : i < l.length := zq62
  have hr : rd l (i : Int) = l[i] := by
   show l.getD ((i : Int)).toNat 0 = _
   rw [Int.toNat_natCast, List.getD_eq_getElem?_getD, List.getElem?_eq_getElem hi]; rfl
  have hm := hg _ (List.getElem_mem hi)
  have hw : wrap64 (48 + l[i]) = 48 + l[i] := by unfold wrap64; omega
  have hw2 : wrap64 ((i : Int) + 1) = ((i + 1 : Nat) : Int) := by unfold wrap64; omega
  rw [impl_orderKey.l0, if_pos zq62, if_pos zq62, if_pos zq62, if_pos zq62, hr, hw, hw2, ih (i + 1) l _ k zq62 h8 hg (by simp; omega) zq62, List.drop_eq_getElem_cons hi, List.map_cons, List.append_assoc]
  rfl
theorem impl_counter_count.orderKey {l : List Int} (h8 : l.length ≤ 8) (hg : ∀ x ∈ l, 0 ≤ x ∧ x ≤ 100) : ∃ s : ByteArray, impl_orderKey.f 100 l = some s ∧ s.data.toList = impl_counter_count.key l ∧ s.size ≤ 8 := by
 refine ⟨_, impl_counter_count.ok_key l.length 0 l [] 100 zq62 h8 hg zq66 zq62, ?_, ?_⟩
 ·rw [strOfNums_data, List.nil_append, List.drop_zero, List.map_map]; rfl
 ·rw [strOfNums_size]; simpa using h8
def impl_counter_count.sm (g : List Int → Option Int) (l : List Int) : List Int → Int → Option Int
 | [], n => some n
 | r :: rs, n => (impl_exchanged.f l r).bind fun q => (g q).bind fun m => impl_counter_count.sm g l rs (wrap64 (n + m))
/-- How many least ladders there are, the falls taken one by one. -/
noncomputable def impl_counter_count.g : Nat → List Int → Option Int
 | 0, _ => none
 | d + 1, l => if impl_counter_count.good l = true ∧ l.length ≤ 8 then (impl_counter_count.ev fun k => impl_descents.f k l).bind fun ds => (if ds.length = 0 then some 1 else if ds.length ≤ 8 then impl_counter_count.sm (impl_counter_count.g d) l ds 0 else none) else none
noncomputable def impl_counter_count.f (l0 : List Int) : Option Int := impl_counter_count.g 16 l0
theorem impl_counter_count.sm_mono {g g' : List Int → Option Int} (h : ∀ q v, g q = some v → g' q = some v) (l : List Int) : ∀ (ds : List Int) (n r : Int), impl_counter_count.sm g l ds n = some r → impl_counter_count.sm g' l ds n = some r
 | [], _, _, e => e
 | x :: ds, n, r, e => by
  simp only [impl_counter_count.sm] at e ⊢
  obtain ⟨q, hq, e⟩ := Option.bind_eq_some_iff.1 e
  obtain ⟨m, hm, e⟩ := Option.bind_eq_some_iff.1 e
  rw [hq]
  simp only [Option.bind_some]
  rw [h q m hm]
  exact impl_counter_count.sm_mono h l ds _ r e
theorem impl_counter_count.g_succ : ∀ (d : Nat) (l : List Int) (v : Int), impl_counter_count.g d l = some v → impl_counter_count.g (d + 1) l = some v
 | 0, _, _, e => by simp [impl_counter_count.g] at e
 | d + 1, l, v, e => by
  rw [impl_counter_count.g] at e ⊢
  split at e
  ·rename_i hc
   rw [if_pos hc]
   obtain ⟨ds, hds, e⟩ := Option.bind_eq_some_iff.1 e
   rw [hds]
   simp only [Option.bind_some]
   split at e
   ·rename_i h0; rw [if_pos h0]; exact e
   ·rename_i h0
    rw [if_neg h0]
    split at e
    ·rename_i h1; rw [if_pos h1]; exact impl_counter_count.sm_mono (fun q v => impl_counter_count.g_succ d q v) l ds 0 v e
    ·cases e
  ·cases e
theorem impl_counter_count.g_le {d d' : Nat} (h : d ≤ d') {l : List Int} {v : Int} (e : impl_counter_count.g d l = some v) : impl_counter_count.g d' l = some v := by
 induction h with
 | refl => exact e
 | step _ ih => exact impl_counter_count.g_succ _ _ _ ih
theorem impl_counter_count.g_one {d d' : Nat} {l : List Int} {v v' : Int} (e : impl_counter_count.g d l = some v) (e' : impl_counter_count.g d' l = some v') : v = v' := by
 have h1 := impl_counter_count.g_le (Nat.le_max_left d d') e
 have h2 := impl_counter_count.g_le (Nat.le_max_right d d') e'
 rw [h1] at h2
 exact Option.some.inj h2
theorem impl_counter_count.sm_wf (g : List Int → Option Int) (l : List Int) : ∀ (ds : List Int) (n r : Int), (Lit.int .i64 n).wf = true → impl_counter_count.sm g l ds n = some r → (Lit.int .i64 r).wf = true
 | [], n, r, hn, e => by cases e; exact hn
 | x :: ds, n, r, hn, e => by
  simp only [impl_counter_count.sm] at e
  obtain ⟨q, hq, e⟩ := Option.bind_eq_some_iff.1 e
  obtain ⟨m, hm, e⟩ := Option.bind_eq_some_iff.1 e
  exact impl_counter_count.sm_wf g l ds _ r (wrap64_wf _) e
/-- What the counter remembers is so. -/
def impl_counter_count.Inv (D : DataW Unit) : Prop := Maps.IsMap D ∧ ∀ q : List Int, (∀ x ∈ q, 0 ≤ x ∧ x ≤ 100) → Maps.has D (.string (impl_counter_count.key q)) = true → ∃ d v, impl_counter_count.g d q = some v ∧ ∀ z, D.atKey (.string (impl_counter_count.key q)) z = .lit (.int .i64 v)
theorem impl_counter_count.inv_empty : impl_counter_count.Inv (.map []) := ⟨Maps.isMap_empty, fun q _ h => by simp [Maps.has] at h⟩
theorem impl_counter_count.inv_put {D : DataW Unit} (h : impl_counter_count.Inv D) {l : List Int} (hl : ∀ x ∈ l, 0 ≤ x ∧ x ≤ 100) {d : Nat} {v : Int} (hg : impl_counter_count.g d l = some v) : impl_counter_count.Inv (D.put (.string (impl_counter_count.key l)) (.lit (.int .i64 v))) := by
 refine ⟨h.1.put _ _, fun q hq hh => ?_⟩
 by_cases e : q = l
 ·subst e
  exact ⟨d, v, hg, fun z => Maps.atKey_put_same h.1 (show WideAt.IsKeyLit (Lit.string (impl_counter_count.key q)) from trivial) _ z⟩
 ·have hne : (Lit.string (impl_counter_count.key q)) ≠ .string (impl_counter_count.key l) := fun h2 => e (impl_counter_count.key_inj q l hq hl (by injection h2))
  rw [Maps.has_put_other hne] at hh
  obtain ⟨d', v', h1, h2⟩ := h.2 q hq hh
  exact ⟨d', v', h1, fun z => by rw [Maps.atKey_put_other hne]; exact h2 z⟩
theorem impl_counter_count.law : Maps.Keyed Try.prog 9 := Maps.string_keyed Try.underlying9
theorem impl_counter_count.zero (w : World) : (zeroValue 3).run Try.prog w = .ok (.int .i64 0) w := by kernel_rfl
/-- The counter's memory: block B is a map that reads as D, and what it remembers is so. -/
structure impl_counter_count.Mem (w : World) (B n : Nat) : Prop where mk :: (out : ∃ D : DataW Unit, w.ownsMap Try.prog 9 (plainElem Try.prog 3) B n D ∧ impl_counter_count.Inv D)
theorem impl_counter_count.Mem.kept {w w' : World} {B n : Nat} {S : Nat → Prop} (h : impl_counter_count.Mem w B n) (hk : Kept w w' S) (hS : ¬ S B) : impl_counter_count.Mem w' B n := by
 obtain ⟨D, h1, h2⟩ := h
 refine ⟨D, ?_, h2⟩
 obtain ⟨es, clock, hb, hF, hs, hD⟩ := h1
 exact ⟨es, clock, (hk.2 B (blk_lt hb) hS).trans hb, hF, hs, hD⟩
theorem impl_counter_count.Mem.below {w w' : World} {B n : Nat} (h : impl_counter_count.Mem w B n) (hb : Below w.heap.size w w') : impl_counter_count.Mem w' B n := h.kept (Kept.of_below hb (fun _ => False)) (fun h => h)
theorem impl_counter_count.Mem.mono {w : World} {B n n' : Nat} (h : impl_counter_count.Mem w B n) (hn : n ≤ n') : impl_counter_count.Mem w B n' := by
 obtain ⟨D, h1, h2⟩ := h
 exact ⟨D, h1.mono hn, h2⟩
theorem impl_counter_count.Mem.lt {w : World} {B n : Nat} (h : impl_counter_count.Mem w B n) : B < w.heap.size := by
 obtain ⟨D, h1, h2⟩ := h
 exact h1.lt
theorem impl_counter_count.pow9 (d : Nat) : 1 ≤ 9 ^ d ∧ 9 ^ (d + 1) = 9 * 9 ^ d := ⟨Nat.one_le_pow _ _ zq36, by rw [Nat.pow_succ, Nat.mul_comm]⟩
theorem impl_counter_count.calls_g (d : Nat) : ∀ (B n : Nat) (A0 : Option Addr) (c0 : Nat) (l0 : List Int) (r : Int) (w0 w : World) (hB : Below w0.heap.size w0 w) (hb : w0.heap.size ≤ B) (hm : impl_counter_count.Mem w B n) (hn : n + 9 ^ d ≤ 4611686018427387904)
  (hr0 : ∀ W', Kept w W' (fun k_ => k_ = B) → Kd.C (Kd.int .i64) W' A0 l0.length l0) (hc0 : l0.length ≤ c0) (h : impl_counter_count.g d l0 = some r),
  Calls Try.prog 32 #[.map (some B), .slice A0 l0.length c0] w fun e w' => e = .returned (.int .i64 r) ∧ impl_counter_count.Mem w' B (n + 9 ^ d) ∧ Below w0.heap.size w0 w' ∧ Kept w w' (fun k_ => k_ = B) := by
 induction d with
 | zero => intro B n A0 c0 l0 r w0 w _ _ _ _ _ _ h; simp [impl_counter_count.g] at h
 | succ d ih =>
  intro B n A0 c0 l0 r w0 w hB hb hm hn hr0 hc0 h
  obtain ⟨hp1, hp2⟩ := impl_counter_count.pow9 d
  have h0 := h
  rw [impl_counter_count.g] at h
  split at h
  ·rename_i hcond
   obtain ⟨hg, h8⟩ := hcond
   have hg := impl_counter_count.good_mem hg
   obtain ⟨ds, hds, h⟩ := Option.bind_eq_some_iff.1 h
   obtain ⟨kd, hds⟩ := impl_counter_count.ev_some hds
   obtain ⟨s, hs, hsk, hs8⟩ := impl_counter_count.orderKey h8 hg
   have hkey : keyOf Try.prog 9 (.string s) = some (Lit.string (impl_counter_count.key l0)) := by
    rw [← hsk]; exact WideMaps.keyOf_string_mk Try.underlying9 (s := s) (by unfold maxLen; omega)
   have hwf : (Lit.int .i64 r).wf = true := by
    split at h
    ·cases h; decide
    ·split at h
     ·exact impl_counter_count.sm_wf _ _ _ _ _ zq36 h
     ·cases h
   have HS := am hs
   have HDS := am hds
   have HKEY := am hkey
   have HWF := am hwf
   have HR := am hr0
   have HC := am hc0
   have HB := am hB
   have HG := am hg
   have HN := am hn
   have Hb := am hb
   have H0 := am h0
   have H := am h
   have IH := am ih
   have HP := am (And.intro hp1 hp2)
   have HM := am hm
   have HK := am (Kept.refl w (fun k_ => k_ = B))
   clear hs hds hkey hwf hr0 hc0 hB hg hn hb h0 h ih hp1 hp2 hm hsk
   obtain ⟨D, hown, hinv⟩ := HM.out
   have HOWN := am hown
   have HINV := am hinv
   clear hown hinv
   cases hh : Maps.has D (.string (impl_counter_count.key l0)) with
   | true =>
    obtain ⟨d1, v1, hv1, hat1⟩ := HINV.out.2 l0 HG.out hh
    obtain rfl := impl_counter_count.g_one hv1 H0.out
    have HAT := am (hat1 (.lit (.int .i64 0)))
    have HH := am hh
    clear hat1 hv1 hh
    go_enter Try.func32, Try.ntmps32
    go_wp2_with (first | (go_at_call 59; (with_reducible refine (impl_orderKey.calls 100 _ _ l0 s _ ?side1 ?side2 HS.out).mono ?_); (case side1 => exact zq111); (case side2 => exact HC.out); rintro e w1 ⟨rfl, hb1⟩; have HB1 := am (below_then HB.out HB.out.size hb1); have HK1 := am (HK.out.below hb1); have HM1 := am (HM.out.below hb1); have HOWN1 := am (HOWN.out.kept (grown_of_below hb1 none) zq66); clear hb1) | (at_lookup; refine wpList_lookup_own_ok_int _ rfl _ _ 59 rfl 9 3 .i64 impl_counter_count.law Try.underlying59 Try.underlying3 (impl_counter_count.zero _) B n D rfl HOWN1.out _ _ rfl HKEY.out ?_; intro c hat hwc; obtain rfl : c = v1 := (by have h_ := hat.symm.trans HAT.out; simpa using h_); rw [HH.out]))
    go_ret
    exact ⟨rfl, HM1.out.mono (by have := HP.out; omega), HB1.out, HK1.out⟩
   | false =>
    obtain ⟨rr, hsm, hrr, hd8⟩ : ∃ rr, impl_counter_count.sm (impl_counter_count.g d) l0 ds 0 = some rr ∧ r = (if ds.length = 0 then 1 else rr) ∧ ds.length ≤ 8 := by
     have h := H.out
     by_cases hz : ds.length = 0
     ·rw [if_pos hz] at h
      have e := List.length_eq_zero_iff.1 hz
      subst e
      exact ⟨0, rfl, (Option.some.inj h).symm, zq66⟩
     ·rw [if_neg hz] at h
      split at h
      ·rename_i h8
       exact ⟨r, h, by rw [if_neg hz], h8⟩
      ·cases h
    have HSM := am hsm
    have HRR := am hrr
    have HD8 := am hd8
    clear hsm hrr hd8 hds
    have HH := am hh
    clear hh
    go_enter Try.func32, Try.ntmps32
    go_wp2_with (first | (go_at_call 59; (with_reducible refine (impl_orderKey.calls 100 _ _ l0 s _ ?side1 ?side2 HS.out).mono ?_); (case side1 => exact zq111); (case side2 => exact HC.out); rintro e w1 ⟨rfl, hb1⟩; have HB1 := am (below_then HB.out HB.out.size hb1); have HK1 := am (HK.out.below hb1); have HM1 := am (HM.out.below hb1); have HOWN1 := am (HOWN.out.kept (grown_of_below hb1 none) zq66); clear hb1) | (at_lookup; refine wpList_lookup_own_ok_int _ rfl _ _ 59 rfl 9 3 .i64 impl_counter_count.law Try.underlying59 Try.underlying3 (impl_counter_count.zero _) B n D rfl HOWN1.out _ _ rfl HKEY.out ?_; intro c hat hwc; rw [HH.out]; clear hat hwc) | (go_at_call 43; (with_reducible refine (impl_descents.calls kd _ _ l0 ds _ ?side1 ?side2 HDS.out).mono ?_); (case side1 => exact HR.out _ (by repeat (first | (with_reducible first | exact HK1.out | apply Kept.alloc | apply Kept.drewN | apply Kept.drew) | exact HK1.out))); (case side2 => exact HC.out); rintro e w2 ⟨v2, rfl, ho2, hb2⟩; have HL := am (Kd.R_mono (Kd.R_bound ho2) (fun k_ h_ => (show k_ ≠ B from fun e_ => by have := HM1.out.lt; have := h_.2.1; omega))); have HB2 := am (below_then HB1.out HB1.out.size hb2); have HK2 := am (HK1.out.below hb2); have HM2 := am (HM1.out.below hb2); clear hb2 ho2; obtain ⟨A2, c2, e2⟩ := Kd.R_slice HL.out; subst e2))
    go_loopg [9, 26] ds.length (fun gg v9 v26 w' => ∃ (i : Nat) (acc : Int) (N : Nat), v9 = .int .i64 acc ∧ v26 = .int .i64 i ∧ i ≤ ds.length ∧ ds.length - i ≤ gg ∧ Aside0 (impl_counter_count.sm (impl_counter_count.g d) l0 (ds.drop i) acc = some rr) ∧ Aside0 (N ≤ n + i * 9 ^ d) ∧ Aside0 (impl_counter_count.Mem w' B N) ∧ Aside0 (Kd.R (Kd.int .i64) 3 w' w1.heap.size (fun k_ => k_ ≠ B) (.slice A2 ds.length c2) ds) ∧ Aside0 (Below w0.heap.size w0 w') ∧ Aside0 (Kept w w' (fun k_ => k_ = B)))
    case atStart => exact ⟨0, 0, n, rfl, rfl, Nat.zero_le _, zq62, ⟨by rw [List.drop_zero]; exact HSM.out⟩, ⟨zq62⟩, HM2, HL, HB2, HK2⟩
    case round =>
     clear HB1 HK1 HM1 HOWN1 HB2 HK2 HM2 HL HSM
     obtain ⟨i, acc, N, rfl, rfl, hi, hgk, HSM, HNN, HM2, HL, HB2, HK2⟩ := hrel
     by_cases hlt : i < ds.length
     ·have hltz : (i : Int) < (ds.length : Int) := zq62
      have hdr : ds.drop i = rd ds (i : Int) :: ds.drop (i + 1) := by
       have hr_ : rd ds (i : Int) = ds[i] := by
        show ds.getD ((i : Int)).toNat 0 = _
        rw [Int.toNat_natCast, List.getD_eq_getElem?_getD, List.getElem?_eq_getElem hlt]; rfl
       rw [hr_]; exact List.drop_eq_getElem_cons hlt
      obtain ⟨ad, ead, hx0⟩ := Kd.at_int (Kd.R_reads' HL.out).2.2 (i : Int) (Int.natCast_nonneg i) hltz
      cases ead
      obtain ⟨x, hx⟩ : ∃ x, x = rd ds (i : Int) := ⟨_, rfl⟩
      rw [← hx] at hx0 hdr
      have hsm := HSM.out
      rw [hdr, impl_counter_count.sm] at hsm
      obtain ⟨q, hq, hsm⟩ := Option.bind_eq_some_iff.1 hsm
      obtain ⟨m, hm, hsm⟩ := Option.bind_eq_some_iff.1 hsm
      rw [Int.toNat_natCast] at hx0
      have HQ := am hq
      have HMM := am hm
      have HSM2 := am hsm
      clear HSM hsm hq hm hdr hx
      have hb9 : N + 9 ^ d ≤ n + (i + 1) * 9 ^ d := by have := HNN.out; rw [Nat.add_mul, Nat.one_mul]; omega
      have hlim : N + 9 ^ d ≤ 4611686018427387904 := by
       have h1 := HN.out; have h2 := HP.out; have h3 := HD8.out
       have h4 : (i + 1) * 9 ^ d ≤ 8 * 9 ^ d := Nat.mul_le_mul_right _ zq62
       omega
      have HB9 := am hb9
      have HLIM := am hlim
      clear hb9 hlim
      go_wp2_with (first | (go_at_call 37; (with_reducible refine (impl_exchanged.calls _ _ l0 x q _ ?side1 ?side2 HQ.out).mono ?_); (case side1 => exact HR.out _ zq86); (case side2 => exact HC.out); rintro e w4 ⟨v4, rfl, ho4, hb4⟩; have HQR := am (Kd.R_mono (Kd.R_bound ho4) (fun k_ h_ => (show k_ ≠ B from fun e_ => by have h1_ := HM2.out.lt; have h2_ := h_.2.1; exact absurd (Nat.lt_of_lt_of_le h1_ h2_) (by rw [e_]; exact Nat.lt_irrefl B)))); have HB4 := am (below_then HB2.out HB2.out.size hb4); have HK4 := am (HK2.out.below hb4); have HM4 := am (HM2.out.below hb4); have HL4 := am (Kd.R_below (by (with_reducible repeat (first | apply Kd.R_alloc | apply Kd.R_drewN | apply Kd.R_drew)); exact HL.out) hb4); clear hb4 ho4; obtain ⟨A4, c4, e4⟩ := Kd.R_slice HQR.out; subst e4) | (go_at_call 32; (with_reducible refine (IH.out B N A4 c4 q m w0 _ ?side1 Hb.out ?side2 HLIM.out ?side3 ?side4 HMM.out).mono ?_); (case side1 => exact HB4.out); (case side2 => exact HM4.out); (case side3 => exact zq113); (case side4 => exact zq152); rintro e w5 ⟨rfl, hm5, hb5, hk5⟩; have HM5 := am hm5; have HB5 := am hb5; have HK5 := am (HK4.out.then_ hk5 (fun _ h_ => .inl h_)); have HL5 := am (Kd.R_kept HL4.out hk5 (fun _ h1_ h2_ => h1_ h2_)); clear hm5 hb5 hk5))
      have hd8_ := HD8.out
      go_roundg (ds.length - (i + 1))
      case measure => omega
      case rel => exact ⟨i + 1, wrap64 (acc + m), N + 9 ^ d, zq177, zq168, zq62, zq62, HSM2, HB9, HM5, HL5, HB5, HK5⟩
     ·have hltz : ¬ (i : Int) < (ds.length : Int) := zq62
      have hie : i = ds.length := zq62
      have hsm := HSM.out
      rw [List.drop_eq_nil_of_le zq62, impl_counter_count.sm] at hsm
      obtain rfl := Option.some.inj hsm
      clear HSM hsm
      obtain ⟨D5, hown5, hinv5⟩ := HM2.out
      have HO5 := am hown5
      have HI5 := am hinv5
      clear hown5 hinv5
      have hlim : N + 1 ≤ n + 9 ^ (d + 1) ∧ N < 4611686018427387904 := by
       have h1 := HN.out; have h2 := HP.out; have h3 := HD8.out; have h4 := HNN.out
       have h5 : i * 9 ^ d ≤ 8 * 9 ^ d := Nat.mul_le_mul_right _ zq62
       omega
      have HLIM := am hlim
      clear hlim
      by_cases hz : ds.length = 0
      ·have hr1 : r = 1 := by have := HRR.out; rw [if_pos hz] at this; exact this
       subst hr1
       have hz0 : decide ((ds.length : Int) = 0) = true := decide_eq_true zq62
       have hz1 : decide (ds.length = 0) = true := decide_eq_true hz
       go_wp2_with (at_mapUpdate; refine wpList_mapUpdate_own _ rfl _ _ _ 59 rfl 9 3 impl_counter_count.law Try.underlying59 _ B N D5 rfl HO5.out (by have := HLIM.out; unfold maxLen; omega) _ _ _ rfl rfl HKEY.out _ [] (plainElem_int Try.underlying3 HWF.out) ?_; intro w6 hown6 hgrow6)
       go_ret
       exact ⟨rfl, ⟨_, hown6.mono HLIM.out.1, impl_counter_count.inv_put HI5.out HG.out H0.out⟩, HB2.out.grown hgrow6 HB2.out.size (fun k_ h_ => by cases h_; exact Hb.out), Kept.of_grown hgrow6 HK2.out (fun k_ h_ => by cases h_; exact .inl rfl)⟩
      ·have hr1 : r = acc := by have := HRR.out; rw [if_neg hz] at this; exact this
       subst hr1
       have hz0 : decide ((ds.length : Int) = 0) = false := decide_eq_false zq62
       have hz1 : decide (ds.length = 0) = false := decide_eq_false hz
       go_wp2_with (at_mapUpdate; refine wpList_mapUpdate_own _ rfl _ _ _ 59 rfl 9 3 impl_counter_count.law Try.underlying59 _ B N D5 rfl HO5.out (by have := HLIM.out; unfold maxLen; omega) _ _ _ rfl rfl HKEY.out _ [] (plainElem_int Try.underlying3 HWF.out) ?_; intro w6 hown6 hgrow6)
       go_ret
       exact ⟨rfl, ⟨_, hown6.mono HLIM.out.1, impl_counter_count.inv_put HI5.out HG.out H0.out⟩, HB2.out.grown hgrow6 HB2.out.size (fun k_ h_ => by cases h_; exact Hb.out), Kept.of_grown hgrow6 HK2.out (fun k_ h_ => by cases h_; exact .inl rfl)⟩
  ·cases h
theorem impl_counter_count.calls (B n : Nat) (A0 : Option Addr) (c0 : Nat) (l0 : List Int) (r : Int) (w0 w : World) (hB : Below w0.heap.size w0 w) (hb : w0.heap.size ≤ B) (hm : impl_counter_count.Mem w B n) (hn : n + 9 ^ 16 ≤ 4611686018427387904)
  (hr0 : ∀ W', Kept w W' (fun k_ => k_ = B) → Kd.C (Kd.int .i64) W' A0 l0.length l0) (hc0 : l0.length ≤ c0) (h : impl_counter_count.f l0 = some r) :
  Calls Try.prog 32 #[.map (some B), .slice A0 l0.length c0] w fun e w' => e = .returned (.int .i64 r) ∧ impl_counter_count.Mem w' B (n + 9 ^ 16) ∧ Below w0.heap.size w0 w' ∧ Kept w w' (fun k_ => k_ = B) :=
 impl_counter_count.calls_g 16 B n A0 c0 l0 r w0 w hB hb hm hn hr0 hc0 h
theorem impl_counter_count.Mem.made (w : World) : impl_counter_count.Mem (w.alloc (.map #[] 0)) w.heap.size 0 := ⟨_, World.ownsMap_made _ _ _ _, impl_counter_count.inv_empty⟩
theorem impl_counter_count.callsN (B n : Nat) (A0 : Option Addr) (c0 : Nat) (l0 : List Int) (r : Int) (w0 w : World) (hB : Below w0.heap.size w0 w) (hb : w0.heap.size ≤ B) (hm : impl_counter_count.Mem w B n) (hn : n + 1853020188851841 ≤ 4611686018427387904)
  (hr0 : ∀ W', Kept w W' (fun k_ => k_ = B) → Kd.C (Kd.int .i64) W' A0 l0.length l0) (hc0 : l0.length ≤ c0) (h : impl_counter_count.f l0 = some r) :
  Calls Try.prog 32 #[.map (some B), .slice A0 l0.length c0] w fun e w' => e = .returned (.int .i64 r) ∧ impl_counter_count.Mem w' B (n + 1853020188851841) ∧ Below w0.heap.size w0 w' ∧ Kept w w' (fun k_ => k_ = B) := by
 have e : (9 : Nat) ^ 16 = 1853020188851841 := zq36
 have h1 := impl_counter_count.calls B n A0 c0 l0 r w0 w hB hb hm (by rw [e]; exact hn) hr0 hc0 h
 rw [e] at h1
 exact h1
/-! ### impl_all: function 57 -/
open Classical in
noncomputable def impl_all.ev {α : Type} (g : Nat → Option α) : Option α := if h : ∃ k r, g k = some r then g h.choose else none
theorem impl_all.ev_some {α : Type} {g : Nat → Option α} {r : α} (h : impl_all.ev g = some r) : ∃ k, g k = some r := by
 unfold impl_all.ev at h
 split at h
 ·exact ⟨_, h⟩
 ·cases h
def impl_all.lp (G : List Int → List Int → List S34 → Option (List S34)) (l1 l2 ds : List Int) : Nat → Nat → List S34 → Option (List S34)
 | 0, _, xs => some xs
 | m + 1, i, xs => (slices_Clone_int_int.f l1).bind fun c => if c.length < 1000 then (impl_exchanged.f l2 (rd ds i)).bind fun q => (G (c ++ [rd ds i]) q xs).bind fun ys => impl_all.lp G l1 l2 ds m (i + 1) ys else none
noncomputable def impl_all.g : Nat → Int → List Int → List Int → List S34 → Option (List S34)
 | 0, _, _, _, _ => none
 | d + 1, a0, l1, l2, xs => (impl_all.ev fun k => impl_descents.f k l2).bind fun ds => if ds.length = 0 then (if xs.length < 100000 then some (xs ++ [⟨a0, l1⟩]) else none) else impl_all.lp (fun l1' l2' xs' => impl_all.g d a0 l1' l2' xs') l1 l2 ds ds.length 0 xs
theorem impl_all.calls_g : ∀ (d : Nat) (a0 : Int) (Pd : Nat → Prop) (A1 : Option Addr) (c1 : Nat) (l1 : List Int) (Pp : Nat → Prop) (A2 : Option Addr) (c2 : Nat) (l2 : List Int) (P : Nat → Prop) (v : Value) (xs ys : List S34) (w0 w : World) (hB : Below w0.heap.size w0 w) (h1 : Kd.R (Kd.int .i64) 3 w w0.heap.size Pd (.slice A1 l1.length c1) l1) (h1p : ∀ k, Pd k → ¬ P k) (h2 : Kd.F (Kd.int .i64) w Pp A2 l2.length l2) (hc2 : l2.length ≤ c2) (h2p : ∀ k, Pp k → ¬ P k) (hS : Kd.S k34 34 w w0.heap.size P v xs) (hPw : ∀ k, P k → k < w.heap.size) (h : impl_all.g d a0 l1 l2 xs = some ys),
  Calls Try.prog 57 #[.int .i64 a0, .slice A1 l1.length c1, .slice A2 l2.length c2, v] w fun e w' => ∃ v0_ : Value, e = .returned v0_ ∧ Kd.S k34 34 w' w0.heap.size (fun k => P k ∨ Pd k ∨ w.heap.size ≤ k) v0_ ys ∧ Below w0.heap.size w0 w' ∧ Kept w w' P
 | 0, _, _, _, _, _, _, _, _, _, _, _, _, _, _, _, _, _, _, _, _, _, _, _, h => by cases h
 | d + 1, a0, Pd, A1, c1, l1, Pp, A2, c2, l2, P, v, xs, ys, w0, w, hB, h1, h1p, h2, hc2, h2p, hS, hPw, h => by
  obtain ⟨ds, hd, h⟩ := Option.bind_eq_some_iff.1 h
  obtain ⟨kd, hd⟩ := impl_all.ev_some hd
  have HD := am hd
  have HB := am hB
  have H1 := am h1
  have H2 := am h2
  have HC2 := am hc2
  have HS := am hS
  have HP1 := am h1p
  have HP2 := am h2p
  have HPw := am hPw
  clear hd hB h1 h2 hc2 hS h1p h2p hPw
  by_cases c : ds.length = 0
  ·rw [if_pos c] at h
   split at h
   case isFalse => cases h
   rename_i hx
   obtain rfl := Option.some.inj h
   have HX := am hx
   clear h hx
   have cb : ((ds.length : Int) == 0) = true := beq_iff_eq.mpr zq62
   have cd : decide ((ds.length : Int) = 0) = true := decide_eq_true zq62
   have HV : Aside0 (∀ k, v.ownBlock = some k → P k) := am (Kd.S_R HS.out).1
   go_enter Try.func57, Try.ntmps57
   go_wp2_with (first | (go_at_call 43; (with_reducible refine (impl_descents.calls kd _ _ l2 ds _ ?side1 HC2.out HD.out).mono ?_); (case side1 => exact Kd.F_now H2.out); rintro e w2 ⟨v2, rfl, hr2, hb2⟩; obtain ⟨A9, c9, e9⟩ := Kd.R_slice hr2; subst e9; have HB2 := am (below_step HB.out hb2); have HBw := am hb2; have H12 := am (Kd.R_below H1.out hb2); have HS2 := am (Kd.S_below HS.out hb2); clear hr2 hb2) | ((with_reducible refine gate_builtin (b := .append) (xs := #[.tmp 17, .tmp 21]) rfl ?_); at_builtin; refine Kd.S_append k34 (w0 := w0) w0.heap.size rfl (.tmp 17) (.tmp 21) 26 34 (.agg #[(.int .i64 0), (.slice none 0 0)]) 32 rfl Try.underlying26 info34 rfl zq36 zq62 v xs (⟨a0, l1⟩ : S34) [.int .i64 a0, .slice A1 l1.length c1] (fun k => P k ∨ Pd k ∨ w.heap.size ≤ k) Pd rfl rfl ?aP ?aK ?aF ?aO ?aB ?aS ?aL ?_; (case aP => exact k34_mkM _ _ _ ⟨a0, l1⟩ H12.out); (case aK => exact fun k hk => ⟨.inr (.inl hk), fun e_ => HP1.out k hk (HV.out k e_.symm)⟩); (case aF => exact fun k hk => .inr (.inr (Nat.le_trans HBw.out.size hk))); (case aO => exact Kd.S_mono HS2.out (fun k hk => ⟨.inl hk, fun h_ => HP1.out k h_ hk⟩)); (case aB => exact HB2.out); (case aS => exact below_size HB2.out); (case aL => have := HX.out; omega); intro v3 w3 ho hb hg hat; have HO3 := am ho; have HB3 := am hb; have HK3 := am (Kept.of_grown (S := P) hg (by repeat (first | exact Kept.of_below HBw.out _ | apply Kept.drewN | apply Kept.drew | apply Kept.alloc)) (fun k e_ => .inl (HV.out k e_))); clear ho hb hg hat))
   go_ret
   exact ⟨_, rfl, HO3.out, HB3.out, HK3.out⟩
  ·rw [if_neg c] at h
   have HL := am h
   have HNZ := am c
   have cb : ((ds.length : Int) == 0) = false := beq_eq_false_iff_ne.mpr zq62
   have cd : decide ((ds.length : Int) = 0) = false := decide_eq_false zq62
   clear h c
   go_enter Try.func57, Try.ntmps57
   go_wp2_with (go_at_call 43; (with_reducible refine (impl_descents.calls kd _ _ l2 ds _ ?side1 HC2.out HD.out).mono ?_); (case side1 => exact Kd.F_now H2.out); rintro e w2 ⟨v2, rfl, hr2, hb2⟩; obtain ⟨A9, c9, e9⟩ := Kd.R_slice hr2; subst e9; have HB2 := am (below_step HB.out hb2); have HBw := am hb2; have H12 := am (Kd.R_below H1.out hb2); have HS2 := am (Kd.S_below HS.out hb2); have H22 := am (Kd.F_below H2.out hb2); have HR9 := am hr2; clear hr2 hb2)
   go_loopg [3, 25] ds.length (fun kq v3 v25 w' => ∃ (i : Nat) (xs1 : List S34), v25 = .int .i64 (i : Int) ∧ Aside0 (i + kq = ds.length) ∧ Aside0 (impl_all.lp (fun l1' l2' xs' => impl_all.g d a0 l1' l2' xs') l1 l2 ds kq i xs1 = some ys) ∧ Aside0 (Kd.S k34 34 w' w0.heap.size (fun k => P k ∨ w2.heap.size ≤ k) v3 xs1) ∧ Aside0 (Kept w2 w' P) ∧ Aside0 (Below w0.heap.size w0 w'))
   case atStart => exact ⟨0, xs, rfl, ⟨zq62⟩, HL, ⟨Kd.S_mono HS2.out (fun k hk => .inl hk)⟩, ⟨Kept.refl _ _⟩, ⟨HB2.out⟩⟩
   case round =>
    have HSZ2 := am HBw.out.size
    clear HB2 HS2
    obtain ⟨i, xs1, rfl, HI, HA, HO, HK, HB3⟩ := hrel
    have HR9' := am (Kd.R_step (Kd.R_tight rfl HR9.out) (fun k hk hlt => HK.out.2 k hlt (fun hp => by have h1_ := HPw.out k hp; have h2_ := Kd.R_base HR9.out k hk.symm; omega)))
    cases gk with
    | zero =>
     have H := HA.out
     simp only [impl_all.lp, Option.some.injEq] at H
     subst H
     have HI0 := HI.out
     have ct : decide ((i : Int) < (ds.length : Int)) = false := decide_eq_false zq62
     go_wp2
     go_ret
     exact ⟨_, rfl, Kd.S_mono HO.out (fun k hk => hk.elim .inl (fun h_ => .inr (.inr (Nat.le_trans HSZ2.out h_)))), HB3.out, Kept.then_ (Kept.of_below HBw.out P) HK.out (fun k hk => .inl hk)⟩
    | succ k1 =>
     have H := HA.out
     simp only [impl_all.lp] at H
     obtain ⟨cl, hcl, H⟩ := Option.bind_eq_some_iff.1 H
     by_cases hc1 : cl.length < 1000
     case neg => rw [if_neg hc1] at H; cases H
     rw [if_pos hc1] at H
     obtain ⟨q, hq, H⟩ := Option.bind_eq_some_iff.1 H
     obtain ⟨ys1, hg, H⟩ := Option.bind_eq_some_iff.1 H
     have HI0 := HI.out
     have p9 : (0 : Int) ≤ (i : Int) := zq62
     have q9 : (i : Int) < ds.length := zq62
     have ct : decide ((i : Int) < (ds.length : Int)) = true := decide_eq_true q9
     obtain ⟨ad9, e9, hx9⟩ := Kd.at_int (Kd.R_reads' HR9'.out).2.2 (i : Int) p9 q9
     subst e9
     simp only [Int.toNat_natCast] at hx9
     obtain ⟨y5, ny5⟩ : ∃ y, y = cl ++ [rd ds (i : Int)] := ⟨_, rfl⟩
     rw [← ny5] at hg
     have NY := am ny5
     clear ny5
     have HCL := am hcl
     have HQ := am hq
     have HG := am hg
     have HT := am H
     have HC1 := am hc1
     have H13 := am (Kd.F_kept (Kd.R_F H12.out) HK.out HP1.out)
     have H23 := am (Kd.F_kept H22.out HK.out HP2.out)
     have HL1 : Aside0 (l1.length ≤ c1) := am (Kd.R_reads' H12.out).2.1
     clear hcl hq hg H hc1
     have p9' := eq_true p9
     have q9' := eq_true q9
     have HMX := am (Kd.F_max (Kd.R_F HR9'.out))
     go_wp2_with (first | (go_at_call 62; (with_reducible refine (slices_Clone_int_int.calls _ _ l1 cl _ ?side1 HL1.out HCL.out).mono ?_); (case side1 => exact Kd.F_now H13.out); rintro e w4 ⟨v4, rfl, hr4, hb4⟩; obtain ⟨A4, c4, e4⟩ := Kd.R_slice hr4; subst e4; have HR4 := am hr4; have HB4 := am hb4; clear hr4 hb4) | ((with_reducible refine gate_builtin (b := .append) (xs := #[.tmp 31, .tmp 33]) rfl ?_); at_builtin; refine Kd.R_append (Kd.int .i64) (w0 := wr) wr.heap.size rfl (.tmp 31) (.tmp 33) 24 3 (.int .i64 0) 8 rfl Try.underlying24 info3 rfl zq36 zq62 (.slice A4 cl.length c4) cl (rd ds (i : Int)) [.int .i64 (rd ds (i : Int))] (fun _ => True) (fun _ => False) rfl rfl ?aP (fun _ hk => hk.elim) ?aF ?aO ?aB ?aS ?aL ?_; (case aP => exact rfl); (case aF => exact zq145); (case aO => first | exact HR4.out | exact Kd.R_mono HR4.out (fun _ _ => trivial)); (case aB => exact HB4.out); (case aS => exact HB4.out.size); (case aL => have := HC1.out; omega); intro v5 w5 ho hb hg5 hat; rw [← NY.out] at ho; obtain ⟨A5, c5, e5⟩ := Kd.R_slice ho; subst e5; have HR5 := am ho; have HB5 := am hb; clear ho hb hg5 hat) | (go_at_call 37; (with_reducible refine (impl_exchanged.calls _ _ l2 (rd ds (i : Int)) q _ ?side1 HC2.out HQ.out).mono ?_); (case side1 => exact Kd.F_now (Kd.F_below H23.out HB5.out)); rintro e w6 ⟨v6, rfl, hr6, hb6⟩; obtain ⟨A6, c6, e6⟩ := Kd.R_slice hr6; subst e6; have HR6 := am hr6; have HB6 := am (below_step HB5.out hb6); have HR56 := am (Kd.R_below HR5.out hb6); have HZ5 := am HB5.out.size; clear hr6 hb6) | (go_at_call 57; (with_reducible refine (impl_all.calls_g d a0 (fun k => some k = (Value.slice A5 y5.length c5).ownBlock) A5 c5 y5 (fun k => some k = (Value.slice A6 q.length c6).ownBlock) A6 c6 q (fun k => (P k ∨ w2.heap.size ≤ k) ∧ k < wr.heap.size) _ xs1 ys1 w0 _ ?r1 ?r2 ?r3 ?r4 ?r5 ?r6 ?r7 ?r8 HG.out).mono ?_); (case r1 => exact below_step HB3.out HB6.out); (case r2 => exact Kd.R_lower (Kd.R_tight rfl HR56.out) HB3.out.size); (case r3 => exact fun k hk hp => by have h1_ := Kd.R_base HR56.out k hk.symm; have h2_ := hp.2; omega); (case r4 => exact Kd.R_F (Kd.R_tight rfl HR6.out)); (case r5 => exact (Kd.R_reads' HR6.out).2.1); (case r6 => exact fun k hk hp => by have h1_ := Kd.R_base HR6.out k hk.symm; have h2_ := hp.2; have h3_ := HZ5.out; omega); (case r7 => exact Kd.S_below (Kd.S_mono (Kd.S_bound HO.out) (fun k hk => ⟨hk.1, hk.2.2.1⟩)) HB6.out); (case r8 => exact fun k hk => Nat.lt_of_lt_of_le hk.2 HB6.out.size); rintro e w7 ⟨v7, rfl, hs7, hb7, hk7⟩; have HO7 := am (Kd.S_mono (ok' := fun k => P k ∨ w2.heap.size ≤ k) hs7 (fun k hk => hk.elim (fun h_ => h_.1) (fun h_ => h_.elim (fun h_ => .inr (Nat.le_trans HK.out.1 (Kd.R_base HR56.out k h_.symm))) (fun h_ => .inr (Nat.le_trans HK.out.1 (Nat.le_trans HB6.out.size h_)))))); have HB7 := am hb7; have HK7 := am (Kept.then_ (Kept.below HK.out HB6.out) hk7 (fun k hk => hk.1)); clear hs7 hb7 hk7))
     go_roundg k1
     case measure => omega
     case rel => exact ⟨i + 1, ys1, (by have h_ := HMX.out; first | rfl | (simp; done) | (simp [wrap64]; omega)), ⟨zq62⟩, HT, HO7, HK7, HB7⟩
/-! ### impl_listed: function 28 -/
open Classical in
noncomputable def impl_listed.ev {α : Type} (g : Nat → Option α) : Option α := if h : ∃ k r, g k = some r then g h.choose else none
theorem impl_listed.ev_some {α : Type} {g : Nat → Option α} {r : α} (h : impl_listed.ev g = some r) : ∃ k, g k = some r := by
 unfold impl_listed.ev at h
 split at h
 ·exact ⟨_, h⟩
 ·cases h
noncomputable def impl_listed.f (l0 : List Int) : Option ((List S34) × Bool) := (impl_listed.ev fun k => impl_isCounted.f k l0).bind fun t => if t = true then ((impl_counter_count.f l0).bind fun r => if r > 800 then some ([], false) else (impl_listed.ev fun d => impl_all.g d (l0.length : Int) [] l0 []).bind fun x => some (x, true)) else some ([], false)
theorem impl_listed.all0 (d : Nat) (a0 : Int) (A0 : Option Addr) (c0 : Nat) (l0 : List Int) (ys : List S34) (w0 w : World) (hB : Below w0.heap.size w0 w) (h2 : Kd.C (Kd.int .i64) w A0 l0.length l0) (hc0 : l0.length ≤ c0) (h : impl_all.g d a0 [] l0 [] = some ys) :
  Calls Try.prog 57 #[.int .i64 a0, .slice none 0 0, .slice A0 l0.length c0, .slice none 0 0] w fun e w' => ∃ v0_ : Value, e = .returned v0_ ∧ Kd.S k34 34 w' w0.heap.size (fun _ => True) v0_ ys ∧ Below w0.heap.size w0 w' := by
 have := impl_all.calls_g d a0 (fun _ => False) none 0 [] (fun k => k < w.heap.size) A0 c0 l0 (fun _ => False) (.slice none 0 0) [] ys w0 w hB (Kd.R_nil _ _ _ _ _) (fun _ h_ => h_.elim) (Kd.C_F (Kd.heap_int .i64) h2) hc0 (fun _ _ h_ => h_) (Kd.S_nil _ _ _ _ _) (fun _ h_ => h_.elim) h
 refine this.mono ?_
 rintro e w' ⟨v, rfl, hs, hb, _⟩
 exact ⟨v, rfl, Kd.S_mono hs (fun _ _ => trivial), hb⟩
theorem impl_listed.calls (A0 : Option Addr) (c0 : Nat) (l0 : List Int) (r1 : List S34) (r2 : Bool) (w : World) (hr0 : Kd.C (Kd.int .i64) w A0 l0.length l0) (hc0 : l0.length ≤ c0) (h : impl_listed.f l0 = some (r1, r2)) :
  Calls Try.prog 28 #[.slice A0 l0.length c0] w fun e w' => ∃ v0_ : Value, e = .returned (.tuple #[v0_, .bool r2]) ∧ Kd.S k34 34 w' w.heap.size (fun _ => True) v0_ r1 ∧ Below w.heap.size w w' := by
 have HR0 := am hr0
 have HC0 := am hc0
 clear hr0 hc0
 unfold impl_listed.f at h
 obtain ⟨t, ht, h⟩ := Option.bind_eq_some_iff.1 h
 obtain ⟨kt, ht⟩ := impl_listed.ev_some ht
 have HT := am ht
 clear ht
 cases t with
 | false =>
  rw [if_neg zq36] at h
  simp only [Option.some.injEq, Prod.mk.injEq] at h
  obtain ⟨rfl, rfl⟩ := h
  go_enter Try.func28, Try.ntmps28
  go_wp2_with (go_at_call 31; (with_reducible refine (impl_isCounted.calls kt _ _ l0 false _ ?side1 HC0.out HT.out).mono ?_); (case side1 => exact HR0.out); rintro e w' ⟨rfl, ⟨nd, rfl⟩⟩)
  go_ret2
  exact ⟨_, rfl, Kd.S_nil _ _ _ _ _, pw_below_drewN (Below.refl _ _) nd⟩
 | true =>
  rw [if_pos rfl] at h
  obtain ⟨r, hr, h⟩ := Option.bind_eq_some_iff.1 h
  have HRR := am hr
  clear hr
  have hmm := @run_makeMap Try.prog
  by_cases c : r > 800
  ·rw [if_pos c] at h
   simp only [Option.some.injEq, Prod.mk.injEq] at h
   obtain ⟨rfl, rfl⟩ := h
   have cb : decide (800 < r) = true := decide_eq_true c
   go_enter Try.func28, Try.ntmps28
   go_wp2_with (first | (go_at_call 31; (with_reducible refine (impl_isCounted.calls kt _ _ l0 true _ ?side1 HC0.out HT.out).mono ?_); (case side1 => exact HR0.out); rintro e w' ⟨rfl, ⟨nd, rfl⟩⟩) | (go_at_call 32; (with_reducible refine (impl_counter_count.calls w.heap.size 0 _ _ l0 r w _ ?side1 (Nat.le_refl _) ?side2 zq36 ?side3 HC0.out HRR.out).mono ?_); (case side1 => exact zq22); (case side2 => exact impl_counter_count.Mem.made _); (case side3 => exact zq154); rintro e w3 ⟨rfl, hm3, hb3, hk3⟩; have HB3 := am hb3; clear hm3 hb3 hk3))
   go_ret2
   exact ⟨_, rfl, Kd.S_nil _ _ _ _ _, HB3.out⟩
  ·rw [if_neg c] at h
   obtain ⟨x, hx, h⟩ := Option.bind_eq_some_iff.1 h
   simp only [Option.some.injEq, Prod.mk.injEq] at h
   obtain ⟨rfl, rfl⟩ := h
   obtain ⟨kx, hx⟩ := impl_listed.ev_some hx
   have HX := am hx
   clear hx
   have cb : decide (800 < r) = false := decide_eq_false c
   go_enter Try.func28, Try.ntmps28
   go_wp2_with (first | (go_at_call 31; (with_reducible refine (impl_isCounted.calls kt _ _ l0 true _ ?side1 HC0.out HT.out).mono ?_); (case side1 => exact HR0.out); rintro e w' ⟨rfl, ⟨nd, rfl⟩⟩) | (go_at_call 32; (with_reducible refine (impl_counter_count.calls w.heap.size 0 _ _ l0 r w _ ?side1 (Nat.le_refl _) ?side2 zq36 ?side3 HC0.out HRR.out).mono ?_); (case side1 => exact zq22); (case side2 => exact impl_counter_count.Mem.made _); (case side3 => exact zq154); rintro e w3 ⟨rfl, hm3, hb3, hk3⟩; have HB3 := am hb3; clear hm3 hb3 hk3) | (go_at_call 57; (with_reducible refine (impl_listed.all0 kx _ _ _ l0 x w _ ?side1 ?side2 HC0.out HX.out).mono ?_); (case side1 => repeat (first | exact HB3.out | apply below_alloc | apply pw_below_drewN | apply below_drew1)); (case side2 => exact Kd.C_below HR0.out HB3.out); rintro e w4 ⟨v4, rfl, hr4, hb4⟩; have HR4 := am hr4; have HB4 := am hb4; clear hr4 hb4))
   go_ret2
   exact ⟨_, rfl, HR4.out, HB4.out⟩
/-! ### impl_AllLeast: function 6 -/
def impl_AllLeast.f (l0 : List Int) : Option ((List (S34)) × Bool) := (impl_listed.f l0).bind fun bt228 => (some (bt228.1, bt228.2))
theorem impl_AllLeast.calls (A0 : Option Addr) (c0 : Nat) (l0 : List Int) (r1 : List (S34)) (r2 : Bool) (w : World) (hr0 : Kd.C (Kd.int .i64) w A0 l0.length l0) (hc0 : l0.length ≤ c0) (h : impl_AllLeast.f l0 = some (r1, r2)) :
  Calls Try.prog 6 #[.slice A0 l0.length c0] w fun e w' => ∃ v0_ : Value, e = .returned (.tuple #[v0_, .bool r2]) ∧ Kd.S k34 34 w' w.heap.size (fun _ => True) v0_ r1 ∧ Below w.heap.size w w' := by
 have HR0 := am hr0
 have HC0 := am hc0
 clear hr0 hc0
 have HB := am (Below.refl w.heap.size w)
 have H : ((impl_listed.f l0).bind fun bt228 => (some (bt228.1, bt228.2))) = some (r1, r2) := h
 clear h
 replace H := Option.bind_eq_some_iff.mp H
 obtain ⟨⟨t228, t229⟩, A20, H⟩ := H
 (try dsimp only at H)
 have A2 := am A20
 clear A20
 simp only [Option.some.injEq, Prod.mk.injEq] at H
 obtain ⟨rfl, rfl⟩ := H
 go_enter Try.func6, Try.ntmps6
 go_wp2_with (first | ((with_reducible refine gate_callee (f := 28) rfl ?_); refine goesL_ (some 5) rfl rfl Try.func28 zq26 rfl #[.slice A0 l0.length c0] rfl zq1 ?_; (with_reducible refine (impl_listed.calls _ _ l0 t228 t229 _ ?side1 ?side2 A2.out).mono ?_); (case side1 => exact zq25); (case side2 => exact HC0.out); rintro e w3 ⟨v230, rfl, ho0, hb⟩; refine ⟨_, rfl, ?_⟩; have HO231 := am (Kd.S_lower ho0 (below_size (pBq2 HB))); replace HB := am (below_step (pBq2 HB) hb); (try clear hb ho0)))
 go_ret2
 exact ⟨_, zq11, by (with_reducible repeat (first | apply Kd.S_alloc | apply Kd.S_drewN | apply Kd.S_drew)); exact HO231.out, zq12⟩
/-! ### spec_l1In: function 46 -/
def spec_l1In.f (a0 : Int) (a1 : Int) (a2 : Int) : Option (Bool) := if a0 ≥ a1 then (some (decide (a0 ≤ a2))) else (some false)
theorem spec_l1In.calls (a0 : Int) (a1 : Int) (a2 : Int) (r : Bool) (w : World) (h : spec_l1In.f a0 a1 a2 = some r) :
  Calls Try.prog 46 #[.int .i64 a0, .int .i64 a1, .int .i64 a2] w fun e w' => e = .returned (.bool r) ∧ Drawn0 w w' := by
 have H : (if a0 ≥ a1 then (some (decide (a0 ≤ a2))) else (some false)) = some r := h
 clear h
 by_cases c4 : a0 ≥ a1
 ·rw [if_pos c4] at H
  have c4b0 : decide (a1 ≤ a0) = true := decide_eq_true c4
  clear c4
  obtain rfl := Option.some.inj H
  go_enter Try.func46, Try.ntmps46
  go_wp2
  go_ret
  exact ⟨zq13, zq20⟩
 ·rw [if_neg c4] at H
  have c4b0 : decide (a1 ≤ a0) = false := decide_eq_false c4
  clear c4
  obtain rfl := Option.some.inj H
  go_enter Try.func46, Try.ntmps46
  go_wp2
  go_ret
  exact ⟨zq13, zq20⟩
/-! ### spec_l1Has: function 74 -/
def spec_l1Has.l0 : Nat → Int → List Int → Int → Int → Option (Bool)
 | 0, _, _, _, _ => none
 | k + 1, x1, x7, x8, x9 => if x9 < x8 then (if 0 ≤ x9 then (if x9 < (x7.length : Int) then (if (rd x7 x9) = x1 then (some true) else (spec_l1Has.l0 k x1 x7 x8 (wrap64 (x9 + 1)))) else (none)) else (none)) else (some false)
def spec_l1Has.f (k : Nat) (l0 : List Int) (a1 : Int) : Option (Bool) := spec_l1Has.l0 k a1 l0 (l0.length : Int) 0
theorem spec_l1Has.mono_l : ∀ k, (∀ y0 y1 y2 y3, LeO (spec_l1Has.l0 k y0 y1 y2 y3) (spec_l1Has.l0 (k + 1) y0 y1 y2 y3))
 | 0 => fun _ _ _ _ r h => by simp [spec_l1Has.l0] at h
 | k + 1 => by
  have ih0 := spec_l1Has.mono_l k
  ·intro y0 y1 y2 y3
   unfold spec_l1Has.l0
   repeat' first | (with_reducible first | exact ih0 _ _ _ _ | exact LeO.refl _ | exact LeO.none _ | refine LeO.ite ?_ ?_ | refine LeO.bind ?_ (fun _ => ?_))
theorem spec_l1Has.mono : ∀ a0 a1 k, LeO (spec_l1Has.f k a0 a1) (spec_l1Has.f (k + 1) a0 a1) := by
 intro a0 a1 k
 have ih0 := spec_l1Has.mono_l k
 unfold spec_l1Has.f
 repeat' first | (with_reducible first | exact ih0 _ _ _ _ | exact LeO.refl _ | exact LeO.none _ | refine LeO.ite ?_ ?_ | refine LeO.bind ?_ (fun _ => ?_))
theorem spec_l1Has.calls (k : Nat) (A0 : Option Addr) (c0 : Nat) (l0 : List Int) (a1 : Int) (r : Bool) (w : World) (hr0 : Kd.C (Kd.int .i64) w A0 l0.length l0) (hc0 : l0.length ≤ c0) (h : spec_l1Has.f k l0 a1 = some r) :
  Calls Try.prog 74 #[.slice A0 l0.length c0, .int .i64 a1] w fun e w' => e = .returned (.bool r) ∧ Drawn0 w w' := by
 have HR0 := am hr0
 have HC0 := am hc0
 clear hr0 hc0
 have H : (spec_l1Has.l0 k a1 l0 (l0.length : Int) 0) = some r := h
 clear h
 have H' := am H
 clear H
 go_enter Try.func74, Try.ntmps74
 go_wp2
 go_loopg [9] k (fun kq v9 w' => ∃ (x9_1 : Int), v9 = .int .i64 x9_1 ∧ Aside0 (spec_l1Has.l0 kq a1 l0 (l0.length : Int) x9_1 = some r) ∧ Aside0 (kq ≤ k) ∧ Drawn0 w w')
 case atStart => exact ⟨(0), zq13, H', ⟨Nat.le_refl _⟩, zq20⟩
 case round =>
  clear H'
  try clear p2
  obtain ⟨x9_1, rfl, HA, HK1, ⟨m1, rfl⟩⟩ := hrel
  cases gk with
  | zero => exact absurd HA.out (by simp [spec_l1Has.l0])
  | succ k1 =>
   have H := HA.out
   clear HA
   simp only [spec_l1Has.l0] at H
   by_cases c3 : x9_1 < (l0.length : Int)
   ·rw [if_pos c3] at H
    have c3b0 : decide (x9_1 < (l0.length : Int)) = true := decide_eq_true c3
    clear c3
    by_cases c4 : 0 ≤ x9_1
    ·rw [if_pos c4] at H
     have c4b0 : decide (0 ≤ x9_1) = true := decide_eq_true c4
     clear c4
     by_cases c5 : x9_1 < (l0.length : Int)
     ·rw [if_pos c5] at H
      have c5b0 : decide (x9_1 < (l0.length : Int)) = true := decide_eq_true c5
      clear c5
      by_cases c6 : (rd l0 x9_1) = a1
      ·rw [if_pos c6] at H
       have c6b0 : ((rd l0 x9_1) == a1) = true := beq_iff_eq.mpr c6
       have c6b1 : ((rd l0 x9_1) != a1) = false := bne_eq_false_iff_eq.mpr c6
       clear c6
       obtain rfl := Option.some.inj H
       have p232 : 0 ≤ (x9_1 : Int) := of_decide_eq_true zq9
       have q232 : x9_1 < (l0.length : Int) := of_decide_eq_true zq9
       obtain ⟨ad232, e232, hx232_0⟩ := Kd.at_int HR0.out x9_1 p232 q232
       cases e232
       replace p232 := eq_true p232
       replace q232 := eq_true q232
       go_wp2
       go_ret
       exact ⟨zq13, zq20⟩
      ·rw [if_neg c6] at H
       have c6b0 : ((rd l0 x9_1) == a1) = false := beq_eq_false_iff_ne.mpr c6
       have c6b1 : ((rd l0 x9_1) != a1) = true := bne_iff_ne.mpr c6
       have H' := am H
       clear H
       have p232 : 0 ≤ (x9_1 : Int) := of_decide_eq_true zq9
       have q232 : x9_1 < (l0.length : Int) := of_decide_eq_true zq9
       obtain ⟨ad232, e232, hx232_0⟩ := Kd.at_int HR0.out x9_1 p232 q232
       cases e232
       replace p232 := eq_true p232
       replace q232 := eq_true q232
       go_wp2
       go_roundg k1
       case measure => have := HK1.out; omega
       case rel => exact ⟨(wrap64 (x9_1 + 1)), zq13, H', ⟨zq101⟩, zq20⟩
     ·rw [if_neg c5] at H
      exact absurd H zq66
    ·rw [if_neg c4] at H
     exact absurd H zq66
   ·rw [if_neg c3] at H
    have c3b0 : decide (x9_1 < (l0.length : Int)) = false := decide_eq_false c3
    clear c3
    obtain rfl := Option.some.inj H
    go_wp2
    go_ret
    exact ⟨zq13, zq20⟩
/-! ### spec_laOrder: function 60 -/
def spec_laOrder.l0 : Nat → List Int → List Int → Int → Int → Option (Bool)
 | 0, _, _, _, _ => none
 | k + 1, x0, x9, x10, x11 => if x11 < x10 then (if 0 ≤ x11 then (if x11 < (x9.length : Int) then ((spec_l1In.f (rd x9 x11) 0 (wrap64 ((x0.length : Int) - 1))).bind fun t235 => (if t235 = true then (if x11 ≤ (x0.length : Int) then ((spec_l1Has.f k (x0.take (x11 : Int).toNat) (rd x9 x11)).bind fun t240 => (if t240 = true then (some false) else (spec_laOrder.l0 k x0 x9 x10 (wrap64 (x11 + 1))))) else (none)) else (some false))) else (none)) else (none)) else (some true)
def spec_laOrder.f (k : Nat) (l0 : List Int) : Option (Bool) := (spec_l1In.f (l0.length : Int) 1 8).bind fun t233 => (if t233 = true then (spec_laOrder.l0 k l0 l0 (l0.length : Int) 0) else (some false))
theorem spec_laOrder.mono_l : ∀ k, (∀ y0 y1 y2 y3, LeO (spec_laOrder.l0 k y0 y1 y2 y3) (spec_laOrder.l0 (k + 1) y0 y1 y2 y3))
 | 0 => fun _ _ _ _ r h => by simp [spec_laOrder.l0] at h
 | k + 1 => by
  have ih0 := spec_laOrder.mono_l k
  ·intro y0 y1 y2 y3
   unfold spec_laOrder.l0
   repeat' first | (with_reducible first | exact ih0 _ _ _ _ | exact spec_l1Has.mono _ _ _ | exact LeO.refl _ | exact LeO.none _ | refine LeO.ite ?_ ?_ | refine LeO.bind ?_ (fun _ => ?_))
theorem spec_laOrder.mono : ∀ a0 k, LeO (spec_laOrder.f k a0) (spec_laOrder.f (k + 1) a0) := by
 intro a0 k
 have ih0 := spec_laOrder.mono_l k
 unfold spec_laOrder.f
 repeat' first | (with_reducible first | exact ih0 _ _ _ _ | exact spec_l1Has.mono _ _ _ | exact LeO.refl _ | exact LeO.none _ | refine LeO.ite ?_ ?_ | refine LeO.bind ?_ (fun _ => ?_))
theorem spec_laOrder.calls (k : Nat) (A0 : Option Addr) (c0 : Nat) (l0 : List Int) (r : Bool) (w : World) (hr0 : Kd.C (Kd.int .i64) w A0 l0.length l0) (hc0 : l0.length ≤ c0) (h : spec_laOrder.f k l0 = some r) :
  Calls Try.prog 60 #[.slice A0 l0.length c0] w fun e w' => e = .returned (.bool r) ∧ Drawn0 w w' := by
 have HR0 := am hr0
 have HC0 := am hc0
 clear hr0 hc0
 have H : ((spec_l1In.f (l0.length : Int) 1 8).bind fun t233 => (if t233 = true then (spec_laOrder.l0 k l0 l0 (l0.length : Int) 0) else (some false))) = some r := h
 clear h
 obtain ⟨t233, A2, H⟩ := zS H
 (try dsimp only at H)
 by_cases c3 : t233 = true
 ·subst c3
  rw [if_pos rfl] at H
  have H' := am H
  clear H
  go_enter Try.func60, Try.ntmps60
  go_wp2_with (first | ((with_reducible refine gate_callee (f := 46) rfl ?_); refine goesL_ (some 7) rfl rfl Try.func46 zq26 rfl #[.int .i64 (l0.length : Int), .int .i64 1, .int .i64 8] rfl zq1 ?_; (with_reducible refine (spec_l1In.calls (l0.length : Int) 1 8 true _ A2.out).mono ?_); rintro e w' ⟨rfl, ⟨nd, rfl⟩⟩; refine ⟨_, rfl, ?_⟩))
  go_loopg [11] k (fun kq v11 w' => ∃ (x11_1 : Int), v11 = .int .i64 x11_1 ∧ Aside0 (spec_laOrder.l0 kq l0 l0 (l0.length : Int) x11_1 = some r) ∧ Aside0 (kq ≤ k) ∧ Drawn0 w w')
  case atStart => exact ⟨(0), zq13, H', ⟨Nat.le_refl _⟩, zq20⟩
  case round =>
   clear H'
   try clear p2
   try clear c3
   obtain ⟨x11_1, rfl, HA, HK1, ⟨m1, rfl⟩⟩ := hrel
   cases gk with
   | zero => exact absurd HA.out (by simp [spec_laOrder.l0])
   | succ k1 =>
    have H := HA.out
    clear HA
    simp only [spec_laOrder.l0] at H
    by_cases c4 : x11_1 < (l0.length : Int)
    ·rw [if_pos c4] at H
     have c4b0 : decide (x11_1 < (l0.length : Int)) = true := decide_eq_true c4
     clear c4
     by_cases c5 : 0 ≤ x11_1
     ·rw [if_pos c5] at H
      have c5b0 : decide (0 ≤ x11_1) = true := decide_eq_true c5
      clear c5
      by_cases c6 : x11_1 < (l0.length : Int)
      ·rw [if_pos c6] at H
       have c6b0 : decide (x11_1 < (l0.length : Int)) = true := decide_eq_true c6
       clear c6
       obtain ⟨t235, A7, H⟩ := zS H
       (try dsimp only at H)
       by_cases c8 : t235 = true
       ·subst c8
        rw [if_pos rfl] at H
        have c9b0 := eq_true (of_decide_eq_true zq9 : 0 ≤ x11_1)
        by_cases c10 : x11_1 ≤ (l0.length : Int)
        ·rw [if_pos c10] at H
         have c10b0 := eq_true c10
         have c10b1 : decide (x11_1 ≤ (l0.length : Int)) = true := decide_eq_true c10
         clear c10
         obtain ⟨y236, hy236⟩ : ∃ y_ : List Int, y_ = (l0.take (x11_1 : Int).toNat) := ⟨_, rfl⟩
         replace H : ((spec_l1Has.f k1 y236 (rd l0 x11_1)).bind fun t240 => (if t240 = true then (some false) else (spec_laOrder.l0 k1 l0 l0 (l0.length : Int) (wrap64 (x11_1 + 1))))) = some r := by first | (rw [hy236]; exact zH) | exact zH
         have Ny236 := am hy236
         clear hy236
         obtain ⟨t240, A11, H⟩ := zS H
         (try dsimp only at H)
         by_cases c12 : t240 = true
         ·subst c12
          rw [if_pos rfl] at H
          obtain rfl := Option.some.inj H
          have p234 : 0 ≤ (x11_1 : Int) := of_decide_eq_true zq9
          have q234 : x11_1 < (l0.length : Int) := of_decide_eq_true zq9
          obtain ⟨ad234, e234, hx234_0⟩ := Kd.at_int HR0.out x11_1 p234 q234
          cases e234
          replace p234 := eq_true p234
          replace q234 := eq_true q234
          go_wp2_with (first | ((with_reducible refine gate_callee (f := 46) rfl ?_); refine goesL_ (some 20) rfl rfl Try.func46 zq26 rfl #[.int .i64 (rd l0 x11_1), .int .i64 0, .int .i64 (wrap64 ((l0.length : Int) - 1))] rfl zq1 ?_; (with_reducible refine (spec_l1In.calls (rd l0 x11_1) 0 (wrap64 ((l0.length : Int) - 1)) true _ A7.out).mono ?_); rintro e w' ⟨rfl, ⟨nd, rfl⟩⟩; refine ⟨_, rfl, ?_⟩; have q13 : (x11_1 : Int) ≤ ((l0.length : Int) : Int) := of_decide_eq_true zq9; obtain ⟨i013, hi013, _, hsz13, _⟩ := info_parts info3; have hroom13 : l0.length ≤ c0 := HC0.out; have hC13 : Kd.C (Kd.int .i64) _ (some ad234) l0.length l0 := HR0.out; have hcut13 := cut_to (P := Try.prog) 24 3 .i64 Try.underlying24 hi013 (some ad234) l0.length c0 x11_1 (of_decide_eq_true zq9) q13 hroom13; have hr13 := Kd.C_take (m := (x11_1 : Int).toNat) hC13 zq62; have hy13 : y236.length = (x11_1 : Int).toNat := (by rw [Ny236.out, List.length_take]; omega); rw [← Ny236.out] at hr13; rw [← hy13] at hcut13; have HR239 := am hr13; have HC239 := am (show y236.length ≤ c0 from zq62); clear hr13 hC13 hroom13 hi013 hsz13; have KY13 := am hy13; clear hy13; replace q13 := eq_true q13) | (go_at_call 74; refine calls_of_args (args' := #[.slice (some ad234) y236.length c0, .int .i64 (rd l0 x11_1)]) ?cuta241 ?_; (case cuta241 => exact zq49); (with_reducible refine (spec_l1Has.calls k1 _ _ y236 (rd l0 x11_1) true _ ?side1 ?side2 A11.out).mono ?_); (case side1 => exact zq172); (case side2 => exact HC239.out); rintro e w' ⟨rfl, ⟨nd, rfl⟩⟩))
          go_ret
          exact ⟨zq13, zq20⟩
         ·replace c12 := Bool.eq_false_iff.mpr c12
          subst c12
          rw [if_neg (show ¬ (false = true) by decide)] at H
          have H' := am H
          clear H
          have p234 : 0 ≤ (x11_1 : Int) := of_decide_eq_true zq9
          have q234 : x11_1 < (l0.length : Int) := of_decide_eq_true zq9
          obtain ⟨ad234, e234, hx234_0⟩ := Kd.at_int HR0.out x11_1 p234 q234
          cases e234
          replace p234 := eq_true p234
          replace q234 := eq_true q234
          go_wp2_with (first | ((with_reducible refine gate_callee (f := 46) rfl ?_); refine goesL_ (some 20) rfl rfl Try.func46 zq26 rfl #[.int .i64 (rd l0 x11_1), .int .i64 0, .int .i64 (wrap64 ((l0.length : Int) - 1))] rfl zq1 ?_; (with_reducible refine (spec_l1In.calls (rd l0 x11_1) 0 (wrap64 ((l0.length : Int) - 1)) true _ A7.out).mono ?_); rintro e w' ⟨rfl, ⟨nd, rfl⟩⟩; refine ⟨_, rfl, ?_⟩; have q14 : (x11_1 : Int) ≤ ((l0.length : Int) : Int) := of_decide_eq_true zq9; obtain ⟨i014, hi014, _, hsz14, _⟩ := info_parts info3; have hroom14 : l0.length ≤ c0 := HC0.out; have hC14 : Kd.C (Kd.int .i64) _ (some ad234) l0.length l0 := HR0.out; have hcut14 := cut_to (P := Try.prog) 24 3 .i64 Try.underlying24 hi014 (some ad234) l0.length c0 x11_1 (of_decide_eq_true zq9) q14 hroom14; have hr14 := Kd.C_take (m := (x11_1 : Int).toNat) hC14 zq62; have hy14 : y236.length = (x11_1 : Int).toNat := (by rw [Ny236.out, List.length_take]; omega); rw [← Ny236.out] at hr14; rw [← hy14] at hcut14; have HR239 := am hr14; have HC239 := am (show y236.length ≤ c0 from zq62); clear hr14 hC14 hroom14 hi014 hsz14; have KY14 := am hy14; clear hy14; replace q14 := eq_true q14) | (go_at_call 74; refine calls_of_args (args' := #[.slice (some ad234) y236.length c0, .int .i64 (rd l0 x11_1)]) ?cuta242 ?_; (case cuta242 => exact zq49); (with_reducible refine (spec_l1Has.calls k1 _ _ y236 (rd l0 x11_1) false _ ?side1 ?side2 A11.out).mono ?_); (case side1 => exact zq172); (case side2 => exact HC239.out); rintro e w' ⟨rfl, ⟨nd, rfl⟩⟩))
          go_roundg k1
          case measure => have := HK1.out; omega
          case rel => exact ⟨(wrap64 (x11_1 + 1)), zq13, H', ⟨zq101⟩, zq20⟩
        ·rw [if_neg c10] at H
         exact absurd H zq66
       ·replace c8 := Bool.eq_false_iff.mpr c8
        subst c8
        rw [if_neg (show ¬ (false = true) by decide)] at H
        obtain rfl := Option.some.inj H
        have p234 : 0 ≤ (x11_1 : Int) := of_decide_eq_true zq9
        have q234 : x11_1 < (l0.length : Int) := of_decide_eq_true zq9
        obtain ⟨ad234, e234, hx234_0⟩ := Kd.at_int HR0.out x11_1 p234 q234
        cases e234
        replace p234 := eq_true p234
        replace q234 := eq_true q234
        go_wp2_with (first | ((with_reducible refine gate_callee (f := 46) rfl ?_); refine goesL_ (some 20) rfl rfl Try.func46 zq26 rfl #[.int .i64 (rd l0 x11_1), .int .i64 0, .int .i64 (wrap64 ((l0.length : Int) - 1))] rfl zq1 ?_; (with_reducible refine (spec_l1In.calls (rd l0 x11_1) 0 (wrap64 ((l0.length : Int) - 1)) false _ A7.out).mono ?_); rintro e w' ⟨rfl, ⟨nd, rfl⟩⟩; refine ⟨_, rfl, ?_⟩))
        go_ret
        exact ⟨zq13, zq20⟩
      ·rw [if_neg c6] at H
       exact absurd H zq66
     ·rw [if_neg c5] at H
      exact absurd H zq66
    ·rw [if_neg c4] at H
     have c4b0 : decide (x11_1 < (l0.length : Int)) = false := decide_eq_false c4
     clear c4
     obtain rfl := Option.some.inj H
     go_wp2
     go_ret
     exact ⟨zq13, zq20⟩
 ·replace c3 := Bool.eq_false_iff.mpr c3
  subst c3
  rw [if_neg (show ¬ (false = true) by decide)] at H
  obtain rfl := Option.some.inj H
  go_enter Try.func60, Try.ntmps60
  go_wp2_with (first | ((with_reducible refine gate_callee (f := 46) rfl ?_); refine goesL_ (some 7) rfl rfl Try.func46 zq26 rfl #[.int .i64 (l0.length : Int), .int .i64 1, .int .i64 8] rfl zq1 ?_; (with_reducible refine (spec_l1In.calls (l0.length : Int) 1 8 false _ A2.out).mono ?_); rintro e w' ⟨rfl, ⟨nd, rfl⟩⟩; refine ⟨_, rfl, ?_⟩))
  go_ret
  exact ⟨zq13, zq20⟩
/-! ### spec_alGood: function 33 -/
def spec_alGood.f (k : Nat) (l0 : List Int) : Option (Bool) := (spec_laOrder.f k l0).bind fun t243 => (if t243 = true then ((spec_l1In.f (l0.length : Int) 2 6).bind fun t244 => (some t244)) else (some false))
theorem spec_alGood.mono : ∀ a0 k, LeO (spec_alGood.f k a0) (spec_alGood.f (k + 1) a0) := by
 intro a0 k
 unfold spec_alGood.f
 repeat' first | (with_reducible first | exact spec_laOrder.mono _ _ | exact LeO.refl _ | exact LeO.none _ | refine LeO.ite ?_ ?_ | refine LeO.bind ?_ (fun _ => ?_))
theorem spec_alGood.calls (k : Nat) (A0 : Option Addr) (c0 : Nat) (l0 : List Int) (r : Bool) (w : World) (hr0 : Kd.C (Kd.int .i64) w A0 l0.length l0) (hc0 : l0.length ≤ c0) (h : spec_alGood.f k l0 = some r) :
  Calls Try.prog 33 #[.slice A0 l0.length c0] w fun e w' => e = .returned (.bool r) ∧ Drawn0 w w' := by
 have HR0 := am hr0
 have HC0 := am hc0
 clear hr0 hc0
 have H : ((spec_laOrder.f k l0).bind fun t243 => (if t243 = true then ((spec_l1In.f (l0.length : Int) 2 6).bind fun t244 => (some t244)) else (some false))) = some r := h
 clear h
 obtain ⟨t243, A2, H⟩ := zS H
 (try dsimp only at H)
 by_cases c3 : t243 = true
 ·subst c3
  rw [if_pos rfl] at H
  obtain ⟨t244, A4, H⟩ := zS H
  (try dsimp only at H)
  obtain rfl := Option.some.inj H
  go_enter Try.func33, Try.ntmps33
  go_wp2_with (first | ((with_reducible refine gate_callee (f := 60) rfl ?_); refine goesL_ (some 4) rfl rfl Try.func60 zq26 rfl #[.slice A0 l0.length c0] rfl zq1 ?_; (with_reducible refine (spec_laOrder.calls k _ _ l0 true _ ?side1 ?side2 A2.out).mono ?_); (case side1 => exact zq25); (case side2 => exact HC0.out); rintro e w' ⟨rfl, ⟨nd, rfl⟩⟩; refine ⟨_, rfl, ?_⟩) | (go_at_call 46; (with_reducible refine (spec_l1In.calls (l0.length : Int) 2 6 t244 _ A4.out).mono ?_); rintro e w' ⟨rfl, ⟨nd, rfl⟩⟩))
  go_ret
  exact ⟨zq13, zq20⟩
 ·replace c3 := Bool.eq_false_iff.mpr c3
  subst c3
  rw [if_neg (show ¬ (false = true) by decide)] at H
  obtain rfl := Option.some.inj H
  go_enter Try.func33, Try.ntmps33
  go_wp2_with (first | ((with_reducible refine gate_callee (f := 60) rfl ?_); refine goesL_ (some 4) rfl rfl Try.func60 zq26 rfl #[.slice A0 l0.length c0] rfl zq1 ?_; (with_reducible refine (spec_laOrder.calls k _ _ l0 false _ ?side1 ?side2 A2.out).mono ?_); (case side1 => exact zq25); (case side2 => exact HC0.out); rintro e w' ⟨rfl, ⟨nd, rfl⟩⟩; refine ⟨_, rfl, ?_⟩))
  go_ret
  exact ⟨zq13, zq20⟩
/-! ### spec_alNew: function 34 -/
def spec_alNew.fc : Nat → Nat
 | 0 => 1
 | n + 1 => (n + 1) * spec_alNew.fc n
theorem spec_alNew.fc_le : ∀ n, n < 9 → spec_alNew.fc n ≤ 40320 := by decide
theorem spec_alNew.fc_pos : ∀ n, 1 ≤ spec_alNew.fc n
 | 0 => Nat.le_refl _
 | n + 1 => by rw [spec_alNew.fc]; exact Nat.mul_pos zq62 (spec_alNew.fc_pos n)
def spec_alNew.f (n : Int) : Option Nat := if 0 ≤ n ∧ n ≤ 8 then some (spec_alNew.fc n.toNat) else none
theorem spec_alNew.mul_ok (a j : Nat) (h : (j + 1) * a ≤ 40320) : wrap64 ((a : Int) * ((j : Int) + 1)) = (((j + 1) * a : Nat) : Int) := by
 have h2 : (a : Int) * ((j : Int) + 1) = (((j + 1) * a : Nat) : Int) := by
  rw [Int.natCast_mul, Int.mul_comm]; rfl
 rw [h2]
 generalize (j + 1) * a = p at h ⊢
 unfold wrap64; omega
theorem spec_alNew.set_next (i m : Nat) : (List.replicate i (-1 : Int) ++ List.replicate (m + 1) (0 : Int)).set i (-1) = List.replicate (i + 1) (-1) ++ List.replicate m 0 := by
 rw [List.set_append_right _ _ zq66, List.length_replicate, Nat.sub_self, List.replicate_succ, List.set_cons_zero, List.replicate_succ' (n := i), List.append_assoc]
 rfl
/-- A new counter: its block, its row. -/
structure spec_alNew.Made (n : Nat) (w w' : World) (v : Value) : Prop where mk :: (out : ∃ B G C : Nat, v = .pointer (some ⟨B, 0, none⟩) ∧ w.heap.size ≤ G ∧ G < B ∧ w'.heap[B]? = some (.cells #[.slice (some ⟨G, 0, none⟩) (spec_alNew.fc n) C] 78 (0, 0)) ∧ Kd.R (Kd.int .i64) 3 w' w.heap.size (fun k_ => k_ = G) (.slice (some ⟨G, 0, none⟩) (spec_alNew.fc n) C) (List.replicate (spec_alNew.fc n) (-1)))
set_option maxHeartbeats 4000000 in
set_option maxRecDepth 100000 in
theorem spec_alNew.calls (n : Nat) (hn : n ≤ 8) (w : World) :
  Calls Try.prog 34 #[.int .i64 n] w fun e w' => ∃ v_ : Value, e = .returned v_ ∧ spec_alNew.Made n w w' v_ ∧ Below w.heap.size w w' := by
 have hfl := spec_alNew.fc_le n zq62
 have hfp := spec_alNew.fc_pos n
 have hu1 := Try.underlying78
 go_enter Try.func34, Try.ntmps34
 go_wp2
 go_loopg [3, 4] (n + 1) (fun gg v3 v4 w' => ∃ (j q : Nat), v3 = .int .i64 (spec_alNew.fc j) ∧ v4 = .int .i64 ((j + 1 : Nat) : Int) ∧ 1 ≤ j ∧ j ≤ n + 1 ∧ (j ≤ n ∨ j = 1) ∧ n + 1 - j ≤ gg ∧ w' = w.drewN q)
 case atStart => exact ⟨1, 0, by first | rfl | (simp [spec_alNew.fc]; done), zq177, zq62, zq62, zq62, zq62, zq177⟩
 case round =>
  obtain ⟨j, q, rfl, rfl, hj1, hjn, hj2, hgk, rfl⟩ := hrel
  by_cases hlt : j + 1 ≤ n
  ·have hltz : ((j + 1 : Nat) : Int) ≤ (n : Int) := zq62
   have hb := spec_alNew.fc_le (j + 1) zq62
   have he : spec_alNew.fc (j + 1) = (j + 1) * spec_alNew.fc j := rfl
   have hw : wrap64 ((spec_alNew.fc j : Int) * ((j : Int) + 1)) = ((spec_alNew.fc (j + 1) : Nat) : Int) := spec_alNew.mul_ok _ j hb
   have hw2 : wrap64 (((j + 1 : Nat) : Int) + 1) = ((j + 1 + 1 : Nat) : Int) := by unfold wrap64; omega
   go_wp2
   go_roundg (n + 1 - (j + 1))
   case measure => omega
   case rel => exact ⟨j + 1, _, by rw [hw], by first | rfl | (congr 1; omega), zq62, zq62, zq62, zq62, rfl⟩
  ·have hltz : ¬ ((j + 1 : Nat) : Int) ≤ (n : Int) := zq62
   have hfj : spec_alNew.fc j = spec_alNew.fc n := by
    rcases Nat.lt_or_ge n 1 with h | h
    ·obtain rfl : n = 0 := zq62
     obtain rfl : j = 1 := zq62
     rfl
    ·obtain rfl : j = n := zq62
     rfl
   rw [hfj]
   obtain ⟨N, hN⟩ : ∃ N, N = spec_alNew.fc n := ⟨_, rfl⟩
   rw [← hN] at hfl hfp ⊢
   have HNN := am hN
   clear hN
   clear hfj hj2 hj1 hjn hgk hlt
   have HB := am (Below.refl w.heap.size w)
   have hN0 : (0 : Int) ≤ (N : Int) := Int.natCast_nonneg N
   go_wp2_with (first | ((with_reducible refine gate_dst (N := 16) rfl ?_); refine Kd.R_make (Kd.int .i64) _ 3 rfl (N := 16) rfl 24 _ _ rfl (N : Int) rfl rfl Try.underlying24 (.int .i64 0) 8 info3 rfl zq36 zq62 0 (ok := fun _ => True) (okp := fun _ => True) rfl (fun _ hk => hk) trivial hN0 (by rw [Int.toNat_natCast]; omega) (Below.refl _ _) (Nat.le_refl _) ?_; intro v16 w4 ho5 hb hg_ hnew_; rw [Int.toNat_natCast] at ho5; obtain ⟨G, C, eG, hGb, hGl, _⟩ := Kd.R_form ho5 (by rw [List.length_replicate]; omega); rw [List.length_replicate] at eG; subst eG; have HR := am (Kd.R_tight rfl ho5); have HGB := am (And.intro hGb hGl); clear hGb hGl; have HSZ := am (below_size (w := w) (pBq2 HB)); have HB4 := am (below_step (pBq2 HB) hb); clear hg_ hnew_ hb ho5) | ((with_reducible refine gate_dst (N := 18) rfl ?_); refine zE 18 (cs := #[.slice (some ⟨G, 0, none⟩) N C]) 78 ?_; intro gb hg w5 hbox hb; have hcellB : w5.cell? ⟨gb, 0, none⟩ = some (.slice (some ⟨G, 0, none⟩) N C) := blk_cell hbox 0; have HBOX := am hbox; have HB5 := am (below_step HB4.out hb); have HR5 := am (Kd.R_below HR.out hb); have HG5 := am hg; clear hbox hb hg))
   have hgne : gb ≠ G := by have h1 := HG5.out; have h2 := HGB.out.2; omega
   have HNE := am hgne
   have HR6 := am (show Kd.R (Kd.int .i64) 3 w5 w.heap.size (fun k_ => k_ = G) (.slice (some ⟨G, 0, none⟩) N C) (List.replicate 0 (-1) ++ List.replicate (N - 0) 0) from Kd.R_mono (Kd.R_lower HR5.out HSZ.out) (fun k_ h_ => Option.some.inj (show some k_ = some G from h_)))
   clear HR5 HR hgne hcellB HB HB4 hltz
   go_loopg [24] N (fun gg v24 w' => ∃ (i : Nat), v24 = .int .i64 i ∧ i ≤ N ∧ N - i ≤ gg ∧ Aside0 (Kd.R (Kd.int .i64) 3 w' w.heap.size (fun k_ => k_ = G) (.slice (some ⟨G, 0, none⟩) N C) (List.replicate i (-1) ++ List.replicate (N - i) 0)) ∧ Aside0 (w'.heap[gb]? = some (.cells #[.slice (some ⟨G, 0, none⟩) N C] 78 (0, 0))) ∧ Aside0 (Below w.heap.size w w'))
   case atStart => exact ⟨0, rfl, Nat.zero_le _, zq62, HR6, HBOX, HB5⟩
   case round =>
    clear HR6 HBOX HB5
    obtain ⟨i, rfl, hi, hgk, HRX, HBX, HBB⟩ := hrel
    by_cases hlt : i < N
    ·have hltz : (i : Int) < (N : Int) := zq62
     have h0z : (0 : Int) ≤ (i : Int) := Int.natCast_nonneg i
     have hcellB := blk_cell HBX.out 0
     obtain ⟨hx0, hf0⟩ := Kd.R_celln 0 HRX.out (i : Int) h0z hltz
     have HP7 := Kd.R_putg HRX.out (i : Int) (-1)
     rw [Int.toNat_natCast] at hx0 hf0 HP7
     have hset : (List.replicate i (-1 : Int) ++ List.replicate (N - i) (0 : Int)).set i (-1) = List.replicate (i + 1) (-1) ++ List.replicate (N - (i + 1)) 0 := by
      rw [show N - i = (N - (i + 1)) + 1 by omega]
      exact spec_alNew.set_next i _
     have HSET := am hset
     have hge : w.heap.size ≤ G := HGB.out.1
     have HGE := am hge
     clear hset hge
     have p5 := eq_true h0z
     have q5 := eq_true hltz
     go_wp2_with (first | ((with_reducible refine gate_store (t := 3) (p := 32) rfl ?_); refine store_event (t := 3) (p := 32) (v := ?vo) (w1 := (wr.setCell ⟨G, i, none⟩ (.int .i64 (-1)))) ?hg ?ho ?hn ?hr ?_; (case ho => rfl); (case hg => rfl); (case hn => rfl); (case hr => exact zq53); intro w8 hw; have n0_ := am (show Kd.R (Kd.int .i64) 3 w8 w.heap.size (fun k_ => k_ = G) (.slice (some ⟨G, 0, none⟩) N C) (List.replicate (i + 1) (-1) ++ List.replicate (N - (i + 1)) 0) from by rw [← HSET.out, hw]; exact HP7.1); have n1_ := am (show w8.heap[gb]? = some (.cells #[.slice (some ⟨G, 0, none⟩) N C] 78 (0, 0)) from by rw [hw]; exact blk_far HBX.out HNE.out _); have n2_ := am (show Below w.heap.size w w8 from by rw [hw]; exact below_set HBB.out HGE.out); clear HP7 hw))
     go_roundg (N - (i + 1))
     case measure => omega
     case rel => exact ⟨i + 1, zq168, zq62, zq62, n0_, n1_, n2_⟩
    ·have hltz : ¬ (i : Int) < (N : Int) := zq62
     have hie : i = N := zq62
     subst hie
     go_wp2
     go_ret
     exact ⟨_, rfl, ⟨gb, G, C, rfl, HGB.out.1, by have h1 := HG5.out; have h2 := HGB.out.2; omega, by rw [← HNN.out]; exact HBX.out, by have h_ := HRX.out; rw [Nat.sub_self, List.replicate_zero, List.append_nil] at h_; rw [← HNN.out]; exact h_⟩, HBB.out⟩
/-! ### spec_alSwap: function 47 -/
def spec_alSwap.f (l0 : List Int) (a1 : Int) : Option (List Int) := (spec_l1Own.f l0).bind fun t245 => (if 0 ≤ (wrap64 (a1 + 1)) then (if (wrap64 (a1 + 1)) < (l0.length : Int) then (if 0 ≤ a1 then (if a1 < (t245.length : Int) then (if a1 < (l0.length : Int) then (if (wrap64 (a1 + 1)) < (t245.length : Int) then (some ((t245.set (a1 : Int).toNat (rd l0 (wrap64 (a1 + 1)))).set ((wrap64 (a1 + 1)) : Int).toNat (rd l0 a1))) else (none)) else (none)) else (none)) else (none)) else (none)) else (none))
theorem spec_alSwap.calls (A0 : Option Addr) (c0 : Nat) (l0 : List Int) (a1 : Int) (r : List Int) (w : World) (hr0 : Kd.C (Kd.int .i64) w A0 l0.length l0) (hc0 : l0.length ≤ c0) (h : spec_alSwap.f l0 a1 = some r) :
  Calls Try.prog 47 #[.slice A0 l0.length c0, .int .i64 a1] w fun e w' => ∃ v0_ : Value, e = .returned (v0_) ∧ Kd.R (Kd.int .i64) 3 w' w.heap.size (fun _ => True) v0_ r ∧ Below w.heap.size w w' := by
 have HR0 := am hr0
 have HC0 := am hc0
 clear hr0 hc0
 have HB := am (Below.refl w.heap.size w)
 have H : ((spec_l1Own.f l0).bind fun t245 => (if 0 ≤ (wrap64 (a1 + 1)) then (if (wrap64 (a1 + 1)) < (l0.length : Int) then (if 0 ≤ a1 then (if a1 < (t245.length : Int) then (if a1 < (l0.length : Int) then (if (wrap64 (a1 + 1)) < (t245.length : Int) then (some ((t245.set (a1 : Int).toNat (rd l0 (wrap64 (a1 + 1)))).set ((wrap64 (a1 + 1)) : Int).toNat (rd l0 a1))) else (none)) else (none)) else (none)) else (none)) else (none)) else (none))) = some r := h
 clear h
 obtain ⟨t245, A3, H⟩ := zS H
 (try dsimp only at H)
 obtain ⟨ji4, hji4⟩ : ∃ j_ : Int, (wrap64 (a1 + 1)) = j_ := ⟨_, rfl⟩
 replace H : (if 0 ≤ (ji4) then (if (ji4) < (l0.length : Int) then (if 0 ≤ a1 then (if a1 < (t245.length : Int) then (if a1 < (l0.length : Int) then (if (ji4) < (t245.length : Int) then (some ((t245.set (a1 : Int).toNat (rd l0 (ji4))).set ((ji4) : Int).toNat (rd l0 a1))) else (none)) else (none)) else (none)) else (none)) else (none)) else (none)) = some r := by first | (rw [hji4] at H; exact H) | (simp only [hji4] at H ⊢; exact H)
 (try rw [hji4] at A3)
 have hji4w : (IntKind.i64.wrap (a1 + 1)) = ji4 := (i64_w _).trans hji4
 by_cases c5 : 0 ≤ (ji4)
 ·rw [if_pos c5] at H
  have c5b0 : decide (0 ≤ (ji4)) = true := decide_eq_true c5
  clear c5
  by_cases c6 : (ji4) < (l0.length : Int)
  ·rw [if_pos c6] at H
   have c6b0 : decide ((ji4) < (l0.length : Int)) = true := decide_eq_true c6
   clear c6
   by_cases c7 : 0 ≤ a1
   ·rw [if_pos c7] at H
    have c7b0 : decide (0 ≤ a1) = true := decide_eq_true c7
    clear c7
    by_cases c8 : a1 < (t245.length : Int)
    ·rw [if_pos c8] at H
     have c8b0 : decide (a1 < (t245.length : Int)) = true := decide_eq_true c8
     clear c8
     obtain ⟨y249, hy249⟩ : ∃ y_ : List Int, y_ = (t245.set (a1 : Int).toNat (rd l0 (ji4))) := ⟨_, rfl⟩
     replace H : (if a1 < (l0.length : Int) then (if (ji4) < (t245.length : Int) then (some (y249.set ((ji4) : Int).toNat (rd l0 a1))) else (none)) else (none)) = some r := by first | (rw [hy249]; exact zH) | exact zH
     have Ny249 := am hy249
     clear hy249
     by_cases c10 : a1 < (l0.length : Int)
     ·rw [if_pos c10] at H
      have c10b0 : decide (a1 < (l0.length : Int)) = true := decide_eq_true c10
      clear c10
      by_cases c11 : (ji4) < (t245.length : Int)
      ·rw [if_pos c11] at H
       have c11b0 : decide ((ji4) < (t245.length : Int)) = true := decide_eq_true c11
       clear c11
       obtain ⟨y251, hy251⟩ : ∃ y_ : List Int, y_ = (y249.set ((ji4) : Int).toNat (rd l0 a1)) := ⟨_, rfl⟩
       replace H : (some y251) = some r := by first | (rw [hy251]; exact zH) | exact zH
       have Ny251 := am hy251
       clear hy251
       obtain rfl := Option.some.inj H
       go_enter Try.func47, Try.ntmps47
       go_wp2_with (first | ((with_reducible refine gate_callee (f := 69) rfl ?_); refine goesL_ (some 7) rfl rfl Try.func69 zq26 rfl #[.slice A0 l0.length c0] rfl zq1 ?_; (with_reducible refine (spec_l1Own.calls _ _ l0 t245 _ ?side1 ?side2 A3.out).mono ?_); (case side1 => exact zq25); (case side2 => exact HC0.out); rintro e w13 ⟨v246, rfl, ho0, hb⟩; refine ⟨_, rfl, ?_⟩; have HO247 := am (Kd.R_lower ho0 (below_size (pBq2 HB))); replace HB := am (below_step (pBq2 HB) hb); (try clear hb ho0); have p248 : 0 ≤ ((ji4) : Int) := of_decide_eq_true zq9; have q248 : (ji4) < (l0.length : Int) := of_decide_eq_true zq9; obtain ⟨ad248, e248, hx248_0⟩ := Kd.at_int HR0.out (ji4) p248 q248; cases e248; replace hx248_0 := (HB.out.cell (World.block_lt_of_cell? w _ hx248_0)).trans hx248_0; replace p248 := eq_true p248; replace q248 := eq_true q248; have p9 : 0 ≤ (a1 : Int) := of_decide_eq_true zq9; have q9 : (a1 : Int) < ((t245.length : Int) : Int) := of_decide_eq_true zq9; obtain ⟨go9, co9, eo9, gb9, gl9, cl9, HG9⟩ := Kd.R_form HO247.out zq62; (first | cases eo9 | (injection eo9 with ea_ en_ ec_; (first | subst ea_ | (injection ea_ with ea_; subst ea_)); subst ec_; clear en_)); have GB9 := am gb9; have GG9 := am HG9; clear gb9 gl9 HG9; obtain ⟨hx9_0, hf9_0⟩ := Kd.R_celln 0 HO247.out (a1 : Int) p9 q9; replace p9 := eq_true p9; replace q9 := eq_true q9; obtain ⟨hy14_, hz14_⟩ := Kd.R_celln 0 HO247.out (a1 : Int) (of_decide_eq_true zq9) (of_decide_eq_true zq9); have HP14 := Kd.R_putg HO247.out (a1 : Int) (rd l0 (ji4))) | ((with_reducible refine gate_store (t := 3) (p := 15) rfl ?_); refine store_event (t := 3) (p := 15) (v := ?vo_w15) (w1 := (w13.setCell ⟨go9, (a1 : Int).toNat, none⟩ (.int .i64 (rd l0 (ji4))))) ?hg ?ho ?hn ?hr ?_; (case ho => rfl); (case hg => rfl); (case hn => rfl); (case hr => exact zq53); intro w15 hw; have hg : w13.grownBy w15 (some go9) := (by rw [hw]; exact HP14.2); have hp_ : Kd.R (Kd.int .i64) 3 w15 w.heap.size (fun _ => True) (.slice (some ⟨go9, 0, none⟩) t245.length co9) y249 := (by rw [hw, Ny249.out]; exact HP14.1); clear HP14; replace HO247 := am (hp_); replace HB := am ((by rw [hw]; exact below_set (HB.out) GB9.out : Below w.heap.size w w15)); clear hg hw hp_; have p250 : 0 ≤ (a1 : Int) := of_decide_eq_true zq9; have q250 : a1 < (l0.length : Int) := of_decide_eq_true zq9; obtain ⟨ad250, e250, hx250_0⟩ := Kd.at_int HR0.out a1 p250 q250; obtain rfl : ad248 = ad250 := (by injection e250); replace hx250_0 := (HB.out.cell (World.block_lt_of_cell? w _ hx250_0)).trans hx250_0; replace p250 := eq_true p250; replace q250 := eq_true q250; have p12 : 0 ≤ ((ji4) : Int) := of_decide_eq_true zq9; have q12 : ((ji4) : Int) < ((t245.length : Int) : Int) := of_decide_eq_true zq9; obtain ⟨hx12_0, hf12_0⟩ := Kd.R_celln 0 HO247.out ((ji4) : Int) p12 q12; replace p12 := eq_true p12; replace q12 := eq_true q12; obtain ⟨hy16_, hz16_⟩ := Kd.R_celln 0 HO247.out ((ji4) : Int) (of_decide_eq_true zq9) (of_decide_eq_true zq9); have HP16 := Kd.R_putg HO247.out ((ji4) : Int) (rd l0 a1)) | ((with_reducible refine gate_store (t := 3) (p := 23) rfl ?_); refine store_event (t := 3) (p := 23) (v := ?vo_w17) (w1 := (w15.setCell ⟨go9, ((ji4) : Int).toNat, none⟩ (.int .i64 (rd l0 a1)))) ?hg ?ho ?hn ?hr ?_; (case ho => rfl); (case hg => rfl); (case hn => rfl); (case hr => exact zq53); intro w17 hw; have hg : w15.grownBy w17 (some go9) := (by rw [hw]; exact HP16.2); have hp_ : Kd.R (Kd.int .i64) 3 w17 w.heap.size (fun _ => True) (.slice (some ⟨go9, 0, none⟩) t245.length co9) y251 := (by rw [hw, Ny251.out]; exact HP16.1); clear HP16; replace HO247 := am (hp_); replace HB := am ((by rw [hw]; exact below_set (HB.out) GB9.out : Below w.heap.size w w17)); clear hg hw hp_))
       go_ret
       exact ⟨_, zq153, by (with_reducible repeat (first | apply Kd.R_alloc | apply Kd.R_drewN | apply Kd.R_drew)); exact HO247.out, zq12⟩
      ·rw [if_neg c11] at H
       exact absurd H zq66
     ·rw [if_neg c10] at H
      exact absurd H zq66
    ·rw [if_neg c8] at H
     exact absurd H zq66
   ·rw [if_neg c7] at H
    exact absurd H zq66
  ·rw [if_neg c6] at H
   exact absurd H zq66
 ·rw [if_neg c5] at H
  exact absurd H zq66
/-! ### spec_alRank: function 61 -/
mutual
def spec_alRank.l0 : Nat → List Int → Int → List Int → Int → Int → Option (Int)
 | 0, _, _, _, _, _ => none
 | k + 1, x0, x3, x9, x10, x11 => if x11 < x10 then (if 0 ≤ x11 then (if x11 < (x9.length : Int) then (if 0 ≤ (wrap64 (x11 + 1)) then (if (wrap64 (x11 + 1)) ≤ (x0.length : Int) then ((some (x0.drop ((wrap64 (x11 + 1)) : Int).toNat : List Int)).bind fun y253 => (spec_alRank.l1 k x0 x3 x11 (rd x9 x11) 0 x9 x10 x11 y253 (y253.length : Int) 0)) else (none)) else (none)) else (none)) else (none)) else (some x3)
def spec_alRank.l1 : Nat → List Int → Int → Int → Int → Int → List Int → Int → Int → List Int → Int → Int → Option (Int)
 | 0, _, _, _, _, _, _, _, _, _, _, _ => none
 | k + 1, x0, x3, x4, x5, x6, x9, x10, x11, x19, x20, x21 => if x21 < x20 then (if 0 ≤ x21 then (if x21 < (x19.length : Int) then (if (rd x19 x21) < x5 then (spec_alRank.l1 k x0 x3 x4 x5 (wrap64 (x6 + 1)) x9 x10 x11 x19 x20 (wrap64 (x21 + 1))) else (spec_alRank.l1 k x0 x3 x4 x5 x6 x9 x10 x11 x19 x20 (wrap64 (x21 + 1)))) else (none)) else (none)) else (spec_alRank.l0 k x0 (wrap64 ((wrap64 (x3 * (wrap64 ((x0.length : Int) - x4)))) + x6)) x9 x10 (wrap64 (x11 + 1)))
end
def spec_alRank.f (k : Nat) (l0 : List Int) : Option (Int) := spec_alRank.l0 k l0 0 l0 (l0.length : Int) 0
theorem spec_alRank.mono_l : ∀ k, (∀ y0 y1 y2 y3 y4, LeO (spec_alRank.l0 k y0 y1 y2 y3 y4) (spec_alRank.l0 (k + 1) y0 y1 y2 y3 y4)) ∧ (∀ y0 y1 y2 y3 y4 y5 y6 y7 y8 y9 y10, LeO (spec_alRank.l1 k y0 y1 y2 y3 y4 y5 y6 y7 y8 y9 y10) (spec_alRank.l1 (k + 1) y0 y1 y2 y3 y4 y5 y6 y7 y8 y9 y10))
 | 0 => ⟨fun _ _ _ _ _ r h => by simp [spec_alRank.l0] at h, fun _ _ _ _ _ _ _ _ _ _ _ r h => by simp [spec_alRank.l1] at h⟩
 | k + 1 => by
  obtain ⟨ih0, ih1⟩ := spec_alRank.mono_l k
  refine ⟨?_, ?_⟩
  ·intro y0 y1 y2 y3 y4
   unfold spec_alRank.l0
   repeat' first | (with_reducible first | exact ih0 _ _ _ _ _ | exact ih1 _ _ _ _ _ _ _ _ _ _ _ | exact LeO.refl _ | exact LeO.none _ | refine LeO.ite ?_ ?_ | refine LeO.bind ?_ (fun _ => ?_))
  ·intro y0 y1 y2 y3 y4 y5 y6 y7 y8 y9 y10
   unfold spec_alRank.l1
   repeat' first | (with_reducible first | exact ih0 _ _ _ _ _ | exact ih1 _ _ _ _ _ _ _ _ _ _ _ | exact LeO.refl _ | exact LeO.none _ | refine LeO.ite ?_ ?_ | refine LeO.bind ?_ (fun _ => ?_))
theorem spec_alRank.mono : ∀ a0 k, LeO (spec_alRank.f k a0) (spec_alRank.f (k + 1) a0) := by
 intro a0 k
 obtain ⟨ih0, ih1⟩ := spec_alRank.mono_l k
 unfold spec_alRank.f
 repeat' first | (with_reducible first | exact ih0 _ _ _ _ _ | exact ih1 _ _ _ _ _ _ _ _ _ _ _ | exact LeO.refl _ | exact LeO.none _ | refine LeO.ite ?_ ?_ | refine LeO.bind ?_ (fun _ => ?_))
theorem spec_alRank.calls (k : Nat) (A0 : Option Addr) (c0 : Nat) (l0 : List Int) (r : Int) (w : World) (hr0 : Kd.C (Kd.int .i64) w A0 l0.length l0) (hc0 : l0.length ≤ c0) (h : spec_alRank.f k l0 = some r) :
  Calls Try.prog 61 #[.slice A0 l0.length c0] w fun e w' => e = .returned (.int .i64 r) ∧ Drawn0 w w' := by
 have HR0 := am hr0
 have HC0 := am hc0
 clear hr0 hc0
 have H : (spec_alRank.l0 k l0 0 l0 (l0.length : Int) 0) = some r := h
 clear h
 have H' := am H
 clear H
 go_enter Try.func61, Try.ntmps61
 go_wp2
 go_loopg [3, 11] k (fun kq v3 v11 w' => ∃ (x3_1 : Int) (x11_1 : Int), v3 = .int .i64 x3_1 ∧ v11 = .int .i64 x11_1 ∧ Aside0 (spec_alRank.l0 kq l0 x3_1 l0 (l0.length : Int) x11_1 = some r) ∧ Aside0 (kq ≤ k) ∧ Drawn0 w w')
 case atStart => exact ⟨(0), (0), zq13, zq13, H', ⟨Nat.le_refl _⟩, zq20⟩
 case round =>
  clear H'
  obtain ⟨x3_1, x11_1, rfl, rfl, HA, HK1, ⟨m1, rfl⟩⟩ := hrel
  cases gk with
  | zero => exact absurd HA.out (by simp [spec_alRank.l0])
  | succ k1 =>
   have H := HA.out
   clear HA
   simp only [spec_alRank.l0] at H
   by_cases c2 : x11_1 < (l0.length : Int)
   ·rw [if_pos c2] at H
    have c2b0 : decide (x11_1 < (l0.length : Int)) = true := decide_eq_true c2
    clear c2
    by_cases c3 : 0 ≤ x11_1
    ·rw [if_pos c3] at H
     have c3b0 : decide (0 ≤ x11_1) = true := decide_eq_true c3
     clear c3
     by_cases c4 : x11_1 < (l0.length : Int)
     ·rw [if_pos c4] at H
      have c4b0 : decide (x11_1 < (l0.length : Int)) = true := decide_eq_true c4
      clear c4
      obtain ⟨ji5, hji5⟩ : ∃ j_ : Int, (wrap64 (x11_1 + 1)) = j_ := ⟨_, rfl⟩
      replace H : (if 0 ≤ (ji5) then (if (ji5) ≤ (l0.length : Int) then ((some (l0.drop ((ji5) : Int).toNat : List Int)).bind fun y253 => (spec_alRank.l1 k1 l0 x3_1 x11_1 (rd l0 x11_1) 0 l0 (l0.length : Int) x11_1 y253 (y253.length : Int) 0)) else (none)) else (none)) = some r := by first | (rw [hji5] at H; exact H) | (simp only [hji5] at H ⊢; exact H)
      have hji5w : (IntKind.i64.wrap (x11_1 + 1)) = ji5 := (i64_w _).trans hji5
      by_cases c6 : 0 ≤ (ji5)
      ·rw [if_pos c6] at H
       have c6b0 := eq_true c6
       have c6b1 : decide (0 ≤ (ji5)) = true := decide_eq_true c6
       clear c6
       by_cases c7 : (ji5) ≤ (l0.length : Int)
       ·rw [if_pos c7] at H
        have c7b0 := eq_true c7
        have c7b1 : decide ((ji5) ≤ (l0.length : Int)) = true := decide_eq_true c7
        clear c7
        obtain ⟨y253, hy253⟩ : ∃ y_ : List Int, y_ = (l0.drop ((ji5) : Int).toNat) := ⟨_, rfl⟩
        replace H : (spec_alRank.l1 k1 l0 x3_1 x11_1 (rd l0 x11_1) 0 l0 (l0.length : Int) x11_1 y253 (y253.length : Int) 0) = some r := by first | (rw [hy253]; exact zH) | exact zH
        have Ny253 := am hy253
        clear hy253
        have H' := am H
        clear H
        have p252 : 0 ≤ (x11_1 : Int) := of_decide_eq_true zq9
        have q252 : x11_1 < (l0.length : Int) := of_decide_eq_true zq9
        obtain ⟨ad252, e252, hx252_0⟩ := Kd.at_int HR0.out x11_1 p252 q252
        cases e252
        replace p252 := eq_true p252
        replace q252 := eq_true q252
        have q8 : ((ji5) : Int) ≤ ((l0.length : Int) : Int) := of_decide_eq_true zq9
        obtain ⟨i08, hi08, _, hsz8, _⟩ := info_parts info3
        have hroom8 : l0.length ≤ c0 := HC0.out
        have hC8 : Kd.C (Kd.int .i64) _ (some ad252) l0.length l0 := HR0.out
        have q08 : (0 : Int) ≤ ((ji5) : Int) := of_decide_eq_true zq9
        have hcut8 := cut_from (P := Try.prog) 24 3 .i64 Try.underlying24 hi08 1 hsz8 (some ad252) l0.length c0 (ji5) q08 q8
        have hr8 := Kd.C_drop (m := ((ji5) : Int).toNat) (c := c0) hC8 zq62 hroom8
        obtain ⟨A8, hA8⟩ : ∃ A1, A1 = (if c0 = ((ji5) : Int).toNat then (some ad252) else ((some ad252) : Option Addr).map (·.add (((ji5) : Int).toNat * 1))) := ⟨_, rfl⟩
        obtain ⟨c8, hc8⟩ : ∃ c1, c1 = c0 - ((ji5) : Int).toNat := ⟨_, rfl⟩
        have hy8 : y253.length = l0.length - ((ji5) : Int).toNat := (by rw [Ny253.out, List.length_drop] <;> omega)
        rw [show (l0).drop ((ji5) : Int).toNat = y253 from Ny253.out.symm] at hr8
        replace hr8 : Kd.C (Kd.int .i64) _ A8 y253.length y253 := (by rw [hA8]; exact hr8)
        rw [← hy8, ← hA8, ← hc8] at hcut8
        have HR256 := am hr8
        have HC256 := am (show y253.length ≤ c8 from by rw [hy8, hc8]; exact Nat.sub_le_sub_right hroom8 _)
        clear hr8 hC8 hroom8 hi08 hsz8 hc8
        have KY8 := am hy8
        have KA8 := am hA8
        clear hy8 hA8
        replace q8 := eq_true q8
        go_wp2
        go_loopg [6, 21] k1 (fun kq v6 v21 w' => ∃ (x6_2 : Int) (x21_2 : Int), v6 = .int .i64 x6_2 ∧ v21 = .int .i64 x21_2 ∧ Aside0 (spec_alRank.l1 kq l0 x3_1 x11_1 (rd l0 x11_1) x6_2 l0 (l0.length : Int) x11_1 y253 (y253.length : Int) x21_2 = some r) ∧ Aside0 (kq ≤ k1) ∧ Drawn0 w w')
        case atStart => exact ⟨(0), (0), zq13, zq13, H', ⟨Nat.le_refl _⟩, zq20⟩
        case round =>
         clear H'
         try clear c1
         try clear c2
         try clear c2b0
         try clear p2
         try clear q2
         try clear hx2
         try clear c3
         try clear c3b0
         try clear c4
         try clear c4b0
         try clear c6
         try clear c6b0
         try clear c6b1
         try clear p6
         try clear c7
         try clear c7b0
         try clear c7b1
         try clear c8
         try clear q8
         try clear hx252_0
         try clear p252
         try clear q08
         try clear q252
         try clear q8
         obtain ⟨x6_2, x21_2, rfl, rfl, HA, HK2, ⟨m2, rfl⟩⟩ := hrel
         cases gk with
         | zero => exact absurd HA.out (by simp [spec_alRank.l1])
         | succ k2 =>
          have H := HA.out
          clear HA
          simp only [spec_alRank.l1] at H
          by_cases c9 : x21_2 < (y253.length : Int)
          ·rw [if_pos c9] at H
           have c9b0 : decide (x21_2 < (y253.length : Int)) = true := decide_eq_true c9
           clear c9
           by_cases c10 : 0 ≤ x21_2
           ·rw [if_pos c10] at H
            have c10b0 : decide (0 ≤ x21_2) = true := decide_eq_true c10
            clear c10
            by_cases c11 : x21_2 < (y253.length : Int)
            ·rw [if_pos c11] at H
             have c11b0 : decide (x21_2 < (y253.length : Int)) = true := decide_eq_true c11
             clear c11
             by_cases c12 : (rd y253 x21_2) < (rd l0 x11_1)
             ·rw [if_pos c12] at H
              have c12b0 : decide ((rd y253 x21_2) < (rd l0 x11_1)) = true := decide_eq_true c12
              clear c12
              have H' := am H
              clear H
              have p257 : 0 ≤ (x21_2 : Int) := of_decide_eq_true zq9
              have q257 : x21_2 < (y253.length : Int) := of_decide_eq_true zq9
              obtain ⟨ad257, e257, hx257_0⟩ := Kd.at_int HR256.out x21_2 p257 q257
              cases e257
              replace p257 := eq_true p257
              replace q257 := eq_true q257
              go_wp2
              go_roundg k2
              case measure => have := HK1.out; have := HK2.out; omega
              case rel => exact ⟨(wrap64 (x6_2 + 1)), (wrap64 (x21_2 + 1)), zq13, zq13, H', ⟨zq76⟩, zq20⟩
             ·rw [if_neg c12] at H
              have c12b0 : decide ((rd y253 x21_2) < (rd l0 x11_1)) = false := decide_eq_false c12
              clear c12
              have H' := am H
              clear H
              have p257 : 0 ≤ (x21_2 : Int) := of_decide_eq_true zq9
              have q257 : x21_2 < (y253.length : Int) := of_decide_eq_true zq9
              obtain ⟨ad257, e257, hx257_0⟩ := Kd.at_int HR256.out x21_2 p257 q257
              cases e257
              replace p257 := eq_true p257
              replace q257 := eq_true q257
              go_wp2
              go_roundg k2
              case measure => have := HK1.out; have := HK2.out; omega
              case rel => exact ⟨(x6_2), (wrap64 (x21_2 + 1)), zq13, zq13, H', ⟨zq76⟩, zq20⟩
            ·rw [if_neg c11] at H
             exact absurd H zq66
           ·rw [if_neg c10] at H
            exact absurd H zq66
          ·rw [if_neg c9] at H
           have c9b0 : decide (x21_2 < (y253.length : Int)) = false := decide_eq_false c9
           clear c9
           have H' := am H
           clear H
           go_wp2
           go_roundg k2
           case measure => have := HK1.out; have := HK2.out; omega
           case rel => exact ⟨(wrap64 ((wrap64 (x3_1 * (wrap64 ((l0.length : Int) - x11_1)))) + x6_2)), (wrap64 (x11_1 + 1)), zq13, zq13, H', ⟨zq76⟩, zq20⟩
       ·rw [if_neg c7] at H
        exact absurd H zq66
      ·rw [if_neg c6] at H
       exact absurd H zq66
     ·rw [if_neg c4] at H
      exact absurd H zq66
    ·rw [if_neg c3] at H
     exact absurd H zq66
   ·rw [if_neg c2] at H
    have c2b0 : decide (x11_1 < (l0.length : Int)) = false := decide_eq_false c2
    clear c2
    obtain rfl := Option.some.inj H
    go_wp2
    go_ret
    exact ⟨zq13, zq20⟩
end
end Go.Proofs.Ytdeoeogdnagibaa.PLi
