-- Written for this claim by a program of this session (myprint.py) over the kit's printer.
import Derived.Test.YtldcjlpbodpmbaaDoorPMvx0
import Derived.Test.YtldcjlpbodpmbaaDoorPMvx2
import Derived.Test.YtldcjlpbodpmbaaDoorPMvx6
namespace Go.Proofs.YtldcjlpbodpmbaaDoor.PMv
noncomputable section
open Go.RowKit Go.Proofs.YtldcjlpbodpmbaaDoorW.PrintWords Go.Proofs.YtldcjlpbodpmbaaDoorW.PrintLast Go.Proofs.YtldcjlpbodpmbaaDoorW.PrintMore
attribute [local go_sem] max2_int min2_int max_two min_two max_three min_three max_four min_four   -- for this text's walks alone
set_option linter.unusedVariables false
set_option linter.unusedSimpArgs false

theorem pRq7 {α : Type} {d : Kd α} {e base : Nat} {ok : Nat → Prop} {v : Value} {xs : List α} {w W : World} (h0 : Aside0 (Kd.R d e w base ok v xs)) (hp : Kd.R d e W base ok v xs := by (with_reducible repeat (first | apply Kd.R_alloc | apply Kd.R_drewN | apply Kd.R_drew)); exact Aside0.out (by with_reducible assumption)) : Kd.R d e W base ok v xs := hp
theorem pKq7 {g : Nat} {o : Obj} {w W : World} (h0 : Aside0 (w.heap[g]? = some o)) (hp : W.heap[g]? = some o := by (with_reducible repeat (first | refine blk_drewN ?_ _ | refine blk_drew ?_ | refine blk_alloc ?_ _)); exact Aside0.out (by with_reducible assumption)) : W.heap[g]? = some o := hp
theorem pBq7 {b : Nat} {w0 w W : World} (h0 : Aside0 (Below b w0 w)) (hp : Below b w0 W := by repeat (first | (with_reducible first | exact Aside0.out (by assumption) | apply below_alloc | apply pw_below_drewN | apply below_drew1 | refine below_set ?_ (Aside0.out (by assumption))))) : Below b w0 W := hp
/-! ### spec_lsMoves: function 30 -/
mutual
def spec_lsMoves.l0 : Nat → List ByteArray → List Int → Int → Int → Int → List Int → Option (List ByteArray)
  | 0, _, _, _, _, _, _ => none
  | k + 1, x3, x9, x10, x11, x197000, x197001 => if x11 < x10 then (if 0 ≤ x11 then (if x11 < (x9.length : Int) then (spec_lsMoves.l1 k x3 (rd x9 x11) x9 x10 x11 (x197001.length : Int) 0 x197000 x197001) else (none)) else (none)) else (some x3)
def spec_lsMoves.l1 : Nat → List ByteArray → Int → List Int → Int → Int → Int → Int → Int → List Int → Option (List ByteArray)
  | 0, _, _, _, _, _, _, _, _, _ => none
  | k + 1, x3, x5, x9, x10, x11, x17, x18, x197000, x197001 => if x18 < x17 then ((spec_lsMake.f k x197000 x197001 x5 x18).bind fun bt201 => (if bt201.2.2 = true then ((some (([x5] : List Int) : List Int)).bind fun y207 => ((spec_l1Num.f k x18).bind fun t210 => (if (strOfNums y207).size + t210.size ≤ 9223372036854775807 then (if x3.length < 8796093022208 then (spec_lsMoves.l1 k (x3 ++ [(strOfNums y207) ++ t210]) x5 x9 x10 x11 x17 (wrap64 (x18 + 1)) x197000 x197001) else (none)) else (none)))) else (spec_lsMoves.l1 k x3 x5 x9 x10 x11 x17 (wrap64 (x18 + 1)) x197000 x197001))) else (spec_lsMoves.l0 k x3 x9 x10 (wrap64 (x11 + 1)) x197000 x197001)
end
def spec_lsMoves.f (k : Nat) (a0_0 : Int) (l0_1 : List Int) : Option (List ByteArray) := (some (([115, 102, 100] : List Int) : List Int)).bind fun y197 => (spec_lsMoves.l0 k ([] : List ByteArray) y197 (y197.length : Int) 0 a0_0 l0_1)
theorem spec_lsMoves.mono_l : ∀ k, (∀ y0 y1 y2 y3 y4 y5, LeO (spec_lsMoves.l0 k y0 y1 y2 y3 y4 y5) (spec_lsMoves.l0 (k + 1) y0 y1 y2 y3 y4 y5)) ∧ (∀ y0 y1 y2 y3 y4 y5 y6 y7 y8, LeO (spec_lsMoves.l1 k y0 y1 y2 y3 y4 y5 y6 y7 y8) (spec_lsMoves.l1 (k + 1) y0 y1 y2 y3 y4 y5 y6 y7 y8))
  | 0 => ⟨fun _ _ _ _ _ _ r h => by simp [spec_lsMoves.l0] at h, fun _ _ _ _ _ _ _ _ _ r h => by simp [spec_lsMoves.l1] at h⟩
  | k + 1 => by
    obtain ⟨ih0, ih1⟩ := spec_lsMoves.mono_l k
    refine ⟨?_, ?_⟩
    · intro y0 y1 y2 y3 y4 y5
      unfold spec_lsMoves.l0
      repeat' first
      | (with_reducible exact ih0 _ _ _ _ _ _)
      | (with_reducible exact ih1 _ _ _ _ _ _ _ _ _)
      | (with_reducible exact spec_l1Num.mono _ _)
      | (with_reducible exact spec_lsMake.mono _ _ _ _ _)
      | (with_reducible exact LeO.refl _)
      | (with_reducible exact LeO.none _)
      | (with_reducible refine LeO.ite ?_ ?_)
      | (with_reducible refine LeO.bind ?_ (fun _ => ?_))
      | exact ih0 _ _ _ _ _ _
      | exact ih1 _ _ _ _ _ _ _ _ _
      | exact spec_l1Num.mono _ _
      | exact spec_lsMake.mono _ _ _ _ _
      | exact LeO.none _
      | refine LeO.ite ?_ ?_
      | refine LeO.bind ?_ (fun _ => ?_)
    · intro y0 y1 y2 y3 y4 y5 y6 y7 y8
      unfold spec_lsMoves.l1
      repeat' first
      | (with_reducible exact ih0 _ _ _ _ _ _)
      | (with_reducible exact ih1 _ _ _ _ _ _ _ _ _)
      | (with_reducible exact spec_l1Num.mono _ _)
      | (with_reducible exact spec_lsMake.mono _ _ _ _ _)
      | (with_reducible exact LeO.refl _)
      | (with_reducible exact LeO.none _)
      | (with_reducible refine LeO.ite ?_ ?_)
      | (with_reducible refine LeO.bind ?_ (fun _ => ?_))
      | exact ih0 _ _ _ _ _ _
      | exact ih1 _ _ _ _ _ _ _ _ _
      | exact spec_l1Num.mono _ _
      | exact spec_lsMake.mono _ _ _ _ _
      | exact LeO.none _
      | refine LeO.ite ?_ ?_
      | refine LeO.bind ?_ (fun _ => ?_)
theorem spec_lsMoves.mono : ∀ a0 a1 k, LeO (spec_lsMoves.f k a0 a1) (spec_lsMoves.f (k + 1) a0 a1) := by
  intro a0 a1 k
  obtain ⟨ih0, ih1⟩ := spec_lsMoves.mono_l k
  unfold spec_lsMoves.f
  repeat' first
      | (with_reducible exact ih0 _ _ _ _ _ _)
      | (with_reducible exact ih1 _ _ _ _ _ _ _ _ _)
      | (with_reducible exact spec_l1Num.mono _ _)
      | (with_reducible exact spec_lsMake.mono _ _ _ _ _)
      | (with_reducible exact LeO.refl _)
      | (with_reducible exact LeO.none _)
      | (with_reducible refine LeO.ite ?_ ?_)
      | (with_reducible refine LeO.bind ?_ (fun _ => ?_))
      | exact ih0 _ _ _ _ _ _
      | exact ih1 _ _ _ _ _ _ _ _ _
      | exact spec_l1Num.mono _ _
      | exact spec_lsMake.mono _ _ _ _ _
      | exact LeO.none _
      | refine LeO.ite ?_ ?_
      | refine LeO.bind ?_ (fun _ => ?_)
def spec_lsMoves.T10 : Bool × List (List Nat × List Nat) := (true, [([], []), ([], []), ([1], [1]), ([2], [2]), ([], []), ([4], [4]), ([3, 5], [3, 5]), ([6], [6]), ([0, 7, 5], [0, 7]), ([8, 8, 0, 1, 2, 3, 4, 5, 6, 7, 8], [0, 8])])
def spec_lsMoves.B10 : List Nat := [0, 0, 2, 6, 0, 16, 62, 126, 255, 511]
theorem spec_lsMoves.tab10 : rtab .any (opsOf Tryd.f30 10) = spec_lsMoves.T10 := by kernel_rfl
theorem spec_lsMoves.bits10 : waitsOk spec_lsMoves.T10.2 spec_lsMoves.B10 = true := by kernel_rfl
set_option maxHeartbeats 8000000 in
set_option maxRecDepth 100000 in
theorem spec_lsMoves.calls (k : Nat) (a0_0 : Int) (A0_1 : Option Addr) (c0_1 : Nat) (l0_1 : List Int) (r : List ByteArray) (w : World) (hr0_1 : Kd.C (Kd.int .i64) w A0_1 l0_1.length l0_1) (hc0_1 : l0_1.length ≤ c0_1) (h : spec_lsMoves.f k a0_0 l0_1 = some r) :
    Calls Tryd.prog 30 #[.agg #[.int .i64 a0_0, .slice A0_1 l0_1.length c0_1]] w fun e w' => ∃ v0_ : Value, e = .returned (v0_) ∧ Kd.R Kd.string 9 w' w.heap.size (fun _ => True) v0_ r ∧ Below w.heap.size w w' := by
  have hu28 := Tryd.underlying28
  have HR0_1 := Aside0.mk hr0_1
  have HC0_1 := Aside0.mk hc0_1
  clear hr0_1 hc0_1
  have HB := Aside0.mk (Below.refl w.heap.size w)
  have H : ((some (([115, 102, 100] : List Int) : List Int)).bind fun y197 => (spec_lsMoves.l0 k ([] : List ByteArray) y197 (y197.length : Int) 0 a0_0 l0_1)) = some r := h
  clear h
  obtain ⟨y197, hy197⟩ : ∃ y_ : List Int, y_ = (([115, 102, 100] : List Int)) := ⟨_, rfl⟩
  replace H : (spec_lsMoves.l0 k ([] : List ByteArray) y197 (y197.length : Int) 0 a0_0 l0_1) = some r := by first | (rw [hy197]; with_reducible exact H) | (have H2_ := (Option.bind_some _ _).symm.trans H; rw [hy197]; with_reducible exact H2_) | (have H2_ := (Option.bind_some _ _).symm.trans H; with_reducible exact H2_) | with_reducible exact H | (rw [hy197]; exact H) | exact H
  have Ny197 := Aside0.mk hy197
  clear hy197
  have H' := Aside0.mk H
  clear H
  go_enter Tryd.func30, Tryd.ntmps30
  go_wp2_with (first | ((with_reducible refine gate_dst (N := 1) rfl ?_); refine box_event ?hg (N := 1) ?hd (cs := #[.int .i64 a0_0, .slice A0_1 l0_1.length c0_1]) (t := 28) ?hr ?_; (case hd => rfl); (case hg => rfl); (case hr => first | (go_simp; done) | (go_simp; rfl)); intro gb196 hg w2 hbox hb; have BK196 := Aside0.mk (hbox); have GW196 := Aside0.mk ((by rw [hg]; exact (below_size (pBq7 HB)) : w.heap.size ≤ gb196)); have GE196 := Aside0.mk ((by rw [hg]; exact (below_size (pBq7 HB)) : w.heap.size ≤ gb196)); replace HB := Aside0.mk (below_step (pBq7 HB) hb); clear hb hbox hg) | ((with_reducible refine gate_dst (N := 9) rfl ?_); refine Kd.R_lit (Kd.int .u8) _ 5 ?hg (N := 9) ?hd (xs := ([115, 102, 100] : List Int)) (inner := [.int .u8 115, .int .u8 102, .int .u8 100]) (ok := fun _ => True) (okp := fun _ => True) ?hr ?hp (fun _ hk => hk) trivial (Below.refl _ _) (Nat.le_refl _) (by simp) ?_; (case hd => rfl); (case hg => rfl); (case hr => first | (go_simp; done) | (go_simp; rfl)); (case hp => exact (Reps.one (show Kd.M (Kd.int .u8) _ _ _ 115 [.int .u8 115] from rfl) (Reps.one (show Kd.M (Kd.int .u8) _ _ _ 102 [.int .u8 102] from rfl) (Reps.one (show Kd.M (Kd.int .u8) _ _ _ 100 [.int .u8 100] from rfl) (Reps.none _ _))))); intro v198 w3 ho4 hb hg_ hnew_; clear hg_ hnew_; (first | rw [← Ny197.out] at ho4 | (simp only [Int.reduceToNat] at ho4; rw [← Ny197.out] at ho4)); have HO199 := Aside0.mk (Kd.R_lower ho4 (below_size (pBq7 HB))); replace BK196 := Aside0.mk (blk_below (pKq7 BK196) hb); replace HB := Aside0.mk (below_step (pBq7 HB) hb); clear hb ho4; obtain ⟨Ao5, co5, eo5⟩ := Kd.R_slice HO199.out; subst eo5))
  go_loopg [3, 11] k (fun kq v3 v11 w' => ∃ (x3_1 : List ByteArray) (x11_1 : Int), v11 = .int .i64 x11_1 ∧ Aside0 (spec_lsMoves.l0 kq x3_1 y197 (y197.length : Int) x11_1 a0_0 l0_1 = some r) ∧ Aside0 (kq ≤ k) ∧ Aside0 (Kd.R Kd.string 9 w' w.heap.size (fun _ => True) v3 x3_1) ∧ Aside0 (Kd.R (Kd.int .u8) 5 w' w.heap.size (fun _ => True) (.slice Ao5 y197.length co5) y197) ∧ Aside0 (w'.heap[gb196]? = some (.cells #[.int .i64 a0_0, (.slice A0_1 l0_1.length c0_1)] 28 (0, 0))) ∧ Aside0 (Below w.heap.size w w'))
  case atStart => exact ⟨(([] : List ByteArray)), (0), (by first | rfl | (simp; done) | (simp [*]; done)), H', ⟨Nat.le_refl _⟩, ⟨by first | exact Kd.R_nil _ _ _ _ _ | exact Kd.N_nil _ _ _ _ _ | exact Kd.V_nil _ _ _ _ _ | exact Kd.Q_nil _ _ _ _ _ | exact Kd.S_nil _ _ _ _ _⟩, ⟨by (with_reducible repeat (first | apply Kd.R_alloc | apply Kd.R_drewN | apply Kd.R_drew)); exact HO199.out⟩, ⟨by (with_reducible repeat (first | refine blk_drewN ?_ _ | refine blk_drew ?_ | refine blk_alloc ?_ _)); exact BK196.out⟩, ⟨by repeat (first | (with_reducible first | exact HB.out | apply below_alloc | apply pw_below_drewN | apply below_drew1 | refine below_set ?_ GE196.out) | exact HB.out)⟩⟩
  case round =>
    clear H'
    try clear p2
    try clear c3
    obtain ⟨x3_1, x11_1, rfl, HA, HK1, HO_3, HO_9, BK196, HB⟩ := hrel
    cases gk with
    | zero => exact absurd HA.out (by simp [spec_lsMoves.l0])
    | succ k1 =>
      have H := HA.out
      clear HA
      simp only [spec_lsMoves.l0] at H
      by_cases c6 : x11_1 < (y197.length : Int)
      · rw [if_pos c6] at H
        have c6b0 : decide (x11_1 < (y197.length : Int)) = true := decide_eq_true c6
        clear c6
        by_cases c7 : 0 ≤ x11_1
        · rw [if_pos c7] at H
          have c7b0 : decide (0 ≤ x11_1) = true := decide_eq_true c7
          clear c7
          by_cases c8 : x11_1 < (y197.length : Int)
          · rw [if_pos c8] at H
            have c8b0 : decide (x11_1 < (y197.length : Int)) = true := decide_eq_true c8
            clear c8
            have H' := Aside0.mk H
            clear H
            have p200 : 0 ≤ (x11_1 : Int) := of_decide_eq_true (by first | (with_reducible assumption) | assumption)
            have q200 : x11_1 < (y197.length : Int) := of_decide_eq_true (by first | (with_reducible assumption) | assumption)
            obtain ⟨ad200, e200, hx200_0⟩ := Kd.at_int (Kd.R_reads' HO_9.out).2.2 x11_1 p200 q200
            cases e200
            replace p200 := eq_true p200
            replace q200 := eq_true q200
            have hcz9_0 : wr.cell? ⟨gb196, 0, none⟩ = some (.int .i64 a0_0) := (blk_cell BK196.out 0).trans rfl
            have hcz9_1 : wr.cell? ⟨gb196, 1, none⟩ = some (.slice A0_1 l0_1.length c0_1) := (blk_cell BK196.out 1).trans rfl
            have hfz9_0 := blk_frozen BK196.out 0
            have hfz9_1 := blk_frozen BK196.out 1
            go_wp2
            go_loopg [3, 18] k1 (fun kq v3 v18 w' => ∃ (x3_2 : List ByteArray) (x18_2 : Int), v18 = .int .i64 x18_2 ∧ Aside0 (spec_lsMoves.l1 kq x3_2 (rd y197 x11_1) y197 (y197.length : Int) x11_1 (l0_1.length : Int) x18_2 a0_0 l0_1 = some r) ∧ Aside0 (kq ≤ k1) ∧ Aside0 (Kd.R Kd.string 9 w' w.heap.size (fun _ => True) v3 x3_2) ∧ Aside0 (Kd.R (Kd.int .u8) 5 w' w.heap.size (fun _ => True) (.slice (some ad200) y197.length co5) y197) ∧ Aside0 (w'.heap[gb196]? = some (.cells #[.int .i64 a0_0, (.slice A0_1 l0_1.length c0_1)] 28 (0, 0))) ∧ Aside0 (Below w.heap.size w w'))
            case atStart => exact ⟨(x3_1), (0), (by first | rfl | (simp; done) | (simp [*]; done)), H', ⟨Nat.le_refl _⟩, ⟨by (with_reducible repeat (first | apply Kd.R_alloc | apply Kd.R_drewN | apply Kd.R_drew)); exact HO_3.out⟩, ⟨by (with_reducible repeat (first | apply Kd.R_alloc | apply Kd.R_drewN | apply Kd.R_drew)); exact HO_9.out⟩, ⟨by (with_reducible repeat (first | refine blk_drewN ?_ _ | refine blk_drew ?_ | refine blk_alloc ?_ _)); exact BK196.out⟩, ⟨by repeat (first | (with_reducible first | exact HB.out | apply below_alloc | apply pw_below_drewN | apply below_drew1 | refine below_set ?_ GE196.out) | exact HB.out)⟩⟩
            case round =>
              clear H'
              try clear p2
              try clear q2
              try clear hx2
              try clear c3
              try clear c6
              try clear c6b0
              try clear c7
              try clear c7b0
              try clear c8
              try clear c8b0
              try clear hcz9_0
              try clear hcz9_1
              try clear hfz9_0
              try clear hfz9_1
              try clear hx200_0
              try clear p2
              try clear p200
              try clear q200
              obtain ⟨x3_2, x18_2, rfl, HA, HK2, HO_3, HO_9, BK196, HB⟩ := hrel
              cases gk with
              | zero => exact absurd HA.out (by simp [spec_lsMoves.l1])
              | succ k2 =>
                have H := HA.out
                clear HA
                simp only [spec_lsMoves.l1] at H
                by_cases c10 : x18_2 < (l0_1.length : Int)
                · rw [if_pos c10] at H
                  have c10b0 : decide (x18_2 < (l0_1.length : Int)) = true := decide_eq_true c10
                  clear c10
                  replace H := Option.bind_eq_some_iff.mp H
                  obtain ⟨⟨t201, t202, t205⟩, A110, H⟩ := H
                  replace H : (if t205 = true then ((some (([(rd y197 x11_1)] : List Int) : List Int)).bind fun y207 => ((spec_l1Num.f k2 x18_2).bind fun t210 => (if (strOfNums y207).size + t210.size ≤ 9223372036854775807 then (if x3_2.length < 8796093022208 then (spec_lsMoves.l1 k2 (x3_2 ++ [(strOfNums y207) ++ t210]) (rd y197 x11_1) y197 (y197.length : Int) x11_1 (l0_1.length : Int) (wrap64 (x18_2 + 1)) a0_0 l0_1) else (none)) else (none)))) else (spec_lsMoves.l1 k2 x3_2 (rd y197 x11_1) y197 (y197.length : Int) x11_1 (l0_1.length : Int) (wrap64 (x18_2 + 1)) a0_0 l0_1)) = some r := H
                  have A11 := Aside0.mk A110
                  clear A110
                  by_cases c12 : t205 = true
                  · subst c12
                    have H1 : ((some (([(rd y197 x11_1)] : List Int) : List Int)).bind fun y207 => ((spec_l1Num.f k2 x18_2).bind fun t210 => (if (strOfNums y207).size + t210.size ≤ 9223372036854775807 then (if x3_2.length < 8796093022208 then (spec_lsMoves.l1 k2 (x3_2 ++ [(strOfNums y207) ++ t210]) (rd y197 x11_1) y197 (y197.length : Int) x11_1 (l0_1.length : Int) (wrap64 (x18_2 + 1)) a0_0 l0_1) else (none)) else (none)))) = some r := by rw [if_pos rfl] at H; exact H
                    clear H
                    have H := H1
                    clear H1
                    obtain ⟨y207, hy207⟩ : ∃ y_ : List Int, y_ = (([(rd y197 x11_1)] : List Int)) := ⟨_, rfl⟩
                    replace H : ((spec_l1Num.f k2 x18_2).bind fun t210 => (if (strOfNums y207).size + t210.size ≤ 9223372036854775807 then (if x3_2.length < 8796093022208 then (spec_lsMoves.l1 k2 (x3_2 ++ [(strOfNums y207) ++ t210]) (rd y197 x11_1) y197 (y197.length : Int) x11_1 (l0_1.length : Int) (wrap64 (x18_2 + 1)) a0_0 l0_1) else (none)) else (none))) = some r := by first | (rw [hy207]; with_reducible exact H) | (have H2_ := (Option.bind_some _ _).symm.trans H; rw [hy207]; with_reducible exact H2_) | (have H2_ := (Option.bind_some _ _).symm.trans H; with_reducible exact H2_) | with_reducible exact H | (rw [hy207]; exact H) | exact H
                    have Ny207 := Aside0.mk hy207
                    clear hy207
                    replace H := Option.bind_eq_some_iff.mp H
                    obtain ⟨t210, A130, H⟩ := H
                    replace H : (if (strOfNums y207).size + t210.size ≤ 9223372036854775807 then (if x3_2.length < 8796093022208 then (spec_lsMoves.l1 k2 (x3_2 ++ [(strOfNums y207) ++ t210]) (rd y197 x11_1) y197 (y197.length : Int) x11_1 (l0_1.length : Int) (wrap64 (x18_2 + 1)) a0_0 l0_1) else (none)) else (none)) = some r := H
                    have A13 := Aside0.mk A130
                    clear A130
                    by_cases c14 : (strOfNums y207).size + t210.size ≤ 9223372036854775807
                    · rw [if_pos c14] at H
                      have c14b0 := eq_true c14
                      have c14b1 : decide ((strOfNums y207).size + t210.size ≤ 9223372036854775807) = true := decide_eq_true c14
                      try have c14b2 : (9223372036854775807 < (strOfNums y207).size + t210.size) = False := eq_false (Nat.not_lt.2 c14)
                      by_cases c15 : x3_2.length < 8796093022208
                      · rw [if_pos c15] at H
                        have LMc15 := Aside0.mk c15
                        clear c15
                        obtain ⟨y211, hy211⟩ : ∃ y_ : List ByteArray, y_ = (x3_2 ++ [(strOfNums y207) ++ t210]) := ⟨_, rfl⟩
                        replace H : (spec_lsMoves.l1 k2 y211 (rd y197 x11_1) y197 (y197.length : Int) x11_1 (l0_1.length : Int) (wrap64 (x18_2 + 1)) a0_0 l0_1) = some r := by first | (rw [hy211]; with_reducible exact H) | (have H2_ := (Option.bind_some _ _).symm.trans H; rw [hy211]; with_reducible exact H2_) | (have H2_ := (Option.bind_some _ _).symm.trans H; with_reducible exact H2_) | with_reducible exact H | (rw [hy211]; exact H) | exact H
                        have Ny211 := Aside0.mk hy211
                        clear hy211
                        have H' := Aside0.mk H
                        clear H
                        have hcz16_0 : wr.cell? ⟨gb196, 0, none⟩ = some (.int .i64 a0_0) := (blk_cell BK196.out 0).trans rfl
                        have hcz16_1 : wr.cell? ⟨gb196, 1, none⟩ = some (.slice A0_1 l0_1.length c0_1) := (blk_cell BK196.out 1).trans rfl
                        have hfz16_0 := blk_frozen BK196.out 0
                        have hfz16_1 := blk_frozen BK196.out 1
                        try go_wp2_with (first | ((with_reducible refine gate_callee (f := 45) rfl ?_); refine goesL_ (some 25) rfl rfl Tryd.func45 (by kernel_rfl) rfl #[.agg #[.int .i64 a0_0, .slice A0_1 l0_1.length c0_1], .int .u8 (rd y197 x11_1), .int .i64 x18_2] rfl (by (try simp only [List.map_toArray, List.map_cons, List.map_nil]); first | done | rfl | (simp only [List.length_drop, List.length_take]; rfl)) ?_; (with_reducible refine (spec_lsMake.calls k2 a0_0 _ _ l0_1 (rd y197 x11_1) x18_2 t201 t202 true _ ?side1 ?side2 A11.out).mono ?_); (case side1 => repeat (first | exact (Kd.C_below HR0_1.out HB.out) | (with_reducible refine Kd.C_alloc ?_ _) | (with_reducible refine Kd.C_drewN ?_ _) | (with_reducible refine Kd.C_drew ?_))); (case side2 => exact HC0_1.out); rintro e w17 ⟨v203, rfl, ho0, hb⟩; refine ⟨_, rfl, ?_⟩; have HO204 := Aside0.mk (Kd.R_lower ho0 (below_size (pBq7 HB))); replace HO_3 := Aside0.mk (Kd.R_below (pRq7 HO_3) hb); replace HO_9 := Aside0.mk (Kd.R_below (pRq7 HO_9) hb); replace BK196 := Aside0.mk (blk_below (pKq7 BK196) hb); replace HB := Aside0.mk (below_step (pBq7 HB) hb); (try clear hb); (try clear hb2); (try clear hk); (try clear hi); (try clear ho0)) | ((with_reducible refine gate_dst (N := 7) rfl ?_); refine box_event ?hg (N := 7) ?hd (cs := #[.int .i64 0, .slice none 0 0]) (t := 28) ?hr ?_; (case hd => rfl); (case hg => rfl); (case hr => first | (go_simp; done) | (go_simp; rfl)); intro gb206 hg w18 hbox hb; have BK206 := Aside0.mk (hbox); have GW206 := Aside0.mk ((by rw [hg]; exact (below_size (pBq7 HB)) : w.heap.size ≤ gb206)); have GE206 := Aside0.mk ((by rw [hg]; exact (below_size (pBq7 HB)) : w.heap.size ≤ gb206)); have NB196_206 := Aside0.mk ((by rw [hg]; exact Nat.ne_of_lt (blk_lt (pKq7 BK196)) : gb196 ≠ gb206)); have NB206_196 := Aside0.mk ((by rw [hg]; exact Nat.ne_of_gt (blk_lt (pKq7 BK196)) : gb206 ≠ gb196)); replace HO_3 := Aside0.mk (Kd.R_below (pRq7 HO_3) hb); replace HO_9 := Aside0.mk (Kd.R_below (pRq7 HO_9) hb); replace HO204 := Aside0.mk (Kd.R_below (pRq7 HO204) hb); replace BK196 := Aside0.mk (blk_below (pKq7 BK196) hb); replace HB := Aside0.mk (below_step (pBq7 HB) hb); clear hb hbox hg; have hnb19 := NB206_196.out; have hnc19 := NB196_206.out; have hcz20_0 : w18.cell? ⟨gb206, 0, none⟩ = some (.int .i64 0) := (blk_cell BK206.out 0).trans rfl; have hcz20_1 : w18.cell? ⟨gb206, 1, none⟩ = some (.slice none 0 0) := (blk_cell BK206.out 1).trans rfl; have hfz20_0 := blk_frozen BK206.out 0; have hfz20_1 := blk_frozen BK206.out 1; obtain ⟨Ao21, co21, eo21⟩ := Kd.R_slice HO204.out; subst eo21; obtain ⟨Ao22, co22, eo22⟩ := Kd.R_slice HO_3.out; subst eo22))
                        have n0_ : Aside0 (Kd.R Kd.string 9 ((w18.setCell ⟨gb206, 0, none⟩ (.int .i64 t201)).setCell ⟨gb206, 1, none⟩ (.slice Ao21 t202.length co21)) w.heap.size (fun _ => True) (.slice Ao22 x3_2.length co22) x3_2) := ⟨by (with_reducible repeat (first | apply Kd.R_alloc | apply Kd.R_drewN | apply Kd.R_drew)); exact Kd.R_mono (Kd.R_far (p := ⟨gb206, 1, none⟩) (Kd.R_far (p := ⟨gb206, 0, none⟩) (Kd.R_types HO_3.out BK206.out (by decide)) (fun _ hk => hk.2) (.int .i64 t201)) (fun _ hk => hk.2) (.slice Ao21 t202.length co21)) (fun _ hk => trivial)⟩
                        have n1_ : Aside0 (Kd.R (Kd.int .u8) 5 ((w18.setCell ⟨gb206, 0, none⟩ (.int .i64 t201)).setCell ⟨gb206, 1, none⟩ (.slice Ao21 t202.length co21)) w.heap.size (fun _ => True) (.slice (some ad200) y197.length co5) y197) := ⟨by (with_reducible repeat (first | apply Kd.R_alloc | apply Kd.R_drewN | apply Kd.R_drew)); exact Kd.R_mono (Kd.R_far (p := ⟨gb206, 1, none⟩) (Kd.R_far (p := ⟨gb206, 0, none⟩) (Kd.R_types HO_9.out BK206.out (by decide)) (fun _ hk => hk.2) (.int .i64 t201)) (fun _ hk => hk.2) (.slice Ao21 t202.length co21)) (fun _ hk => trivial)⟩
                        have n2_ : Aside0 (Kd.R (Kd.int .i64) 3 ((w18.setCell ⟨gb206, 0, none⟩ (.int .i64 t201)).setCell ⟨gb206, 1, none⟩ (.slice Ao21 t202.length co21)) w.heap.size (fun _ => True) (.slice Ao21 t202.length co21) t202) := ⟨by (with_reducible repeat (first | apply Kd.R_alloc | apply Kd.R_drewN | apply Kd.R_drew)); exact Kd.R_mono (Kd.R_far (p := ⟨gb206, 1, none⟩) (Kd.R_far (p := ⟨gb206, 0, none⟩) (Kd.R_types HO204.out BK206.out (by decide)) (fun _ hk => hk.2) (.int .i64 t201)) (fun _ hk => hk.2) (.slice Ao21 t202.length co21)) (fun _ hk => trivial)⟩
                        have n3_ : Aside0 (((w18.setCell ⟨gb206, 0, none⟩ (.int .i64 t201)).setCell ⟨gb206, 1, none⟩ (.slice Ao21 t202.length co21)).heap[gb196]? = some (.cells #[.int .i64 a0_0, .slice A0_1 l0_1.length c0_1] 28 (0, 0))) := ⟨by (with_reducible repeat (first | refine blk_drewN ?_ _ | refine blk_drew ?_ | refine blk_alloc ?_ _)); refine blk_far ?_ NB196_206.out _; (with_reducible repeat (first | refine blk_drewN ?_ _ | refine blk_drew ?_ | refine blk_alloc ?_ _)); refine blk_far ?_ NB196_206.out _; (with_reducible repeat (first | refine blk_drewN ?_ _ | refine blk_drew ?_ | refine blk_alloc ?_ _)); exact BK196.out⟩
                        have n4_ : Aside0 (((w18.setCell ⟨gb206, 0, none⟩ (.int .i64 t201)).setCell ⟨gb206, 1, none⟩ (.slice Ao21 t202.length co21)).heap[gb206]? = some (.cells #[.int .i64 t201, .slice Ao21 t202.length co21] 28 (0, 0))) := ⟨by (with_reducible repeat (first | refine blk_drewN ?_ _ | refine blk_drew ?_ | refine blk_alloc ?_ _)); refine blk_put (cs := #[.int .i64 t201, .slice none 0 0]) ?_ 1 _ rfl; (with_reducible repeat (first | refine blk_drewN ?_ _ | refine blk_drew ?_ | refine blk_alloc ?_ _)); refine blk_put (cs := #[.int .i64 0, .slice none 0 0]) ?_ 0 _ rfl; (with_reducible repeat (first | refine blk_drewN ?_ _ | refine blk_drew ?_ | refine blk_alloc ?_ _)); exact BK206.out⟩
                        have n5_ : Aside0 (Below w.heap.size w ((w18.setCell ⟨gb206, 0, none⟩ (.int .i64 t201)).setCell ⟨gb206, 1, none⟩ (.slice Ao21 t202.length co21))) := ⟨by repeat (first | (with_reducible first | exact HB.out | apply below_alloc | apply pw_below_drewN | apply below_drew1 | refine below_set ?_ GE196.out | refine below_set ?_ GE206.out) | exact HB.out)⟩
                        (try clear HO_3)
                        (try clear HO_9)
                        (try clear HO204)
                        (try clear BK196)
                        (try clear BK206)
                        (try clear HB)
                        generalize ((w18.setCell ⟨gb206, 0, none⟩ (.int .i64 t201)).setCell ⟨gb206, 1, none⟩ (.slice Ao21 t202.length co21)) = w23 at n0_ n1_ n2_ n3_ n4_ n5_ ⊢
                        have HO_3 := n0_
                        have HO_9 := n1_
                        have HO204 := n2_
                        have BK196 := n3_
                        have BK206 := n4_
                        have HB := n5_
                        clear n0_ n1_ n2_ n3_ n4_ n5_
                        replace HO_3 := Aside0.mk (Kd.R_drew HO_3.out)
                        replace HO_9 := Aside0.mk (Kd.R_drew HO_9.out)
                        replace HO204 := Aside0.mk (Kd.R_drew HO204.out)
                        replace BK196 := Aside0.mk (blk_drew BK196.out)
                        replace BK206 := Aside0.mk (blk_drew BK206.out)
                        replace HB := Aside0.mk (below_drew1 HB.out)
                        refine start_ (n := 10) (S := fun w' => True) (ds := []) #[false, false, false, false, false, false, false, false, false, false] (by kernel_rfl) rfl rfl trivial (fun hHeld => ?_); refine with_tabW spec_lsMoves.tab10 spec_lsMoves.bits10 (fun HT_ HW_ => ?_)
                        generalize w23.drew = w24 at HO_3 HO_9 HO204 BK196 BK206 HB hHeld ⊢
                        refine pure_ (i := 0) (N := some 29) (v := ?_) (a' := ?_) #[true, false, false, false, false, false, false, false, false, false] rfl rfl (any_of HT_.out (by kernel_rfl)) (fun _ _ _ h => h) (Or.inl ⟨by rfl, ?_⟩) ?_ ?_
                        rotate_left
                        · intro w'
                          go_simp
                          with_reducible rfl
                        rotate_left
                        · simp only [Act.put, List.setIfInBounds_toArray, List.set_cons_zero, List.set_cons_succ, i64_w, i32_w]
                          rfl
                        refine pure_ (i := 1) (N := some 30) (v := ?_) (a' := ?_) #[true, true, false, false, false, false, false, false, false, false] rfl rfl (any_of HT_.out (by kernel_rfl)) (fun _ _ _ h => h) (Or.inl ⟨by rfl, ?_⟩) ?_ ?_
                        rotate_left
                        · intro w'
                          go_simp
                          with_reducible rfl
                        rotate_left
                        · simp only [Act.put, List.setIfInBounds_toArray, List.set_cons_zero, List.set_cons_succ, i64_w, i32_w]
                          rfl
                        refine pure_ (i := 4) (N := some 33) (v := ?_) (a' := ?_) #[true, true, false, false, true, false, false, false, false, false] rfl rfl (any_of HT_.out (by kernel_rfl)) (fun _ _ _ h => h) (Or.inl ⟨by rfl, ?_⟩) ?_ ?_
                        rotate_left
                        · intro w'
                          go_simp
                          with_reducible rfl
                        rotate_left
                        · simp only [Act.put, List.setIfInBounds_toArray, List.set_cons_zero, List.set_cons_succ, i64_w, i32_w]
                          rfl
                        refine join_ (σ := Value) 4 #[true, true, true, true, true, true, false, false, false, false] (fun s_ => [(31, s_), (32, .string (strOfNums y207)), (34, .string t210)]) (fun s_ w' => (Kd.R (Kd.int .i64) 3 w' w.heap.size (fun _ => True) (.slice Ao21 t202.length co21) t202) ∧ (Kd.R (Kd.int .u8) 5 w' w.heap.size (fun k_ => some k_ ≠ (.slice (some ad200) y197.length co5 : Value).ownBlock) s_ y207) ∧ (Kd.R Kd.string 9 w' w.heap.size (fun _ => True) (.slice Ao22 x3_2.length co22) x3_2) ∧ (Kd.R (Kd.int .u8) 5 w' w.heap.size (fun k_ => some k_ ≠ (s_ : Value).ownBlock) (.slice (some ad200) y197.length co5) y197) ∧ (w'.heap[gb196]? = some (.cells #[.int .i64 a0_0, .slice A0_1 l0_1.length c0_1] 28 (0, 0))) ∧ (w'.heap[gb206]? = some (.cells #[.int .i64 t201, .slice Ao21 t202.length co21] 28 (0, 0))) ∧ (Below w.heap.size w w')) ?_ ?_
                        rotate_left
                        · intro hCont
                          refine two_ (i := 2) (j := 5) (Ni := some 31) (Nj := some 34) #[true, true, true, false, true, false, false, false, false, false] #[true, true, false, false, true, true, false, false, false, false] rfl rfl rfl rfl (two_of HT_.out (by kernel_rfl)) (by decide) (by decide) (fun K hK => ?_) (fun K hK => ?_)
                          · skip
                            refine Kd.R_lit_step (Kd.int .u8) _ 5 ?hg (N := 31) ?hd (xs := ([(rd y197 x11_1)] : List Int)) (inner := [.int .u8 (rd y197 x11_1)]) (ok := fun _ => True) (okp := fun _ => True) ?hr ?hp (fun _ hk => hk) trivial (Below.refl _ _) (Nat.le_refl _) (by simp) ?_; (case hd => rfl); (case hg => rfl); (case hr => first | (go_simp; done) | (go_simp; rfl)); (case hp => exact (Reps.one (show Kd.M (Kd.int .u8) _ _ _ (rd y197 x11_1) [.int .u8 (rd y197 x11_1)] from rfl) (Reps.none _ _)))
                            intro v208 w25 ho26 hb hg_ hnew_
                            clear hg_ hnew_
                            (first | rw [← Ny207.out] at ho26 | (simp only [Int.reduceToNat] at ho26; rw [← Ny207.out] at ho26))
                            have HO209 := Aside0.mk (Kd.R_lower (Kd.R_new' ho26 (Kd.R_lt (pRq7 HO_9))) (below_size (pBq7 HB)))
                            replace HO_3 := Aside0.mk (Kd.R_below (pRq7 HO_3) hb)
                            replace HO_9 := Aside0.mk (Kd.R_elder' (pRq7 HO_9) (Kd.R_base ho26) hb)
                            replace HO204 := Aside0.mk (Kd.R_below (pRq7 HO204) hb)
                            replace BK196 := Aside0.mk (blk_below (pKq7 BK196) hb)
                            replace BK206 := Aside0.mk (blk_below (pKq7 BK206) hb)
                            replace HB := Aside0.mk (below_step (pBq7 HB) hb)
                            clear hb ho26
                            refine hK.out _ _ trivial (fun hHeld => ?_)
                            clear hK K
                            refine norm_ (a' := ?_) ?_ ?_
                            rotate_left
                            · show Act.put _ (some 31) _ = _
                              simp only [Act.put, List.setIfInBounds_toArray, List.set_cons_zero, List.set_cons_succ, i64_w, i32_w]
                              rfl
                            refine two_ (i := 3) (j := 5) (Ni := some 32) (Nj := some 34) #[true, true, true, true, true, false, false, false, false, false] #[true, true, true, false, true, true, false, false, false, false] rfl rfl rfl rfl (two_of HT_.out (by kernel_rfl)) (by decide) (by decide) (fun K hK => ?_) (fun K hK => ?_)
                            · skip
                              have hcv27 := own_string (P := Tryd.prog) Tryd.underlying66 Tryd.underlying5 Tryd.underlying9 (Kd.own_of_R HO209.out)
                              refine value_ (w1 := ?_) (v := ?_) (by rfl) rfl ?_ ?_
                              rotate_left 2
                              · go_simp
                                constructor
                                · rfl
                                · rfl
                              clear hcv27
                              refine hK.out _ _ trivial (fun hHeld => ?_)
                              clear hK K
                              refine norm_ (a' := ?_) ?_ ?_
                              rotate_left
                              · show Act.put _ (some 32) _ = _
                                simp only [Act.put, List.setIfInBounds_toArray, List.set_cons_zero, List.set_cons_succ, i64_w, i32_w]
                                rfl
                              refine one_ (i := 5) (N := some 34) #[true, true, true, true, true, true, false, false, false, false] rfl rfl (one_of HT_.out (by kernel_rfl)) (by decide) (fun K hK => ?_)
                              refine goes_ Tryd.func44 (by kernel_rfl) rfl #[.int .i64 x18_2] (by rfl) rfl rfl (by (try simp only [List.map_toArray, List.map_cons, List.map_nil]); first | done | rfl | (simp only [List.length_drop, List.length_take]; rfl)) ?_
                              with_reducible refine (spec_l1Num.calls k2 x18_2 t210 _ A13.out).mono ?_
                              rintro e w28 ⟨rfl, hb⟩
                              refine ⟨_, rfl, ?_⟩
                              replace HO_3 := Aside0.mk (Kd.R_below (pRq7 HO_3) hb)
                              replace HO_9 := Aside0.mk (Kd.R_below (pRq7 HO_9) hb)
                              replace HO204 := Aside0.mk (Kd.R_below (pRq7 HO204) hb)
                              replace HO209 := Aside0.mk (Kd.R_below (pRq7 HO209) hb)
                              replace BK196 := Aside0.mk (blk_below (pKq7 BK196) hb)
                              replace BK206 := Aside0.mk (blk_below (pKq7 BK206) hb)
                              replace HB := Aside0.mk (below_step (pBq7 HB) hb)
                              (try clear hb)
                              (try clear hb2)
                              (try clear hk)
                              (try clear hi)
                              refine hK.out _ _ trivial (fun hHeld => ?_)
                              clear hK K
                              refine norm_ (a' := ?_) ?_ ?_
                              rotate_left
                              · show Act.put _ (some 34) _ = _
                                simp only [Act.put, List.setIfInBounds_toArray, List.set_cons_zero, List.set_cons_succ, i64_w, i32_w]
                                rfl
                              exact norm_ (by simp only [putAll, Act.put, List.setIfInBounds_toArray, List.set_cons_zero, List.set_cons_succ]) (hCont (v208) _ ⟨(pRq7 HO204), (by (with_reducible repeat (first | apply Kd.R_alloc | apply Kd.R_drewN | apply Kd.R_drew)); exact Kd.R_mono HO209.out (fun _ hk => hk.2)), (pRq7 HO_3), (by (with_reducible repeat (first | apply Kd.R_alloc | apply Kd.R_drewN | apply Kd.R_drew)); exact Kd.R_mono HO_9.out (fun _ hk => hk.2)), (pKq7 BK196), (pKq7 BK206), (pBq7 HB)⟩)
                            · skip
                              refine goes_ Tryd.func44 (by kernel_rfl) rfl #[.int .i64 x18_2] (by rfl) rfl rfl (by (try simp only [List.map_toArray, List.map_cons, List.map_nil]); first | done | rfl | (simp only [List.length_drop, List.length_take]; rfl)) ?_
                              with_reducible refine (spec_l1Num.calls k2 x18_2 t210 _ A13.out).mono ?_
                              rintro e w27 ⟨rfl, hb⟩
                              refine ⟨_, rfl, ?_⟩
                              replace HO_3 := Aside0.mk (Kd.R_below (pRq7 HO_3) hb)
                              replace HO_9 := Aside0.mk (Kd.R_below (pRq7 HO_9) hb)
                              replace HO204 := Aside0.mk (Kd.R_below (pRq7 HO204) hb)
                              replace HO209 := Aside0.mk (Kd.R_below (pRq7 HO209) hb)
                              replace BK196 := Aside0.mk (blk_below (pKq7 BK196) hb)
                              replace BK206 := Aside0.mk (blk_below (pKq7 BK206) hb)
                              replace HB := Aside0.mk (below_step (pBq7 HB) hb)
                              (try clear hb)
                              (try clear hb2)
                              (try clear hk)
                              (try clear hi)
                              refine hK.out _ _ trivial (fun hHeld => ?_)
                              clear hK K
                              refine norm_ (a' := ?_) ?_ ?_
                              rotate_left
                              · show Act.put _ (some 34) _ = _
                                simp only [Act.put, List.setIfInBounds_toArray, List.set_cons_zero, List.set_cons_succ, i64_w, i32_w]
                                rfl
                              refine one_ (i := 3) (N := some 32) #[true, true, true, true, true, true, false, false, false, false] rfl rfl (one_of HT_.out (by kernel_rfl)) (by decide) (fun K hK => ?_)
                              have hcv28 := own_string (P := Tryd.prog) Tryd.underlying66 Tryd.underlying5 Tryd.underlying9 (Kd.own_of_R HO209.out)
                              refine value_ (w1 := ?_) (v := ?_) (by rfl) rfl ?_ ?_
                              rotate_left 2
                              · go_simp
                                constructor
                                · rfl
                                · rfl
                              clear hcv28
                              refine hK.out _ _ trivial (fun hHeld => ?_)
                              clear hK K
                              refine norm_ (a' := ?_) ?_ ?_
                              rotate_left
                              · show Act.put _ (some 32) _ = _
                                simp only [Act.put, List.setIfInBounds_toArray, List.set_cons_zero, List.set_cons_succ, i64_w, i32_w]
                                rfl
                              exact norm_ (by simp only [putAll, Act.put, List.setIfInBounds_toArray, List.set_cons_zero, List.set_cons_succ]) (hCont (v208) _ ⟨(pRq7 HO204), (by (with_reducible repeat (first | apply Kd.R_alloc | apply Kd.R_drewN | apply Kd.R_drew)); exact Kd.R_mono HO209.out (fun _ hk => hk.2)), (pRq7 HO_3), (by (with_reducible repeat (first | apply Kd.R_alloc | apply Kd.R_drewN | apply Kd.R_drew)); exact Kd.R_mono HO_9.out (fun _ hk => hk.2)), (pKq7 BK196), (pKq7 BK206), (pBq7 HB)⟩)
                          · skip
                            refine goes_ Tryd.func44 (by kernel_rfl) rfl #[.int .i64 x18_2] (by rfl) rfl rfl (by (try simp only [List.map_toArray, List.map_cons, List.map_nil]); first | done | rfl | (simp only [List.length_drop, List.length_take]; rfl)) ?_
                            with_reducible refine (spec_l1Num.calls k2 x18_2 t210 _ A13.out).mono ?_
                            rintro e w25 ⟨rfl, hb⟩
                            refine ⟨_, rfl, ?_⟩
                            replace HO_3 := Aside0.mk (Kd.R_below (pRq7 HO_3) hb)
                            replace HO_9 := Aside0.mk (Kd.R_below (pRq7 HO_9) hb)
                            replace HO204 := Aside0.mk (Kd.R_below (pRq7 HO204) hb)
                            replace BK196 := Aside0.mk (blk_below (pKq7 BK196) hb)
                            replace BK206 := Aside0.mk (blk_below (pKq7 BK206) hb)
                            replace HB := Aside0.mk (below_step (pBq7 HB) hb)
                            (try clear hb)
                            (try clear hb2)
                            (try clear hk)
                            (try clear hi)
                            refine hK.out _ _ trivial (fun hHeld => ?_)
                            clear hK K
                            refine norm_ (a' := ?_) ?_ ?_
                            rotate_left
                            · show Act.put _ (some 34) _ = _
                              simp only [Act.put, List.setIfInBounds_toArray, List.set_cons_zero, List.set_cons_succ, i64_w, i32_w]
                              rfl
                            refine one_ (i := 2) (N := some 31) #[true, true, true, false, true, true, false, false, false, false] rfl rfl (one_of HT_.out (by kernel_rfl)) (by decide) (fun K hK => ?_)
                            refine Kd.R_lit_step (Kd.int .u8) _ 5 ?hg (N := 31) ?hd (xs := ([(rd y197 x11_1)] : List Int)) (inner := [.int .u8 (rd y197 x11_1)]) (ok := fun _ => True) (okp := fun _ => True) ?hr ?hp (fun _ hk => hk) trivial (Below.refl _ _) (Nat.le_refl _) (by simp) ?_; (case hd => rfl); (case hg => rfl); (case hr => first | (go_simp; done) | (go_simp; rfl)); (case hp => exact (Reps.one (show Kd.M (Kd.int .u8) _ _ _ (rd y197 x11_1) [.int .u8 (rd y197 x11_1)] from rfl) (Reps.none _ _)))
                            intro v208 w26 ho27 hb hg_ hnew_
                            clear hg_ hnew_
                            (first | rw [← Ny207.out] at ho27 | (simp only [Int.reduceToNat] at ho27; rw [← Ny207.out] at ho27))
                            have HO209 := Aside0.mk (Kd.R_lower (Kd.R_new' ho27 (Kd.R_lt (pRq7 HO_9))) (below_size (pBq7 HB)))
                            replace HO_3 := Aside0.mk (Kd.R_below (pRq7 HO_3) hb)
                            replace HO_9 := Aside0.mk (Kd.R_elder' (pRq7 HO_9) (Kd.R_base ho27) hb)
                            replace HO204 := Aside0.mk (Kd.R_below (pRq7 HO204) hb)
                            replace BK196 := Aside0.mk (blk_below (pKq7 BK196) hb)
                            replace BK206 := Aside0.mk (blk_below (pKq7 BK206) hb)
                            replace HB := Aside0.mk (below_step (pBq7 HB) hb)
                            clear hb ho27
                            refine hK.out _ _ trivial (fun hHeld => ?_)
                            clear hK K
                            refine norm_ (a' := ?_) ?_ ?_
                            rotate_left
                            · show Act.put _ (some 31) _ = _
                              simp only [Act.put, List.setIfInBounds_toArray, List.set_cons_zero, List.set_cons_succ, i64_w, i32_w]
                              rfl
                            refine one_ (i := 3) (N := some 32) #[true, true, true, true, true, true, false, false, false, false] rfl rfl (one_of HT_.out (by kernel_rfl)) (by decide) (fun K hK => ?_)
                            have hcv28 := own_string (P := Tryd.prog) Tryd.underlying66 Tryd.underlying5 Tryd.underlying9 (Kd.own_of_R HO209.out)
                            refine value_ (w1 := ?_) (v := ?_) (by rfl) rfl ?_ ?_
                            rotate_left 2
                            · go_simp
                              constructor
                              · rfl
                              · rfl
                            clear hcv28
                            refine hK.out _ _ trivial (fun hHeld => ?_)
                            clear hK K
                            refine norm_ (a' := ?_) ?_ ?_
                            rotate_left
                            · show Act.put _ (some 32) _ = _
                              simp only [Act.put, List.setIfInBounds_toArray, List.set_cons_zero, List.set_cons_succ, i64_w, i32_w]
                              rfl
                            exact norm_ (by simp only [putAll, Act.put, List.setIfInBounds_toArray, List.set_cons_zero, List.set_cons_succ]) (hCont (v208) _ ⟨(pRq7 HO204), (by (with_reducible repeat (first | apply Kd.R_alloc | apply Kd.R_drewN | apply Kd.R_drew)); exact Kd.R_mono HO209.out (fun _ hk => hk.2)), (pRq7 HO_3), (by (with_reducible repeat (first | apply Kd.R_alloc | apply Kd.R_drewN | apply Kd.R_drew)); exact Kd.R_mono HO_9.out (fun _ hk => hk.2)), (pKq7 BK196), (pKq7 BK206), (pBq7 HB)⟩)
                        rintro v208 w29 ⟨h0_, h1_, h2_, h3_, h4_, h5_, h6_⟩
                        have n0_ : Aside0 (Kd.R (Kd.int .i64) 3 w29 w.heap.size (fun _ => True) (.slice Ao21 t202.length co21) t202) := ⟨h0_⟩
                        have n1_ : Aside0 (Kd.R (Kd.int .u8) 5 w29 w.heap.size (fun k_ => some k_ ≠ (.slice (some ad200) y197.length co5 : Value).ownBlock) v208 y207) := ⟨h1_⟩
                        have n2_ : Aside0 (Kd.R Kd.string 9 w29 w.heap.size (fun _ => True) (.slice Ao22 x3_2.length co22) x3_2) := ⟨h2_⟩
                        have n3_ : Aside0 (Kd.R (Kd.int .u8) 5 w29 w.heap.size (fun k_ => some k_ ≠ (v208 : Value).ownBlock) (.slice (some ad200) y197.length co5) y197) := ⟨h3_⟩
                        have n4_ : Aside0 (w29.heap[gb196]? = some (.cells #[.int .i64 a0_0, .slice A0_1 l0_1.length c0_1] 28 (0, 0))) := ⟨h4_⟩
                        have n5_ : Aside0 (w29.heap[gb206]? = some (.cells #[.int .i64 t201, .slice Ao21 t202.length co21] 28 (0, 0))) := ⟨h5_⟩
                        have n6_ : Aside0 (Below w.heap.size w w29) := ⟨h6_⟩
                        clear HO_3
                        clear HO_9
                        clear HO204
                        clear BK196
                        clear BK206
                        clear HB
                        clear h0_ h1_ h2_ h3_ h4_ h5_ h6_
                        have HO204 := n0_
                        have HO209 := n1_
                        have HO_3 := n2_
                        have HO_9 := n3_
                        have BK196 := n4_
                        have BK206 := n5_
                        have HB := n6_
                        clear n0_ n1_ n2_ n3_ n4_ n5_ n6_
                        have hHeld := trivial
                        refine norm_ (a' := ?_) ?_ ?_
                        rotate_left
                        · simp only [putAll, Act.put, List.setIfInBounds_toArray, List.set_cons_zero, List.set_cons_succ]
                          rfl
                        refine pure_ (i := 6) (N := some 35) (v := ?_) (a' := ?_) #[true, true, true, true, true, true, true, false, false, false] rfl rfl (any_of HT_.out (by kernel_rfl)) (fun _ _ _ h => h) (Or.inl ⟨by rfl, ?_⟩) ?_ ?_
                        rotate_left
                        · intro w'
                          go_simp
                          with_reducible rfl
                        rotate_left
                        · simp only [Act.put, List.setIfInBounds_toArray, List.set_cons_zero, List.set_cons_succ, i64_w, i32_w]
                          rfl
                        refine one_ (i := 7) (N := some 36) #[true, true, true, true, true, true, true, true, false, false] rfl rfl (one_of HT_.out (by kernel_rfl)) (by decide) (fun K hK => ?_)
                        refine value_ (w1 := ?_) (v := ?_) (by rfl) rfl ?_ ?_
                        rotate_left 2
                        · go_simp
                          constructor
                          · rfl
                          · rfl
                        refine hK.out _ _ trivial (fun hHeld => ?_)
                        clear hK K
                        refine norm_ (a' := ?_) ?_ ?_
                        rotate_left
                        · show Act.put _ (some 36) _ = _
                          simp only [Act.put, List.setIfInBounds_toArray, List.set_cons_zero, List.set_cons_succ, i64_w, i32_w]
                          rfl
                        refine one_ (i := 8) (N := some 37) #[true, true, true, true, true, true, true, true, true, false] rfl rfl (one_of HT_.out (by kernel_rfl)) (by decide) (fun K hK => ?_)
                        refine Kd.R_append_step Kd.string (w0 := w) w.heap.size (by rfl) (.tmp 29) (.tmp 36) 32 9 (.string ⟨#[]⟩) 16 rfl Tryd.underlying32 info9 rfl (by decide) (by omega) (.slice Ao22 x3_2.length co22) x3_2 ((strOfNums y207) ++ t210) [.string ((strOfNums y207) ++ t210)] (fun _ => True) (fun _ => False) rfl rfl ?aP (fun _ hk => hk.elim) ?aF ?aO ?aB ?aS ?aL ?_
                        (case aP => exact rfl)
                        (case aB => exact (pBq7 HB))
                        (case aF => exact (fun _ _ => trivial))
                        (case aO => exact (pRq7 HO_3))
                        (case aS => exact (below_size (pBq7 HB)))
                        (case aL => have := LMc15.out; omega)
                        intro v212 w30 ho hb hg hat
                        rw [← Ny211.out] at ho
                        have HO213 := Aside0.mk (ho)
                        replace HO_9 := Aside0.mk (Kd.R_over' (pRq7 HO_9) (Kd.R_typed (pRq7 HO_3)) (by decide) hg)
                        replace BK196 := Aside0.mk (blk_grown (g := gb196) (o := .cells #[.int .i64 a0_0, .slice A0_1 l0_1.length c0_1] 28 (0, 0)) (pKq7 BK196) hg (Kd.R_ne HO_3.out BK196.out (by decide)))
                        replace HO204 := Aside0.mk (Kd.R_over' (pRq7 HO204) (Kd.R_typed (pRq7 HO_3)) (by decide) hg)
                        replace BK206 := Aside0.mk (blk_grown (g := gb206) (o := .cells #[.int .i64 t201, .slice Ao21 t202.length co21] 28 (0, 0)) (pKq7 BK206) hg (Kd.R_ne HO_3.out BK206.out (by decide)))
                        replace HO209 := Aside0.mk (Kd.R_over' (pRq7 HO209) (Kd.R_typed (pRq7 HO_3)) (by decide) hg)
                        replace HB := Aside0.mk (hb)
                        clear HO_3
                        clear ho hb hg hat
                        refine hK.out _ _ trivial (fun hHeld => ?_)
                        clear hK K
                        refine norm_ (a' := ?_) ?_ ?_
                        rotate_left
                        · show Act.put _ (some 37) _ = _
                          simp only [Act.put, List.setIfInBounds_toArray, List.set_cons_zero, List.set_cons_succ, i64_w, i32_w]
                          rfl
                        refine pure_ (i := 9) (N := some 3) (v := ?_) (a' := ?_) #[true, true, true, true, true, true, true, true, true, true] rfl rfl (any_of HT_.out (by kernel_rfl)) (fun _ _ _ h => h) (Or.inl ⟨by rfl, ?_⟩) ?_ ?_
                        rotate_left
                        · intro w'
                          go_simp
                          with_reducible rfl
                        rotate_left
                        · simp only [Act.put, List.setIfInBounds_toArray, List.set_cons_zero, List.set_cons_succ, i64_w, i32_w]
                          rfl
                        refine done_ (done_of HT_.out (by kernel_rfl)) ?_
                        try go_wp2
                        go_roundg k2
                        case measure => have := HK1.out; have := HK2.out; omega
                        case rel => exact ⟨(y211), (wrap64 (x18_2 + 1)), (by first | rfl | (simp; done) | (simp [*]; done)), H', ⟨by have := HK1.out; have := HK2.out; omega⟩, ⟨by (with_reducible repeat (first | apply Kd.R_alloc | apply Kd.R_drewN | apply Kd.R_drew)); exact HO213.out⟩, ⟨by (with_reducible repeat (first | apply Kd.R_alloc | apply Kd.R_drewN | apply Kd.R_drew)); exact Kd.R_mono HO_9.out (fun _ hk => trivial)⟩, ⟨by (with_reducible repeat (first | refine blk_drewN ?_ _ | refine blk_drew ?_ | refine blk_alloc ?_ _)); exact BK196.out⟩, ⟨by repeat (first | (with_reducible first | exact HB.out | apply below_alloc | apply pw_below_drewN | apply below_drew1 | refine below_set ?_ GE196.out | refine below_set ?_ GE206.out) | exact HB.out)⟩⟩
                      · rw [if_neg c15] at H
                        exact absurd H (by simp)
                    · rw [if_neg c14] at H
                      exact absurd H (by simp)
                  · replace c12 := Bool.eq_false_iff.mpr c12
                    subst c12
                    have H1 : (spec_lsMoves.l1 k2 x3_2 (rd y197 x11_1) y197 (y197.length : Int) x11_1 (l0_1.length : Int) (wrap64 (x18_2 + 1)) a0_0 l0_1) = some r := by rw [if_neg (show ¬ (false = true) by decide)] at H; exact H
                    clear H
                    have H := H1
                    clear H1
                    have H' := Aside0.mk H
                    clear H
                    have hcz31_0 : wr.cell? ⟨gb196, 0, none⟩ = some (.int .i64 a0_0) := (blk_cell BK196.out 0).trans rfl
                    have hcz31_1 : wr.cell? ⟨gb196, 1, none⟩ = some (.slice A0_1 l0_1.length c0_1) := (blk_cell BK196.out 1).trans rfl
                    have hfz31_0 := blk_frozen BK196.out 0
                    have hfz31_1 := blk_frozen BK196.out 1
                    go_wp2_with (first | ((with_reducible refine gate_callee (f := 45) rfl ?_); refine goesL_ (some 25) rfl rfl Tryd.func45 (by kernel_rfl) rfl #[.agg #[.int .i64 a0_0, .slice A0_1 l0_1.length c0_1], .int .u8 (rd y197 x11_1), .int .i64 x18_2] rfl (by (try simp only [List.map_toArray, List.map_cons, List.map_nil]); first | done | rfl | (simp only [List.length_drop, List.length_take]; rfl)) ?_; (with_reducible refine (spec_lsMake.calls k2 a0_0 _ _ l0_1 (rd y197 x11_1) x18_2 t201 t202 false _ ?side1 ?side2 A11.out).mono ?_); (case side1 => repeat (first | exact (Kd.C_below HR0_1.out HB.out) | (with_reducible refine Kd.C_alloc ?_ _) | (with_reducible refine Kd.C_drewN ?_ _) | (with_reducible refine Kd.C_drew ?_))); (case side2 => exact HC0_1.out); rintro e w32 ⟨v203, rfl, ho0, hb⟩; refine ⟨_, rfl, ?_⟩; have HO204 := Aside0.mk (Kd.R_lower ho0 (below_size (pBq7 HB))); replace HO_3 := Aside0.mk (Kd.R_below (pRq7 HO_3) hb); replace HO_9 := Aside0.mk (Kd.R_below (pRq7 HO_9) hb); replace BK196 := Aside0.mk (blk_below (pKq7 BK196) hb); replace HB := Aside0.mk (below_step (pBq7 HB) hb); (try clear hb); (try clear hb2); (try clear hk); (try clear hi); (try clear ho0)) | ((with_reducible refine gate_dst (N := 7) rfl ?_); refine box_event ?hg (N := 7) ?hd (cs := #[.int .i64 0, .slice none 0 0]) (t := 28) ?hr ?_; (case hd => rfl); (case hg => rfl); (case hr => first | (go_simp; done) | (go_simp; rfl)); intro gb206 hg w33 hbox hb; have BK206 := Aside0.mk (hbox); have GW206 := Aside0.mk ((by rw [hg]; exact (below_size (pBq7 HB)) : w.heap.size ≤ gb206)); have GE206 := Aside0.mk ((by rw [hg]; exact (below_size (pBq7 HB)) : w.heap.size ≤ gb206)); have NB196_206 := Aside0.mk ((by rw [hg]; exact Nat.ne_of_lt (blk_lt (pKq7 BK196)) : gb196 ≠ gb206)); have NB206_196 := Aside0.mk ((by rw [hg]; exact Nat.ne_of_gt (blk_lt (pKq7 BK196)) : gb206 ≠ gb196)); replace HO_3 := Aside0.mk (Kd.R_below (pRq7 HO_3) hb); replace HO_9 := Aside0.mk (Kd.R_below (pRq7 HO_9) hb); replace HO204 := Aside0.mk (Kd.R_below (pRq7 HO204) hb); replace BK196 := Aside0.mk (blk_below (pKq7 BK196) hb); replace HB := Aside0.mk (below_step (pBq7 HB) hb); clear hb hbox hg; have hnb34 := NB206_196.out; have hnc34 := NB196_206.out; have hcz35_0 : w33.cell? ⟨gb206, 0, none⟩ = some (.int .i64 0) := (blk_cell BK206.out 0).trans rfl; have hcz35_1 : w33.cell? ⟨gb206, 1, none⟩ = some (.slice none 0 0) := (blk_cell BK206.out 1).trans rfl; have hfz35_0 := blk_frozen BK206.out 0; have hfz35_1 := blk_frozen BK206.out 1; obtain ⟨Ao36, co36, eo36⟩ := Kd.R_slice HO204.out; subst eo36))
                    go_roundg k2
                    case measure => have := HK1.out; have := HK2.out; omega
                    case rel => exact ⟨(x3_2), (wrap64 (x18_2 + 1)), (by first | rfl | (simp; done) | (simp [*]; done)), H', ⟨by have := HK1.out; have := HK2.out; omega⟩, ⟨by (with_reducible repeat (first | apply Kd.R_alloc | apply Kd.R_drewN | apply Kd.R_drew)); exact Kd.R_mono (Kd.R_far (p := ⟨gb206, 1, none⟩) (Kd.R_far (p := ⟨gb206, 0, none⟩) (Kd.R_types HO_3.out BK206.out (by decide)) (fun _ hk => hk.2) (.int .i64 t201)) (fun _ hk => hk.2) (.slice Ao36 t202.length co36)) (fun _ hk => trivial)⟩, ⟨by (with_reducible repeat (first | apply Kd.R_alloc | apply Kd.R_drewN | apply Kd.R_drew)); exact Kd.R_mono (Kd.R_far (p := ⟨gb206, 1, none⟩) (Kd.R_far (p := ⟨gb206, 0, none⟩) (Kd.R_types HO_9.out BK206.out (by decide)) (fun _ hk => hk.2) (.int .i64 t201)) (fun _ hk => hk.2) (.slice Ao36 t202.length co36)) (fun _ hk => trivial)⟩, ⟨by (with_reducible repeat (first | refine blk_drewN ?_ _ | refine blk_drew ?_ | refine blk_alloc ?_ _)); refine blk_far ?_ NB196_206.out _; (with_reducible repeat (first | refine blk_drewN ?_ _ | refine blk_drew ?_ | refine blk_alloc ?_ _)); refine blk_far ?_ NB196_206.out _; (with_reducible repeat (first | refine blk_drewN ?_ _ | refine blk_drew ?_ | refine blk_alloc ?_ _)); exact BK196.out⟩, ⟨by repeat (first | (with_reducible first | exact HB.out | apply below_alloc | apply pw_below_drewN | apply below_drew1 | refine below_set ?_ GE196.out | refine below_set ?_ GE206.out) | exact HB.out)⟩⟩
                · rw [if_neg c10] at H
                  have c10b0 : decide (x18_2 < (l0_1.length : Int)) = false := decide_eq_false c10
                  clear c10
                  have H' := Aside0.mk H
                  clear H
                  go_wp2
                  go_roundg k2
                  case measure => have := HK1.out; have := HK2.out; omega
                  case rel => exact ⟨(x3_2), (wrap64 (x11_1 + 1)), (by first | rfl | (simp; done) | (simp [*]; done)), H', ⟨by have := HK1.out; have := HK2.out; omega⟩, ⟨by (with_reducible repeat (first | apply Kd.R_alloc | apply Kd.R_drewN | apply Kd.R_drew)); exact HO_3.out⟩, ⟨by (with_reducible repeat (first | apply Kd.R_alloc | apply Kd.R_drewN | apply Kd.R_drew)); exact HO_9.out⟩, ⟨by (with_reducible repeat (first | refine blk_drewN ?_ _ | refine blk_drew ?_ | refine blk_alloc ?_ _)); exact BK196.out⟩, ⟨by repeat (first | (with_reducible first | exact HB.out | apply below_alloc | apply pw_below_drewN | apply below_drew1 | refine below_set ?_ GE196.out) | exact HB.out)⟩⟩
          · rw [if_neg c8] at H
            exact absurd H (by simp)
        · rw [if_neg c7] at H
          exact absurd H (by simp)
      · rw [if_neg c6] at H
        have c6b0 : decide (x11_1 < (y197.length : Int)) = false := decide_eq_false c6
        clear c6
        obtain rfl := Option.some.inj H
        go_wp2
        go_ret
        exact ⟨_, by first | rfl | (simp [errW_none, errW_some] <;> rfl) | (simp [*, errW_none, errW_some] <;> rfl), by (with_reducible repeat (first | apply Kd.R_alloc | apply Kd.R_drewN | apply Kd.R_drew)); exact HO_3.out, by repeat (first | (with_reducible first | exact HB.out | apply below_alloc | apply pw_below_drewN | apply below_drew1 | refine below_set ?_ GE196.out) | exact HB.out)⟩

end
end Go.Proofs.YtldcjlpbodpmbaaDoor.PMv
