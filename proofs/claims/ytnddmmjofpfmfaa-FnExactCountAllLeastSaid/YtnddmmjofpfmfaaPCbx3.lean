-- Written for this claim by a program of this session (myprint.py) over the kit's printer.
import Derived.Test.YtnddmmjofpfmfaaPCbx0
import Derived.Test.YtnddmmjofpfmfaaPCbx1
namespace Go.Proofs.Ytnddmmjofpfmfaa.PCb
noncomputable section
open Go.RowKit Go.Proofs.YtnddmmjofpfmfaaW.PrintWords Go.Proofs.YtnddmmjofpfmfaaW.PrintLast Go.Proofs.YtnddmmjofpfmfaaW.PrintMore
attribute [local go_sem] max2_int min2_int max_two min_two max_three min_three max_four min_four   -- for this text's walks alone
set_option linter.unusedVariables false
set_option linter.unusedSimpArgs false

/-! ### spec_alSwap: function 66 -/
def spec_alSwap.f (l0 : List Int) (a1 : Int) : Option (List Int) := (spec_l1Own.f l0).bind fun t131 => (if 0 ≤ (wrap64 (a1 + 1)) then (if (wrap64 (a1 + 1)) < (l0.length : Int) then (if 0 ≤ a1 then (if a1 < (t131.length : Int) then (if a1 < (l0.length : Int) then (if (wrap64 (a1 + 1)) < (t131.length : Int) then (some ((t131.set (a1 : Int).toNat (rd l0 (wrap64 (a1 + 1)))).set ((wrap64 (a1 + 1)) : Int).toNat (rd l0 a1))) else (none)) else (none)) else (none)) else (none)) else (none)) else (none))
set_option maxHeartbeats 8000000 in
set_option maxRecDepth 100000 in
theorem spec_alSwap.calls (A0 : Option Addr) (c0 : Nat) (l0 : List Int) (a1 : Int) (r : List Int) (w : World) (hr0 : Kd.C (Kd.int .i64) w A0 l0.length l0) (hc0 : l0.length ≤ c0) (h : spec_alSwap.f l0 a1 = some r) :
    Calls Try.prog 66 #[.slice A0 l0.length c0, .int .i64 a1] w fun e w' => ∃ v0_ : Value, e = .returned (v0_) ∧ Kd.R (Kd.int .i64) 3 w' w.heap.size (fun _ => True) v0_ r ∧ Below w.heap.size w w' := by
  have HR0 := Aside0.mk hr0
  have HC0 := Aside0.mk hc0
  clear hr0 hc0
  have HB := Aside0.mk (Below.refl w.heap.size w)
  have H : ((spec_l1Own.f l0).bind fun t131 => (if 0 ≤ (wrap64 (a1 + 1)) then (if (wrap64 (a1 + 1)) < (l0.length : Int) then (if 0 ≤ a1 then (if a1 < (t131.length : Int) then (if a1 < (l0.length : Int) then (if (wrap64 (a1 + 1)) < (t131.length : Int) then (some ((t131.set (a1 : Int).toNat (rd l0 (wrap64 (a1 + 1)))).set ((wrap64 (a1 + 1)) : Int).toNat (rd l0 a1))) else (none)) else (none)) else (none)) else (none)) else (none)) else (none))) = some r := h
  clear h
  replace H := Option.bind_eq_some_iff.mp H
  obtain ⟨t131, A30, H⟩ := H
  replace H : (if 0 ≤ (wrap64 (a1 + 1)) then (if (wrap64 (a1 + 1)) < (l0.length : Int) then (if 0 ≤ a1 then (if a1 < (t131.length : Int) then (if a1 < (l0.length : Int) then (if (wrap64 (a1 + 1)) < (t131.length : Int) then (some ((t131.set (a1 : Int).toNat (rd l0 (wrap64 (a1 + 1)))).set ((wrap64 (a1 + 1)) : Int).toNat (rd l0 a1))) else (none)) else (none)) else (none)) else (none)) else (none)) else (none)) = some r := H
  have A3 := Aside0.mk A30
  clear A30
  obtain ⟨ji4, hji4⟩ : ∃ j_ : Int, (wrap64 (a1 + 1)) = j_ := ⟨_, rfl⟩
  replace H : (if 0 ≤ (ji4) then (if (ji4) < (l0.length : Int) then (if 0 ≤ a1 then (if a1 < (t131.length : Int) then (if a1 < (l0.length : Int) then (if (ji4) < (t131.length : Int) then (some ((t131.set (a1 : Int).toNat (rd l0 (ji4))).set ((ji4) : Int).toNat (rd l0 a1))) else (none)) else (none)) else (none)) else (none)) else (none)) else (none)) = some r := by first | (rw [hji4] at H; exact H) | (simp only [hji4] at H ⊢; exact H)
  (try rw [hji4] at A3)
  have hji4w : (IntKind.i64.wrap (a1 + 1)) = ji4 := (i64_w _).trans hji4
  by_cases c5 : 0 ≤ (ji4)
  · rw [if_pos c5] at H
    have c5b0 : decide (0 ≤ (ji4)) = true := decide_eq_true c5
    clear c5
    by_cases c6 : (ji4) < (l0.length : Int)
    · rw [if_pos c6] at H
      have c6b0 : decide ((ji4) < (l0.length : Int)) = true := decide_eq_true c6
      clear c6
      by_cases c7 : 0 ≤ a1
      · rw [if_pos c7] at H
        have c7b0 : decide (0 ≤ a1) = true := decide_eq_true c7
        clear c7
        by_cases c8 : a1 < (t131.length : Int)
        · rw [if_pos c8] at H
          have c8b0 : decide (a1 < (t131.length : Int)) = true := decide_eq_true c8
          clear c8
          obtain ⟨y135, hy135⟩ : ∃ y_ : List Int, y_ = (t131.set (a1 : Int).toNat (rd l0 (ji4))) := ⟨_, rfl⟩
          replace H : (if a1 < (l0.length : Int) then (if (ji4) < (t131.length : Int) then (some (y135.set ((ji4) : Int).toNat (rd l0 a1))) else (none)) else (none)) = some r := by first | (rw [hy135]; with_reducible exact H) | (have H2_ := (Option.bind_some _ _).symm.trans H; rw [hy135]; with_reducible exact H2_) | (have H2_ := (Option.bind_some _ _).symm.trans H; with_reducible exact H2_) | with_reducible exact H | (rw [hy135]; exact H) | exact H
          have Ny135 := Aside0.mk hy135
          clear hy135
          by_cases c10 : a1 < (l0.length : Int)
          · rw [if_pos c10] at H
            have c10b0 : decide (a1 < (l0.length : Int)) = true := decide_eq_true c10
            clear c10
            by_cases c11 : (ji4) < (t131.length : Int)
            · rw [if_pos c11] at H
              have c11b0 : decide ((ji4) < (t131.length : Int)) = true := decide_eq_true c11
              clear c11
              obtain ⟨y137, hy137⟩ : ∃ y_ : List Int, y_ = (y135.set ((ji4) : Int).toNat (rd l0 a1)) := ⟨_, rfl⟩
              replace H : (some y137) = some r := by first | (rw [hy137]; with_reducible exact H) | (have H2_ := (Option.bind_some _ _).symm.trans H; rw [hy137]; with_reducible exact H2_) | (have H2_ := (Option.bind_some _ _).symm.trans H; with_reducible exact H2_) | with_reducible exact H | (rw [hy137]; exact H) | exact H
              have Ny137 := Aside0.mk hy137
              clear hy137
              obtain rfl := Option.some.inj H
              go_enter Try.func66, Try.ntmps66
              go_wp2_with (first | ((with_reducible refine gate_callee (f := 75) rfl ?_); refine goesL_ (some 7) rfl rfl Try.func75 (by kernel_rfl) rfl #[.slice A0 l0.length c0] rfl (by (try simp only [List.map_toArray, List.map_cons, List.map_nil]); first | done | rfl | (simp only [List.length_drop, List.length_take]; rfl)) ?_; (with_reducible refine (spec_l1Own.calls _ _ l0 t131 _ ?side1 ?side2 A3.out).mono ?_); (case side1 => repeat (first | exact HR0.out | (with_reducible refine Kd.C_alloc ?_ _) | (with_reducible refine Kd.C_drewN ?_ _) | (with_reducible refine Kd.C_drew ?_))); (case side2 => exact HC0.out); rintro e w13 ⟨v132, rfl, ho0, hb⟩; refine ⟨_, rfl, ?_⟩; have n0_ := Aside0.mk (Kd.R_lower ho0 (below_size (by repeat (first | (with_reducible first | exact HB.out | apply below_alloc | apply pw_below_drewN | apply below_drew1) | exact HB.out)))); have n1_ := Aside0.mk (below_step (by repeat (first | (with_reducible first | exact HB.out | apply below_alloc | apply pw_below_drewN | apply below_drew1) | exact HB.out)) hb); clear HB; have HO133 := n0_; have HB := n1_; clear n0_ n1_; (try clear hb); (try clear hb2); (try clear hk); (try clear hi); (try clear ho0); have p134 : 0 ≤ ((ji4) : Int) := of_decide_eq_true (by first | (with_reducible assumption) | assumption); have q134 : (ji4) < (l0.length : Int) := of_decide_eq_true (by first | (with_reducible assumption) | assumption); obtain ⟨ad134, e134, hx134_0⟩ := Kd.at_int HR0.out (ji4) p134 q134; cases e134; replace hx134_0 := (HB.out.cell (World.block_lt_of_cell? w _ hx134_0)).trans hx134_0; replace p134 := eq_true p134; replace q134 := eq_true q134; have p9 : 0 ≤ (a1 : Int) := of_decide_eq_true (by first | (with_reducible assumption) | assumption); have q9 : (a1 : Int) < ((t131.length : Int) : Int) := of_decide_eq_true (by first | (with_reducible assumption) | assumption); obtain ⟨go9, co9, eo9, gb9, gl9, cl9, HG9⟩ := Kd.R_form HO133.out (by omega); (first | cases eo9 | (injection eo9 with ea_ en_ ec_; (first | subst ea_ | (injection ea_ with ea_; subst ea_)); subst ec_; clear en_)); have GB9 := Aside0.mk gb9; have GG9 := Aside0.mk HG9; clear gb9 gl9 HG9; obtain ⟨hx9_0, hf9_0⟩ := Kd.R_celln 0 HO133.out (a1 : Int) p9 q9; replace p9 := eq_true p9; replace q9 := eq_true q9; obtain ⟨hy14_, hz14_⟩ := Kd.R_celln 0 HO133.out (a1 : Int) (of_decide_eq_true (by first | (with_reducible assumption) | assumption)) (of_decide_eq_true (by first | (with_reducible assumption) | assumption)); have HP14 := Kd.R_putg HO133.out (a1 : Int) (rd l0 (ji4))) | ((with_reducible refine gate_store (t := 3) (p := 15) rfl ?_); refine store_event (t := 3) (p := 15) (v := ?vo_w15) (w1 := (w13.setCell ⟨go9, (a1 : Int).toNat, none⟩ (.int .i64 (rd l0 (ji4))))) ?hg ?ho ?hn ?hr ?_; (case ho => rfl); (case hg => rfl); (case hn => rfl); (case hr => first | (go_simp; done) | (go_simp; rfl)); intro w15 hw; have hg : w13.grownBy w15 (some go9) := (by rw [hw]; exact HP14.2); have hp_ : Kd.R (Kd.int .i64) 3 w15 w.heap.size (fun _ => True) (.slice (some ⟨go9, 0, none⟩) t131.length co9) y135 := (by rw [hw, Ny135.out]; exact HP14.1); clear HP14; have n0_ := Aside0.mk (hp_); have n1_ := Aside0.mk ((by rw [hw]; exact below_set (HB.out) GB9.out : Below w.heap.size w w15)); clear HO133; clear HB; have HO133 := n0_; have HB := n1_; clear n0_ n1_; clear hg hw hp_; have p136 : 0 ≤ (a1 : Int) := of_decide_eq_true (by first | (with_reducible assumption) | assumption); have q136 : a1 < (l0.length : Int) := of_decide_eq_true (by first | (with_reducible assumption) | assumption); obtain ⟨ad136, e136, hx136_0⟩ := Kd.at_int HR0.out a1 p136 q136; obtain rfl : ad134 = ad136 := (by injection e136); replace hx136_0 := (HB.out.cell (World.block_lt_of_cell? w _ hx136_0)).trans hx136_0; replace p136 := eq_true p136; replace q136 := eq_true q136; have p12 : 0 ≤ ((ji4) : Int) := of_decide_eq_true (by first | (with_reducible assumption) | assumption); have q12 : ((ji4) : Int) < ((t131.length : Int) : Int) := of_decide_eq_true (by first | (with_reducible assumption) | assumption); obtain ⟨hx12_0, hf12_0⟩ := Kd.R_celln 0 HO133.out ((ji4) : Int) p12 q12; replace p12 := eq_true p12; replace q12 := eq_true q12; obtain ⟨hy16_, hz16_⟩ := Kd.R_celln 0 HO133.out ((ji4) : Int) (of_decide_eq_true (by first | (with_reducible assumption) | assumption)) (of_decide_eq_true (by first | (with_reducible assumption) | assumption)); have HP16 := Kd.R_putg HO133.out ((ji4) : Int) (rd l0 a1)) | ((with_reducible refine gate_store (t := 3) (p := 23) rfl ?_); refine store_event (t := 3) (p := 23) (v := ?vo_w17) (w1 := (w15.setCell ⟨go9, ((ji4) : Int).toNat, none⟩ (.int .i64 (rd l0 a1)))) ?hg ?ho ?hn ?hr ?_; (case ho => rfl); (case hg => rfl); (case hn => rfl); (case hr => first | (go_simp; done) | (go_simp; rfl)); intro w17 hw; have hg : w15.grownBy w17 (some go9) := (by rw [hw]; exact HP16.2); have hp_ : Kd.R (Kd.int .i64) 3 w17 w.heap.size (fun _ => True) (.slice (some ⟨go9, 0, none⟩) t131.length co9) y137 := (by rw [hw, Ny137.out]; exact HP16.1); clear HP16; have n0_ := Aside0.mk (hp_); have n1_ := Aside0.mk ((by rw [hw]; exact below_set (HB.out) GB9.out : Below w.heap.size w w17)); clear HO133; clear HB; have HO133 := n0_; have HB := n1_; clear n0_ n1_; clear hg hw hp_))
              go_ret
              exact ⟨_, by first | rfl | (simp [errW_none, errW_some] <;> rfl) | (simp only [← hji4]; first | rfl | (simp [errW_none, errW_some] <;> rfl)) | (simp [*, errW_none, errW_some] <;> rfl), by (with_reducible repeat (first | apply Kd.R_alloc | apply Kd.R_drewN | apply Kd.R_drew)); exact HO133.out, by repeat (first | (with_reducible first | exact HB.out | apply below_alloc | apply pw_below_drewN | apply below_drew1) | exact HB.out)⟩
            · rw [if_neg c11] at H
              exact absurd H (by simp)
          · rw [if_neg c10] at H
            exact absurd H (by simp)
        · rw [if_neg c8] at H
          exact absurd H (by simp)
      · rw [if_neg c7] at H
        exact absurd H (by simp)
    · rw [if_neg c6] at H
      exact absurd H (by simp)
  · rw [if_neg c5] at H
    exact absurd H (by simp)

/-! ### spec_alRank: function 94 -/
mutual
def spec_alRank.l0 : Nat → List Int → Int → List Int → Int → Int → Option (Int)
  | 0, _, _, _, _, _ => none
  | k + 1, x0, x3, x9, x10, x11 => if x11 < x10 then (if 0 ≤ x11 then (if x11 < (x9.length : Int) then (if 0 ≤ (wrap64 (x11 + 1)) then (if (wrap64 (x11 + 1)) ≤ (x0.length : Int) then ((some (x0.drop ((wrap64 (x11 + 1)) : Int).toNat : List Int)).bind fun y139 => (spec_alRank.l1 k x0 x3 x11 (rd x9 x11) 0 x9 x10 x11 y139 (y139.length : Int) 0)) else (none)) else (none)) else (none)) else (none)) else (some x3)
def spec_alRank.l1 : Nat → List Int → Int → Int → Int → Int → List Int → Int → Int → List Int → Int → Int → Option (Int)
  | 0, _, _, _, _, _, _, _, _, _, _, _ => none
  | k + 1, x0, x3, x4, x5, x6, x9, x10, x11, x19, x20, x21 => if x21 < x20 then (if 0 ≤ x21 then (if x21 < (x19.length : Int) then (if (rd x19 x21) < x5 then (spec_alRank.l1 k x0 x3 x4 x5 (wrap64 (x6 + 1)) x9 x10 x11 x19 x20 (wrap64 (x21 + 1))) else (spec_alRank.l1 k x0 x3 x4 x5 x6 x9 x10 x11 x19 x20 (wrap64 (x21 + 1)))) else (none)) else (none)) else (spec_alRank.l0 k x0 (wrap64 ((wrap64 (x3 * (wrap64 ((x0.length : Int) - x4)))) + x6)) x9 x10 (wrap64 (x11 + 1)))
end
def spec_alRank.f (k : Nat) (l0 : List Int) : Option (Int) := spec_alRank.l0 k l0 0 l0 (l0.length : Int) 0
theorem spec_alRank.mono_l : ∀ k, (∀ y0 y1 y2 y3 y4, LeO (spec_alRank.l0 k y0 y1 y2 y3 y4) (spec_alRank.l0 (k + 1) y0 y1 y2 y3 y4)) ∧ (∀ y0 y1 y2 y3 y4 y5 y6 y7 y8 y9 y10, LeO (spec_alRank.l1 k y0 y1 y2 y3 y4 y5 y6 y7 y8 y9 y10) (spec_alRank.l1 (k + 1) y0 y1 y2 y3 y4 y5 y6 y7 y8 y9 y10))
  | 0 => ⟨fun _ _ _ _ _ r h => by simp [spec_alRank.l0] at h, fun _ _ _ _ _ _ _ _ _ _ _ r h => by simp [spec_alRank.l1] at h⟩
  | k + 1 => by
    obtain ⟨ih0, ih1⟩ := spec_alRank.mono_l k
    refine ⟨?_, ?_⟩
    · intro y0 y1 y2 y3 y4
      unfold spec_alRank.l0
      repeat' first
      | (with_reducible exact ih0 _ _ _ _ _)
      | (with_reducible exact ih1 _ _ _ _ _ _ _ _ _ _ _)
      | (with_reducible exact LeO.refl _)
      | (with_reducible exact LeO.none _)
      | (with_reducible refine LeO.ite ?_ ?_)
      | (with_reducible refine LeO.bind ?_ (fun _ => ?_))
      | exact ih0 _ _ _ _ _
      | exact ih1 _ _ _ _ _ _ _ _ _ _ _
      | exact LeO.none _
      | refine LeO.ite ?_ ?_
      | refine LeO.bind ?_ (fun _ => ?_)
    · intro y0 y1 y2 y3 y4 y5 y6 y7 y8 y9 y10
      unfold spec_alRank.l1
      repeat' first
      | (with_reducible exact ih0 _ _ _ _ _)
      | (with_reducible exact ih1 _ _ _ _ _ _ _ _ _ _ _)
      | (with_reducible exact LeO.refl _)
      | (with_reducible exact LeO.none _)
      | (with_reducible refine LeO.ite ?_ ?_)
      | (with_reducible refine LeO.bind ?_ (fun _ => ?_))
      | exact ih0 _ _ _ _ _
      | exact ih1 _ _ _ _ _ _ _ _ _ _ _
      | exact LeO.none _
      | refine LeO.ite ?_ ?_
      | refine LeO.bind ?_ (fun _ => ?_)
theorem spec_alRank.mono : ∀ a0 k, LeO (spec_alRank.f k a0) (spec_alRank.f (k + 1) a0) := by
  intro a0 k
  obtain ⟨ih0, ih1⟩ := spec_alRank.mono_l k
  unfold spec_alRank.f
  repeat' first
      | (with_reducible exact ih0 _ _ _ _ _)
      | (with_reducible exact ih1 _ _ _ _ _ _ _ _ _ _ _)
      | (with_reducible exact LeO.refl _)
      | (with_reducible exact LeO.none _)
      | (with_reducible refine LeO.ite ?_ ?_)
      | (with_reducible refine LeO.bind ?_ (fun _ => ?_))
      | exact ih0 _ _ _ _ _
      | exact ih1 _ _ _ _ _ _ _ _ _ _ _
      | exact LeO.none _
      | refine LeO.ite ?_ ?_
      | refine LeO.bind ?_ (fun _ => ?_)
set_option maxHeartbeats 8000000 in
set_option maxRecDepth 100000 in
theorem spec_alRank.calls (k : Nat) (A0 : Option Addr) (c0 : Nat) (l0 : List Int) (r : Int) (w : World) (hr0 : Kd.C (Kd.int .i64) w A0 l0.length l0) (hc0 : l0.length ≤ c0) (h : spec_alRank.f k l0 = some r) :
    Calls Try.prog 94 #[.slice A0 l0.length c0] w fun e w' => e = .returned (.int .i64 r) ∧ Drawn0 w w' := by
  have HR0 := Aside0.mk hr0
  have HC0 := Aside0.mk hc0
  clear hr0 hc0
  have H : (spec_alRank.l0 k l0 0 l0 (l0.length : Int) 0) = some r := h
  clear h
  have H' := Aside0.mk H
  clear H
  go_enter Try.func94, Try.ntmps94
  go_wp2
  go_loopg [3, 11] k (fun kq v3 v11 w' => ∃ (x3_1 : Int) (x11_1 : Int), v3 = .int .i64 x3_1 ∧ v11 = .int .i64 x11_1 ∧ Aside0 (spec_alRank.l0 kq l0 x3_1 l0 (l0.length : Int) x11_1 = some r) ∧ Aside0 (kq ≤ k) ∧ Drawn0 w w')
  case atStart => exact ⟨(0), (0), (by first | rfl | (simp; done) | (simp [*]; done)), (by first | rfl | (simp; done) | (simp [*]; done)), H', ⟨Nat.le_refl _⟩, by repeat (first | exact Drawn0.refl _ | apply Drawn0.step)⟩
  case round =>
    clear H'
    obtain ⟨x3_1, x11_1, rfl, rfl, HA, HK1, ⟨m1, rfl⟩⟩ := hrel
    cases gk with
    | zero => exact absurd HA.out (by simp [spec_alRank.l0])
    | succ k1 =>
      have H := HA.out
      clear HA
      simp only [spec_alRank.l0] at H
      by_cases c2 : x11_1 < (l0.length : Int)
      · rw [if_pos c2] at H
        have c2b0 : decide (x11_1 < (l0.length : Int)) = true := decide_eq_true c2
        clear c2
        by_cases c3 : 0 ≤ x11_1
        · rw [if_pos c3] at H
          have c3b0 : decide (0 ≤ x11_1) = true := decide_eq_true c3
          clear c3
          by_cases c4 : x11_1 < (l0.length : Int)
          · rw [if_pos c4] at H
            have c4b0 : decide (x11_1 < (l0.length : Int)) = true := decide_eq_true c4
            clear c4
            obtain ⟨ji5, hji5⟩ : ∃ j_ : Int, (wrap64 (x11_1 + 1)) = j_ := ⟨_, rfl⟩
            replace H : (if 0 ≤ (ji5) then (if (ji5) ≤ (l0.length : Int) then ((some (l0.drop ((ji5) : Int).toNat : List Int)).bind fun y139 => (spec_alRank.l1 k1 l0 x3_1 x11_1 (rd l0 x11_1) 0 l0 (l0.length : Int) x11_1 y139 (y139.length : Int) 0)) else (none)) else (none)) = some r := by first | (rw [hji5] at H; exact H) | (simp only [hji5] at H ⊢; exact H)
            have hji5w : (IntKind.i64.wrap (x11_1 + 1)) = ji5 := (i64_w _).trans hji5
            by_cases c6 : 0 ≤ (ji5)
            · rw [if_pos c6] at H
              have c6b0 := eq_true c6
              have c6b1 : decide (0 ≤ (ji5)) = true := decide_eq_true c6
              clear c6
              by_cases c7 : (ji5) ≤ (l0.length : Int)
              · rw [if_pos c7] at H
                have c7b0 := eq_true c7
                have c7b1 : decide ((ji5) ≤ (l0.length : Int)) = true := decide_eq_true c7
                clear c7
                obtain ⟨y139, hy139⟩ : ∃ y_ : List Int, y_ = (l0.drop ((ji5) : Int).toNat) := ⟨_, rfl⟩
                replace H : (spec_alRank.l1 k1 l0 x3_1 x11_1 (rd l0 x11_1) 0 l0 (l0.length : Int) x11_1 y139 (y139.length : Int) 0) = some r := by first | (rw [hy139]; with_reducible exact H) | (have H2_ := (Option.bind_some _ _).symm.trans H; rw [hy139]; with_reducible exact H2_) | (have H2_ := (Option.bind_some _ _).symm.trans H; with_reducible exact H2_) | with_reducible exact H | (rw [hy139]; exact H) | exact H
                have Ny139 := Aside0.mk hy139
                clear hy139
                have H' := Aside0.mk H
                clear H
                have p138 : 0 ≤ (x11_1 : Int) := of_decide_eq_true (by first | (with_reducible assumption) | assumption)
                have q138 : x11_1 < (l0.length : Int) := of_decide_eq_true (by first | (with_reducible assumption) | assumption)
                obtain ⟨ad138, e138, hx138_0⟩ := Kd.at_int HR0.out x11_1 p138 q138
                cases e138
                replace p138 := eq_true p138
                replace q138 := eq_true q138
                have q8 : ((ji5) : Int) ≤ ((l0.length : Int) : Int) := of_decide_eq_true (by first | (with_reducible assumption) | assumption)
                obtain ⟨i08, hi08, _, hsz8, _⟩ := info_parts info3
                have hroom8 : l0.length ≤ c0 := HC0.out
                have hC8 : Kd.C (Kd.int .i64) _ (some ad138) l0.length l0 := HR0.out
                have q08 : (0 : Int) ≤ ((ji5) : Int) := of_decide_eq_true (by first | (with_reducible assumption) | assumption)
                have hcut8 := cut_from (P := Try.prog) 25 3 .i64 Try.underlying25 hi08 1 hsz8 (some ad138) l0.length c0 (ji5) q08 q8
                have hr8 := Kd.C_drop (m := ((ji5) : Int).toNat) (c := c0) hC8 (by omega) hroom8
                obtain ⟨A8, hA8⟩ : ∃ A1, A1 = (if c0 = ((ji5) : Int).toNat then (some ad138) else ((some ad138) : Option Addr).map (·.add (((ji5) : Int).toNat * 1))) := ⟨_, rfl⟩
                obtain ⟨c8, hc8⟩ : ∃ c1, c1 = c0 - ((ji5) : Int).toNat := ⟨_, rfl⟩
                have hy8 : y139.length = l0.length - ((ji5) : Int).toNat := (by rw [Ny139.out, List.length_drop] <;> omega)
                rw [show (l0).drop ((ji5) : Int).toNat = y139 from Ny139.out.symm] at hr8
                replace hr8 : Kd.C (Kd.int .i64) _ A8 y139.length y139 := (by rw [hA8]; exact hr8)
                rw [← hy8, ← hA8, ← hc8] at hcut8
                have HR142 := Aside0.mk hr8
                have HC142 := Aside0.mk (show y139.length ≤ c8 from by rw [hy8, hc8]; exact Nat.sub_le_sub_right hroom8 _)
                clear hr8 hC8 hroom8 hi08 hsz8 hc8
                have KY8 := Aside0.mk hy8
                have KA8 := Aside0.mk hA8
                clear hy8 hA8
                replace q8 := eq_true q8
                go_wp2
                go_loopg [6, 21] k1 (fun kq v6 v21 w' => ∃ (x6_2 : Int) (x21_2 : Int), v6 = .int .i64 x6_2 ∧ v21 = .int .i64 x21_2 ∧ Aside0 (spec_alRank.l1 kq l0 x3_1 x11_1 (rd l0 x11_1) x6_2 l0 (l0.length : Int) x11_1 y139 (y139.length : Int) x21_2 = some r) ∧ Aside0 (kq ≤ k1) ∧ Drawn0 w w')
                case atStart => exact ⟨(0), (0), (by first | rfl | (simp; done) | (simp [*]; done)), (by first | rfl | (simp; done) | (simp [*]; done)), H', ⟨Nat.le_refl _⟩, by repeat (first | exact Drawn0.refl _ | apply Drawn0.step)⟩
                case round =>
                  clear H'
                  try clear c1
                  try clear p1
                  try clear q1
                  try clear hx1
                  try clear c2
                  try clear c2b0
                  try clear p2
                  try clear c3
                  try clear c3b0
                  try clear c4
                  try clear c4b0
                  try clear c6
                  try clear c6b0
                  try clear c6b1
                  try clear p6
                  try clear c7
                  try clear c7b0
                  try clear c7b1
                  try clear c8
                  try clear q8
                  try clear hx138_0
                  try clear p138
                  try clear q08
                  try clear q138
                  try clear q8
                  obtain ⟨x6_2, x21_2, rfl, rfl, HA, HK2, ⟨m2, rfl⟩⟩ := hrel
                  cases gk with
                  | zero => exact absurd HA.out (by simp [spec_alRank.l1])
                  | succ k2 =>
                    have H := HA.out
                    clear HA
                    simp only [spec_alRank.l1] at H
                    by_cases c9 : x21_2 < (y139.length : Int)
                    · rw [if_pos c9] at H
                      have c9b0 : decide (x21_2 < (y139.length : Int)) = true := decide_eq_true c9
                      clear c9
                      by_cases c10 : 0 ≤ x21_2
                      · rw [if_pos c10] at H
                        have c10b0 : decide (0 ≤ x21_2) = true := decide_eq_true c10
                        clear c10
                        by_cases c11 : x21_2 < (y139.length : Int)
                        · rw [if_pos c11] at H
                          have c11b0 : decide (x21_2 < (y139.length : Int)) = true := decide_eq_true c11
                          clear c11
                          by_cases c12 : (rd y139 x21_2) < (rd l0 x11_1)
                          · rw [if_pos c12] at H
                            have c12b0 : decide ((rd y139 x21_2) < (rd l0 x11_1)) = true := decide_eq_true c12
                            clear c12
                            have H' := Aside0.mk H
                            clear H
                            have p143 : 0 ≤ (x21_2 : Int) := of_decide_eq_true (by first | (with_reducible assumption) | assumption)
                            have q143 : x21_2 < (y139.length : Int) := of_decide_eq_true (by first | (with_reducible assumption) | assumption)
                            obtain ⟨ad143, e143, hx143_0⟩ := Kd.at_int HR142.out x21_2 p143 q143
                            cases e143
                            replace p143 := eq_true p143
                            replace q143 := eq_true q143
                            go_wp2
                            go_roundg k2
                            case measure => have := HK1.out; have := HK2.out; omega
                            case rel => exact ⟨(wrap64 (x6_2 + 1)), (wrap64 (x21_2 + 1)), (by first | rfl | (simp; done) | (simp [*]; done)), (by first | rfl | (simp; done) | (simp [*]; done)), H', ⟨by have := HK1.out; have := HK2.out; omega⟩, by repeat (first | exact Drawn0.refl _ | apply Drawn0.step)⟩
                          · rw [if_neg c12] at H
                            have c12b0 : decide ((rd y139 x21_2) < (rd l0 x11_1)) = false := decide_eq_false c12
                            clear c12
                            have H' := Aside0.mk H
                            clear H
                            have p143 : 0 ≤ (x21_2 : Int) := of_decide_eq_true (by first | (with_reducible assumption) | assumption)
                            have q143 : x21_2 < (y139.length : Int) := of_decide_eq_true (by first | (with_reducible assumption) | assumption)
                            obtain ⟨ad143, e143, hx143_0⟩ := Kd.at_int HR142.out x21_2 p143 q143
                            cases e143
                            replace p143 := eq_true p143
                            replace q143 := eq_true q143
                            go_wp2
                            go_roundg k2
                            case measure => have := HK1.out; have := HK2.out; omega
                            case rel => exact ⟨(x6_2), (wrap64 (x21_2 + 1)), (by first | rfl | (simp; done) | (simp [*]; done)), (by first | rfl | (simp; done) | (simp [*]; done)), H', ⟨by have := HK1.out; have := HK2.out; omega⟩, by repeat (first | exact Drawn0.refl _ | apply Drawn0.step)⟩
                        · rw [if_neg c11] at H
                          exact absurd H (by simp)
                      · rw [if_neg c10] at H
                        exact absurd H (by simp)
                    · rw [if_neg c9] at H
                      have c9b0 : decide (x21_2 < (y139.length : Int)) = false := decide_eq_false c9
                      clear c9
                      have H' := Aside0.mk H
                      clear H
                      go_wp2
                      go_roundg k2
                      case measure => have := HK1.out; have := HK2.out; omega
                      case rel => exact ⟨(wrap64 ((wrap64 (x3_1 * (wrap64 ((l0.length : Int) - x11_1)))) + x6_2)), (wrap64 (x11_1 + 1)), (by first | rfl | (simp; done) | (simp [*]; done)), (by first | rfl | (simp; done) | (simp [*]; done)), H', ⟨by have := HK1.out; have := HK2.out; omega⟩, by repeat (first | exact Drawn0.refl _ | apply Drawn0.step)⟩
              · rw [if_neg c7] at H
                exact absurd H (by simp)
            · rw [if_neg c6] at H
              exact absurd H (by simp)
          · rw [if_neg c4] at H
            exact absurd H (by simp)
        · rw [if_neg c3] at H
          exact absurd H (by simp)
      · rw [if_neg c2] at H
        have c2b0 : decide (x11_1 < (l0.length : Int)) = false := decide_eq_false c2
        clear c2
        obtain rfl := Option.some.inj H
        go_wp2
        go_ret
        exact ⟨by first | rfl | (simp; done) | (simp [*]; done), by repeat (first | exact Drawn0.refl _ | apply Drawn0.step)⟩

/-! ### spec_alCounter_count: function 59 -/
open Classical in
noncomputable def spec_alCounter_count.ev {α : Type} (g : Nat → Option α) : Option α := if h : ∃ k r, g k = some r then g h.choose else none
theorem spec_alCounter_count.ev_some {α : Type} {g : Nat → Option α} {r : α} (h : spec_alCounter_count.ev g = some r) : ∃ k, g k = some r := by
  unfold spec_alCounter_count.ev at h
  split at h
  · exact ⟨_, h⟩
  · cases h
def spec_alCounter_count.good (l : List Int) : Prop := l.Nodup ∧ ∀ x ∈ l, 0 ≤ x ∧ x < (l.length : Int)
/-- Different orders have different ranks. -/
def spec_alCounter_count.inj : Prop := ∀ (q q' : List Int) (k k' : Nat) (a : Int), spec_alCounter_count.good q → spec_alCounter_count.good q' → q.length ≤ 8 → q.length = q'.length → spec_alRank.f k q = some a → spec_alRank.f k' q' = some a → q = q'
def spec_alCounter_count.lp (g : List Int → Option Int) (l : List Int) : Nat → Nat → Int → Bool → Option (Int × Bool)
  | 0, _, s, b => some (s, b)
  | m + 1, i, s, b => if rd l (i : Int) > rd l ((i : Int) + 1) then (spec_alSwap.f l (i : Int)).bind fun q => (g q).bind fun v => spec_alCounter_count.lp g l m (i + 1) (wrap64 (s + v)) false else spec_alCounter_count.lp g l m (i + 1) s b
open Classical in
/-- How many least ladders there are, the falls taken one by one. -/
noncomputable def spec_alCounter_count.g (N n : Nat) : Nat → List Int → Option Int
  | 0, _ => none
  | d + 1, l => if spec_alCounter_count.inj ∧ spec_alCounter_count.good l ∧ l.length = n ∧ n ≤ 8 then (spec_alCounter_count.ev fun k => spec_alRank.f k l).bind fun a => (if 0 ≤ a ∧ a < (N : Int) then (spec_alCounter_count.lp (spec_alCounter_count.g N n d) l (l.length - 1) 0 0 true).bind fun sb => some (if sb.2 = true then 1 else sb.1) else none) else none
theorem spec_alCounter_count.lp_mono {g g' : List Int → Option Int} (h : ∀ q v, g q = some v → g' q = some v) (l : List Int) : ∀ (m i : Nat) (s : Int) (b : Bool) (r : Int × Bool), spec_alCounter_count.lp g l m i s b = some r → spec_alCounter_count.lp g' l m i s b = some r
  | 0, _, _, _, _, e => e
  | m + 1, i, s, b, r, e => by
    simp only [spec_alCounter_count.lp] at e ⊢
    split at e
    · rename_i hc
      rw [if_pos hc]
      obtain ⟨q, hq, e⟩ := Option.bind_eq_some_iff.1 e
      obtain ⟨v, hv, e⟩ := Option.bind_eq_some_iff.1 e
      rw [hq]
      simp only [Option.bind_some]
      rw [h q v hv]
      exact spec_alCounter_count.lp_mono h l m _ _ _ r e
    · rename_i hc
      rw [if_neg hc]
      exact spec_alCounter_count.lp_mono h l m _ _ _ r e
theorem spec_alCounter_count.g_succ (N n : Nat) : ∀ (d : Nat) (l : List Int) (v : Int), spec_alCounter_count.g N n d l = some v → spec_alCounter_count.g N n (d + 1) l = some v
  | 0, _, _, e => by simp [spec_alCounter_count.g] at e
  | d + 1, l, v, e => by
    rw [spec_alCounter_count.g] at e ⊢
    split at e
    · rename_i hc
      rw [if_pos hc]
      obtain ⟨a, ha, e⟩ := Option.bind_eq_some_iff.1 e
      rw [ha]
      simp only [Option.bind_some]
      split at e
      · rename_i h0
        rw [if_pos h0]
        obtain ⟨sb, hsb, e⟩ := Option.bind_eq_some_iff.1 e
        rw [spec_alCounter_count.lp_mono (fun q v => spec_alCounter_count.g_succ N n d q v) l _ _ _ _ _ hsb]
        exact e
      · cases e
    · cases e
theorem spec_alCounter_count.g_le {N n d d' : Nat} (h : d ≤ d') {l : List Int} {v : Int} (e : spec_alCounter_count.g N n d l = some v) : spec_alCounter_count.g N n d' l = some v := by
  induction h with
  | refl => exact e
  | step _ ih => exact spec_alCounter_count.g_succ _ _ _ _ _ ih
theorem spec_alCounter_count.g_one {N n d d' : Nat} {l : List Int} {v v' : Int} (e : spec_alCounter_count.g N n d l = some v) (e' : spec_alCounter_count.g N n d' l = some v') : v = v' := by
  have h1 := spec_alCounter_count.g_le (Nat.le_max_left d d') e
  have h2 := spec_alCounter_count.g_le (Nat.le_max_right d d') e'
  rw [h1] at h2
  exact Option.some.inj h2
/-- What the counter remembers is so. -/
def spec_alCounter_count.Inv (N n : Nat) (kn : List Int) : Prop := ∀ (q : List Int) (k : Nat) (a : Int), spec_alCounter_count.good q → q.length = n → spec_alRank.f k q = some a → 0 ≤ a → a < (N : Int) → 0 ≤ rd kn a → ∃ d, spec_alCounter_count.g N n d q = some (rd kn a)
theorem spec_alCounter_count.inv_new (N n : Nat) : spec_alCounter_count.Inv N n (List.replicate N (-1)) := fun q k a _ _ _ h0 h1 h2 => by
  have h3 : rd (List.replicate N (-1)) a = -1 := by
    show (List.replicate N (-1 : Int)).getD a.toNat 0 = -1
    rw [List.getD_eq_getElem?_getD, List.getElem?_replicate, if_pos (by omega)]; rfl
  omega
theorem spec_alCounter_count.rd_set (kn : List Int) (a b v : Int) (h0 : 0 ≤ a) (h1 : a < kn.length) (hb : 0 ≤ b) : rd (kn.set a.toNat v) b = if b = a then v else rd kn b := by
  show (kn.set a.toNat v).getD b.toNat 0 = _
  rw [List.getD_eq_getElem?_getD, List.getElem?_set]
  by_cases e : b = a
  · subst e
    rw [if_pos rfl, if_pos rfl, if_pos (by omega)]; rfl
  · rw [if_neg (by omega), if_neg e]
    show _ = kn.getD b.toNat 0
    rw [List.getD_eq_getElem?_getD]
theorem spec_alCounter_count.inv_set {N n : Nat} {kn : List Int} (h : spec_alCounter_count.Inv N n kn) (hl : kn.length = N) (hj : spec_alCounter_count.inj) {l : List Int} (hg : spec_alCounter_count.good l) (hn : l.length = n) (hn8 : n ≤ 8) {k : Nat} {a : Int} (hk : spec_alRank.f k l = some a) (h0 : 0 ≤ a) (h1 : a < (N : Int)) {d : Nat} {v : Int} (hv : spec_alCounter_count.g N n d l = some v) : spec_alCounter_count.Inv N n (kn.set a.toNat v) := by
  intro q k' b hq hqn hk' hb0 hb1 hr
  have hs := spec_alCounter_count.rd_set kn a b v h0 (by omega) hb0
  rw [hs] at hr ⊢
  by_cases e : b = a
  · subst e
    rw [if_pos rfl]
    obtain rfl := hj q l k' k b hq hg (by omega) (by omega) hk' hk
    exact ⟨d, hv⟩
  · rw [if_neg e] at hr ⊢
    exact h q k' b hq hqn hk' hb0 hb1 hr
/-- The counter's memory: block B leads to the row at G, and what this remembers is so. -/
structure spec_alCounter_count.Mem (base : Nat) (w : World) (B G N n : Nat) : Prop where mk :: (out : base ≤ G ∧ B ≠ G ∧ ∃ (C : Nat) (kn : List Int), w.heap[B]? = some (.cells #[.slice (some ⟨G, 0, none⟩) N C] 92 (0, 0)) ∧ kn.length = N ∧ Kd.R (Kd.int .i64) 3 w base (fun k_ => k_ = G) (.slice (some ⟨G, 0, none⟩) N C) kn ∧ spec_alCounter_count.Inv N n kn)
theorem spec_alCounter_count.Mem.kept {base : Nat} {w w' : World} {B G N n : Nat} {S : Nat → Prop} (h : spec_alCounter_count.Mem base w B G N n) (hk : Kept w w' S) (hS : ¬ S G) (hS2 : ¬ S B) : spec_alCounter_count.Mem base w' B G N n := by
  obtain ⟨h1, h2, C, kn, h3, h4, h5, h6⟩ := h
  exact ⟨h1, h2, C, kn, blk_kept h3 hk hS2, h4, Kd.R_kept h5 hk (fun k_ e_ h_ => hS (e_ ▸ h_)), h6⟩
theorem spec_alCounter_count.Mem.below {base : Nat} {w w' : World} {B G N n : Nat} (h : spec_alCounter_count.Mem base w B G N n) (hb : Below w.heap.size w w') : spec_alCounter_count.Mem base w' B G N n := h.kept (Kept.of_below hb (fun _ => False)) (fun h => h) (fun h => h)
theorem spec_alCounter_count.Mem.lower {base base' : Nat} {w : World} {B G N n : Nat} (h : spec_alCounter_count.Mem base w B G N n) (hb : base' ≤ base) : spec_alCounter_count.Mem base' w B G N n := by
  obtain ⟨h1, h2, C, kn, h3, h4, h5, h6⟩ := h
  exact ⟨Nat.le_trans hb h1, h2, C, kn, h3, h4, Kd.R_lower h5 hb, h6⟩
theorem spec_alCounter_count.Mem.lt {base : Nat} {w : World} {B G N n : Nat} (hN : 0 < N) (h : spec_alCounter_count.Mem base w B G N n) : B < w.heap.size ∧ G < w.heap.size := by
  obtain ⟨h1, h2, C, kn, h3, h4, h5, h6⟩ := h
  exact ⟨blk_lt h3, Kd.R_lt h5 G rfl⟩
set_option maxHeartbeats 8000000 in
set_option maxRecDepth 100000 in
theorem spec_alCounter_count.calls_g (N n d : Nat) : ∀ (B G : Nat) (A0 : Option Addr) (c0 : Nat) (l0 : List Int) (r : Int) (w0 w : World) (hB : Below w0.heap.size w0 w) (hm : spec_alCounter_count.Mem w0.heap.size w B G N n)
    (hr0 : ∀ W', Kept w W' (fun k_ => k_ = G) → Kd.C (Kd.int .i64) W' A0 l0.length l0) (hc0 : l0.length ≤ c0) (h : spec_alCounter_count.g N n d l0 = some r),
    Calls Try.prog 59 #[.pointer (some ⟨B, 0, none⟩), .slice A0 l0.length c0] w fun e w' => e = .returned (.int .i64 r) ∧ spec_alCounter_count.Mem w0.heap.size w' B G N n ∧ Below w0.heap.size w0 w' ∧ Kept w w' (fun k_ => k_ = G) := by
  induction d with
  | zero => intro B G A0 c0 l0 r w0 w _ _ _ _ h; simp [spec_alCounter_count.g] at h
  | succ d ih =>
    intro B G A0 c0 l0 r w0 w hB hm hr0 hc0 h
    have h0 := h
    rw [spec_alCounter_count.g] at h
    split at h
    · rename_i hcond
      obtain ⟨hj, hg, hln, hn8⟩ := hcond
      obtain ⟨a, ha, h⟩ := Option.bind_eq_some_iff.1 h
      obtain ⟨ka, ha⟩ := spec_alCounter_count.ev_some ha
      split at h
      · rename_i hab
        obtain ⟨ha0, ha1⟩ := hab
        obtain ⟨⟨rs, rb⟩, hlp, h⟩ := Option.bind_eq_some_iff.1 h
        have hrr : r = if rb = true then 1 else rs := (Option.some.inj h).symm
        obtain ⟨hGb, hBG, C, kn, hblk, hkl, hrow, hinv⟩ := hm.out
        have HA := Aside0.mk ha
        have HJ := Aside0.mk hj
        have HG := Aside0.mk hg
        have HLN := Aside0.mk (And.intro hln hn8)
        have HLP := Aside0.mk hlp
        have HRR := Aside0.mk hrr
        have H0 := Aside0.mk h0
        have IH := Aside0.mk ih
        have HR := Aside0.mk hr0
        have HC := Aside0.mk hc0
        have HB := Aside0.mk hB
        have HM := Aside0.mk hm
        have HK := Aside0.mk (Kept.refl w (fun k_ => k_ = G))
        have HAB := Aside0.mk (And.intro ha0 ha1)
        have hcellB := blk_cell hblk 0
        obtain ⟨hx0, hf0⟩ := Kd.R_celln 0 hrow a ha0 ha1
        obtain ⟨v, hv⟩ : ∃ v, v = rd kn a := ⟨_, rfl⟩
        have hx1 : w.cell? ⟨G, a.toNat, none⟩ = some (.int .i64 v) := by rw [hv]; exact hx0
        have HINV := Aside0.mk (fun h_ => hinv l0 ka a hg hln ha ha0 ha1 h_)
        rw [← hv] at HINV
        have hu1 := Try.underlying92
        have p5 := eq_true ha0
        have q5 := eq_true ha1
        clear ha hj hg hln hn8 hlp hrr h0 ih hr0 hc0 hB hm ha0 ha1 hrow hinv hblk hx0 hkl h hGb hBG hv
        by_cases hh : 0 ≤ v
        · obtain ⟨d1, hd1⟩ := HINV.out hh
          obtain rfl := spec_alCounter_count.g_one hd1 H0.out
          have hh0 : decide (0 ≤ v) = true := decide_eq_true hh
          have hh1 : decide (v ≥ 0) = true := decide_eq_true hh
          clear hd1 hh
          go_enter Try.func59, Try.ntmps59
          go_wp2_with (go_at_call 94; (with_reducible refine (spec_alRank.calls ka _ _ l0 a _ ?side1 HC.out HA.out).mono ?_); (case side1 => exact HR.out _ (by repeat (first | (with_reducible first | exact HK.out | apply Kept.alloc | apply Kept.drewN | apply Kept.drew) | exact HK.out))); rintro e w' ⟨rfl, ⟨nd, rfl⟩⟩)
          go_ret
          exact ⟨rfl, HM.out.below (pw_below_drewN (Below.refl _ _) nd), pw_below_drewN HB.out nd, Kept.drewN HK.out nd⟩
        · have hh0 : decide (0 ≤ v) = false := decide_eq_false hh
          have hh1 : decide (v ≥ 0) = false := decide_eq_false hh
          clear hh
          go_enter Try.func59, Try.ntmps59
          go_wp2_with (go_at_call 94; (with_reducible refine (spec_alRank.calls ka _ _ l0 a _ ?side1 HC.out HA.out).mono ?_); (case side1 => exact HR.out _ (by repeat (first | (with_reducible first | exact HK.out | apply Kept.alloc | apply Kept.drewN | apply Kept.drew) | exact HK.out))); rintro e w' ⟨rfl, ⟨nd, rfl⟩⟩)
          clear hcellB hx1 hf0 hh0 hh1 HINV
          go_loopg [6, 7, 8] (l0.length - 1) (fun gg v6 v7 v8 w' => ∃ (i : Nat) (x8 s : Int) (b : Bool), v6 = .int .i64 s ∧ v7 = .bool b ∧ v8 = .int .i64 x8 ∧ Aside0 (x8 = (i : Int)) ∧ i ≤ l0.length - 1 ∧ l0.length - 1 - i ≤ gg ∧ Aside0 (spec_alCounter_count.lp (spec_alCounter_count.g N n d) l0 (l0.length - 1 - i) i s b = some (rs, rb)) ∧ Aside0 (spec_alCounter_count.Mem w0.heap.size w' B G N n) ∧ Aside0 (Below w0.heap.size w0 w') ∧ Aside0 (Kept w w' (fun k_ => k_ = G)))
          case atStart => exact ⟨0, 0, 0, true, rfl, rfl, rfl, ⟨rfl⟩, Nat.zero_le _, by omega, ⟨HLP.out⟩, ⟨HM.out.below (pw_below_drewN (Below.refl _ _) nd)⟩, ⟨pw_below_drewN HB.out nd⟩, ⟨Kept.drewN HK.out nd⟩⟩
          case round =>
            clear HLP
            obtain ⟨i, x8, s, b, rfl, rfl, rfl, HX8, hi, hgk, HLP, HM2, HB2, HK2⟩ := hrel
            obtain ⟨ji, hji⟩ : ∃ j_ : Int, wrap64 (x8 + 1) = j_ := ⟨_, rfl⟩
            have hjv : ji = (i : Int) + 1 := by have h1 := HX8.out; have h2 := HLN.out; rw [← hji]; unfold wrap64; omega
            have hjiw : (IntKind.i64.wrap (x8 + 1)) = ji := (i64_w _).trans hji
            have HJV := Aside0.mk hjv
            clear hjv
            by_cases hlt : i + 1 < l0.length
            · have hlp := HLP.out
              rw [show l0.length - 1 - i = (l0.length - 1 - (i + 1)) + 1 by omega, spec_alCounter_count.lp] at hlp
              have p171 : 0 ≤ x8 := by have := HX8.out; omega
              have q171 : x8 < (l0.length : Int) := by have := HX8.out; omega
              have p172 : 0 ≤ ji := by have := HJV.out; omega
              have q172 : ji < (l0.length : Int) := by have := HJV.out; omega
              obtain ⟨ad, ead, hx0⟩ := Kd.at_int (HR.out wr HK2.out) x8 p171 q171
              cases ead
              obtain ⟨ad2, ead2, hy0⟩ := Kd.at_int (HR.out wr HK2.out) ji p172 q172
              obtain rfl : ad = ad2 := (by injection ead2)
              obtain ⟨x, hx⟩ : ∃ x, x = rd l0 x8 := ⟨_, rfl⟩
              obtain ⟨y, hy⟩ : ∃ y, y = rd l0 ji := ⟨_, rfl⟩
              rw [← hx] at hx0
              rw [← hy] at hy0
              rw [show (i : Int) + 1 = ji from HJV.out.symm, show ((i : Nat) : Int) = x8 from HX8.out.symm, ← hx, ← hy] at hlp
              clear hx hy HLP ead2
              have hq3 : decide (ji < (l0.length : Int)) = true := decide_eq_true q172
              replace p171 := eq_true p171
              replace q171 := eq_true q171
              replace p172 := eq_true p172
              replace q172 := eq_true q172
              by_cases hc : x > y
              · rw [if_pos hc] at hlp
                obtain ⟨q, hq, hlp⟩ := Option.bind_eq_some_iff.1 hlp
                obtain ⟨v2, hv2, hlp⟩ := Option.bind_eq_some_iff.1 hlp
                have HQ := Aside0.mk hq
                have HV2 := Aside0.mk hv2
                have HLP := Aside0.mk hlp
                have hc0 : decide (y < x) = true := decide_eq_true hc
                clear hq hv2 hlp hc
                go_wp2_with (first | (go_at_call 66; (with_reducible refine (spec_alSwap.calls _ _ l0 x8 q _ ?side1 HC.out HQ.out).mono ?_); (case side1 => exact HR.out _ (by repeat (first | (with_reducible first | exact HK2.out | apply Kept.alloc | apply Kept.drewN | apply Kept.drew) | exact HK2.out))); rintro e w4 ⟨v4, rfl, ho4, hb4_⟩; have hb4 := below_step (w := wr) (by repeat (first | exact Below.refl _ _ | apply pw_below_drewN | apply below_drew1)) hb4_; clear hb4_; have HQR := Aside0.mk (Kd.R_mono (Kd.R_bound ho4) (fun k_ h_ => (show k_ ≠ G from fun e_ => by have h1_ := (HM2.out.lt (by have := HAB.out; omega)).2; have h2_ := h_.2.1; exact absurd (Nat.lt_of_lt_of_le h1_ h2_) (by rw [e_]; exact Nat.lt_irrefl G)))); have HB4 := Aside0.mk (below_then HB2.out HB2.out.size hb4); have HK4 := Aside0.mk (HK2.out.below hb4); have HM4 := Aside0.mk (HM2.out.below hb4); clear hb4 ho4; obtain ⟨A4, c4, e4⟩ := Kd.R_slice HQR.out; subst e4) | (go_at_call 59; (with_reducible refine (IH.out B G A4 c4 q v2 w0 _ ?side1 ?side2 ?side3 ?side4 HV2.out).mono ?_); (case side1 => exact HB4.out); (case side2 => exact HM4.out); (case side3 => exact Kd.C_kept_own HQR.out (fun _ h1_ h2_ => h1_ h2_)); (case side4 => exact (Kd.R_reads' HQR.out).2.1); rintro e w5 ⟨rfl, hm5, hb5, hk5⟩; have HM5 := Aside0.mk hm5; have HB5 := Aside0.mk hb5; have HK5 := Aside0.mk (HK4.out.then_ hk5 (fun _ h_ => .inl h_)); clear hm5 hb5 hk5))
                repeat (go_quiet (first | (go_at_call 66; (with_reducible refine (spec_alSwap.calls _ _ l0 x8 q _ ?side1 HC.out HQ.out).mono ?_); (case side1 => exact HR.out _ (by repeat (first | (with_reducible first | exact HK2.out | apply Kept.alloc | apply Kept.drewN | apply Kept.drew) | exact HK2.out))); rintro e w4 ⟨v4, rfl, ho4, hb4_⟩; have hb4 := below_step (w := wr) (by repeat (first | exact Below.refl _ _ | apply pw_below_drewN | apply below_drew1)) hb4_; clear hb4_; have HQR := Aside0.mk (Kd.R_mono (Kd.R_bound ho4) (fun k_ h_ => (show k_ ≠ G from fun e_ => by have h1_ := (HM2.out.lt (by have := HAB.out; omega)).2; have h2_ := h_.2.1; exact absurd (Nat.lt_of_lt_of_le h1_ h2_) (by rw [e_]; exact Nat.lt_irrefl G)))); have HB4 := Aside0.mk (below_then HB2.out HB2.out.size hb4); have HK4 := Aside0.mk (HK2.out.below hb4); have HM4 := Aside0.mk (HM2.out.below hb4); clear hb4 ho4; obtain ⟨A4, c4, e4⟩ := Kd.R_slice HQR.out; subst e4) | (go_at_call 59; (with_reducible refine (IH.out B G A4 c4 q v2 w0 _ ?side1 ?side2 ?side3 ?side4 HV2.out).mono ?_); (case side1 => exact HB4.out); (case side2 => exact HM4.out); (case side3 => exact Kd.C_kept_own HQR.out (fun _ h1_ h2_ => h1_ h2_)); (case side4 => exact (Kd.R_reads' HQR.out).2.1); rintro e w5 ⟨rfl, hm5, hb5, hk5⟩; have HM5 := Aside0.mk hm5; have HB5 := Aside0.mk hb5; have HK5 := Aside0.mk (HK4.out.then_ hk5 (fun _ h_ => .inl h_)); clear hm5 hb5 hk5)); try go_wp2_with (first | (go_at_call 66; (with_reducible refine (spec_alSwap.calls _ _ l0 x8 q _ ?side1 HC.out HQ.out).mono ?_); (case side1 => exact HR.out _ (by repeat (first | (with_reducible first | exact HK2.out | apply Kept.alloc | apply Kept.drewN | apply Kept.drew) | exact HK2.out))); rintro e w4 ⟨v4, rfl, ho4, hb4_⟩; have hb4 := below_step (w := wr) (by repeat (first | exact Below.refl _ _ | apply pw_below_drewN | apply below_drew1)) hb4_; clear hb4_; have HQR := Aside0.mk (Kd.R_mono (Kd.R_bound ho4) (fun k_ h_ => (show k_ ≠ G from fun e_ => by have h1_ := (HM2.out.lt (by have := HAB.out; omega)).2; have h2_ := h_.2.1; exact absurd (Nat.lt_of_lt_of_le h1_ h2_) (by rw [e_]; exact Nat.lt_irrefl G)))); have HB4 := Aside0.mk (below_then HB2.out HB2.out.size hb4); have HK4 := Aside0.mk (HK2.out.below hb4); have HM4 := Aside0.mk (HM2.out.below hb4); clear hb4 ho4; obtain ⟨A4, c4, e4⟩ := Kd.R_slice HQR.out; subst e4) | (go_at_call 59; (with_reducible refine (IH.out B G A4 c4 q v2 w0 _ ?side1 ?side2 ?side3 ?side4 HV2.out).mono ?_); (case side1 => exact HB4.out); (case side2 => exact HM4.out); (case side3 => exact Kd.C_kept_own HQR.out (fun _ h1_ h2_ => h1_ h2_)); (case side4 => exact (Kd.R_reads' HQR.out).2.1); rintro e w5 ⟨rfl, hm5, hb5, hk5⟩; have HM5 := Aside0.mk hm5; have HB5 := Aside0.mk hb5; have HK5 := Aside0.mk (HK4.out.then_ hk5 (fun _ h_ => .inl h_)); clear hm5 hb5 hk5)))
                go_roundg (l0.length - 1 - (i + 1))
                case measure => omega
                case rel => exact ⟨i + 1, ji, wrap64 (s + v2), false, (by first | rfl | (simp; done)), rfl, (by first | rfl | (simp [*]; done)), ⟨by have := HJV.out; omega⟩, by omega, by omega, HLP, HM5, HB5, HK5⟩
              · rw [if_neg hc] at hlp
                have HLP := Aside0.mk hlp
                have hc0 : decide (y < x) = false := decide_eq_false hc
                clear hlp hc
                go_wp2
                repeat (go_quiet (fail); try go_wp2)
                go_roundg (l0.length - 1 - (i + 1))
                case measure => omega
                case rel => exact ⟨i + 1, ji, s, b, rfl, rfl, (by first | rfl | (simp [*]; done)), ⟨by have := HJV.out; omega⟩, by omega, by omega, HLP, ⟨HM2.out.below (by repeat (first | exact Below.refl _ _ | apply pw_below_drewN | apply below_drew1))⟩, ⟨by repeat (first | exact HB2.out | apply pw_below_drewN | apply below_drew1)⟩, ⟨(by repeat (first | (with_reducible first | exact HK2.out | apply Kept.alloc | apply Kept.drewN | apply Kept.drew) | exact HK2.out))⟩⟩
            · have hltz : ¬ ji < (l0.length : Int) := by have := HJV.out; omega
              have hq3 : decide (ji < (l0.length : Int)) = false := decide_eq_false hltz
              have hlp := HLP.out
              rw [show l0.length - 1 - i = 0 by omega, spec_alCounter_count.lp] at hlp
              simp only [Option.some.injEq, Prod.mk.injEq] at hlp
              obtain ⟨rfl, rfl⟩ := hlp
              clear HLP
              obtain ⟨hGb, hBG, C2, kn2, hblk, hkl, hrow, hinv⟩ := HM2.out
              have hcellB := blk_cell hblk 0
              obtain ⟨hx0, hf0⟩ := Kd.R_celln 0 hrow a HAB.out.1 HAB.out.2
              have HP7 := Aside0.mk (Kd.R_putg hrow a r)
              have HS2 := Aside0.mk (show _ ∧ _ ∧ _ ∧ _ ∧ _ ∧ _ from ⟨hGb, hBG, hblk, hkl, hrow, hinv⟩)
              clear hGb hBG hblk hkl hrow hinv
              cases b with
              | true =>
                have hr1 : r = 1 := HRR.out
                subst hr1
                go_wp2_with (first | ((with_reducible refine gate_store (t := 3) (p := 57) rfl ?_); refine store_event (t := 3) (p := 57) (v := ?vo) (w1 := (wr.setCell ⟨G, a.toNat, none⟩ (.int .i64 1))) ?hg ?ho ?hn ?hr ?_; (case ho => rfl); (case hg => rfl); (case hn => rfl); (case hr => first | (go_simp; done) | (go_simp; rfl)); intro w8 hw; have hg_ : wr.grownBy w8 (some G) := (by rw [hw]; exact HP7.out.2); have n0_ := Aside0.mk (show spec_alCounter_count.Mem w0.heap.size w8 B G N n from ⟨HS2.out.1, HS2.out.2.1, C2, kn2.set a.toNat (1), by rw [hw]; exact blk_far HS2.out.2.2.1 HS2.out.2.1 _, by rw [List.length_set]; exact HS2.out.2.2.2.1, by rw [hw]; exact HP7.out.1, spec_alCounter_count.inv_set HS2.out.2.2.2.2.2 HS2.out.2.2.2.1 HJ.out HG.out HLN.out.1 HLN.out.2 HA.out HAB.out.1 HAB.out.2 H0.out⟩); have n1_ := Aside0.mk (HB2.out.grown hg_ HB2.out.size (fun k_ h_ => by cases h_; exact HS2.out.1)); have n2_ := Aside0.mk (Kept.of_grown hg_ HK2.out (fun k_ h_ => by cases h_; exact .inl rfl)); clear hg_ hw))
                go_ret
                exact ⟨rfl, n0_.out, n1_.out, n2_.out⟩
              | false =>
                have hr1 : r = s := HRR.out
                subst hr1
                go_wp2_with (first | ((with_reducible refine gate_store (t := 3) (p := 57) rfl ?_); refine store_event (t := 3) (p := 57) (v := ?vo) (w1 := (wr.setCell ⟨G, a.toNat, none⟩ (.int .i64 r))) ?hg ?ho ?hn ?hr ?_; (case ho => rfl); (case hg => rfl); (case hn => rfl); (case hr => first | (go_simp; done) | (go_simp; rfl)); intro w8 hw; have hg_ : wr.grownBy w8 (some G) := (by rw [hw]; exact HP7.out.2); have n0_ := Aside0.mk (show spec_alCounter_count.Mem w0.heap.size w8 B G N n from ⟨HS2.out.1, HS2.out.2.1, C2, kn2.set a.toNat (r), by rw [hw]; exact blk_far HS2.out.2.2.1 HS2.out.2.1 _, by rw [List.length_set]; exact HS2.out.2.2.2.1, by rw [hw]; exact HP7.out.1, spec_alCounter_count.inv_set HS2.out.2.2.2.2.2 HS2.out.2.2.2.1 HJ.out HG.out HLN.out.1 HLN.out.2 HA.out HAB.out.1 HAB.out.2 H0.out⟩); have n1_ := Aside0.mk (HB2.out.grown hg_ HB2.out.size (fun k_ h_ => by cases h_; exact HS2.out.1)); have n2_ := Aside0.mk (Kept.of_grown hg_ HK2.out (fun k_ h_ => by cases h_; exact .inl rfl)); clear hg_ hw))
                go_ret
                exact ⟨rfl, n0_.out, n1_.out, n2_.out⟩
      · cases h
    · cases h
theorem spec_alCounter_count.Mem.made {n : Nat} {w w' : World} {v : Value} (h : spec_alNew.Made n w w' v) : ∃ B G : Nat, v = .pointer (some ⟨B, 0, none⟩) ∧ w.heap.size ≤ B ∧ w.heap.size ≤ G ∧ spec_alCounter_count.Mem w.heap.size w' B G (spec_alNew.fc n) n := by
  obtain ⟨B, G, C, h1, h2, h3, h4, h5⟩ := h
  exact ⟨B, G, h1, by omega, h2, h2, by omega, C, _, h4, List.length_replicate, h5, spec_alCounter_count.inv_new _ _⟩
noncomputable def spec_alCounter_count.f (N : Nat) (l0 : List Int) : Option Int := spec_alCounter_count.g N l0.length 16 l0

end
end Go.Proofs.Ytnddmmjofpfmfaa.PCb
