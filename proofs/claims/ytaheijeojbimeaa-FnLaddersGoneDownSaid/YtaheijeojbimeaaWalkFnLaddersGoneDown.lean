-- Written for this claim by a program of this session (myprint.py) over the kit's printer.
import Derived.Test.YtaheijeojbimeaaWalkFnLaddersGoneDownE
import Derived.Test.YtaheijeojbimeaaPGdx0
import Derived.Deep.RegionHeld3
namespace Go.Proofs.Ytaheijeojbimeaa.PGd
noncomputable section
open Go.RowKit Go.Proofs.YtaheijeojbimeaaW.PrintWords Go.Proofs.YtaheijeojbimeaaW.PrintLast Go.Proofs.YtaheijeojbimeaaW.PrintMore
attribute [local go_sem] max2_int min2_int max_two min_two max_three min_three max_four min_four   -- for this text's walks alone
set_option linter.unusedVariables false
set_option linter.unusedSimpArgs false


set_option maxHeartbeats 4000000 in
set_option maxRecDepth 100000 in
theorem laws_FnLaddersGoneDown.calls (A0 : Option Addr) (c0 : Nat) (l0 : List Int) (A1 : Option Addr) (c1 : Nat) (l1 : List Int) (w : World) (hr0 : Kd.C (Kd.int .u8) w A0 l0.length l0) (hc0 : l0.length ≤ c0) (hr1 : Kd.C (Kd.int .u8) w A1 l1.length l1) (hc1 : l1.length ≤ c1) (h : laws_FnLaddersGoneDown.Ok l0 l1) :
    Calls Try.prog 5 #[.slice A0 l0.length c0, .slice A1 l1.length c1] w fun e w' => e = .returned (.bool true) ∧ Below w.heap.size w w' := by
  have HR0 := Aside0.mk hr0
  have HC0 := Aside0.mk hc0
  have HR1 := Aside0.mk hr1
  have HC1 := Aside0.mk hc1
  clear hr0 hc0 hr1 hc1
  rcases h with h | ⟨h, hH, hT⟩
  · have HBG := Aside0.mk h
    clear h
    have G := Aside0.mk (Bag.start w)
    have tok0 := Aside0.mk True.intro
    go_enter Try.func5, Try.ntmps5
    go_wp2_with (first | (go_at_call 6; have tk_ := tok0; clear tk_ tok0; (with_reducible refine (laws_big.calls _ _ (l0) _ _ (l1) _ _ ?sd0_ ?sd1_ ?sd2_ ?sd3_ HBG.out).mono ?_); (case sd0_ => repeat (first | exact Kd.C_below HR0.out G.out.b | (with_reducible refine Kd.C_drewN ?_ _) | (with_reducible refine Kd.C_drew ?_))); (case sd1_ => exact HC0.out); (case sd2_ => repeat (first | exact Kd.C_below HR1.out G.out.b | (with_reducible refine Kd.C_drewN ?_ _) | (with_reducible refine Kd.C_drew ?_))); (case sd3_ => exact HC1.out); rintro e w' ⟨rfl, hd⟩; (first | replace G := Aside0.mk (G.out.step hd.below) | replace G := Aside0.mk ((G.out.step (below_drew1 (Below.refl _ _))).step hd.below)); clear hd; have tok1 := Aside0.mk True.intro))
    go_ret
    exact ⟨rfl, G.out.b⟩
  · obtain ⟨n, lr, st, way, ok, en, us, p, five, h0, h1, h2, h3, h4, h5, h6, h7, h8, h9, h10, h11, h12, h13, h14, h15⟩ := hH
    have HBG := Aside0.mk h
    have HT := Aside0.mk hT
    have HB := Aside0.mk h15
    have H14 := Aside0.mk h14
    clear h hT h14 h15
    have G := Aside0.mk (Bag.start w)
    have tok0 := Aside0.mk True.intro
    have E9 := Aside0.mk h9
    have E10 := Aside0.mk h10
    have E11 := Aside0.mk h11
    have E12 := Aside0.mk h12
    have E13 := Aside0.mk h13
    obtain ⟨k0, h0⟩ := h0
    obtain ⟨k1, h1⟩ := h1
    obtain ⟨k2, h2⟩ := h2
    obtain ⟨k3, h3⟩ := h3
    obtain ⟨k4, h4⟩ := h4
    obtain ⟨k5, h5⟩ := h5
    obtain ⟨k6, h6⟩ := h6
    obtain ⟨k7, h7⟩ := h7
    obtain ⟨k8, h8⟩ := h8
    have H0 := Aside0.mk h0
    have H1 := Aside0.mk h1
    have H2 := Aside0.mk h2
    have H3 := Aside0.mk h3
    have H4 := Aside0.mk h4
    have H5 := Aside0.mk h5
    have H6 := Aside0.mk h6
    have H7 := Aside0.mk h7
    have H8 := Aside0.mk h8
    clear h0 h1 h2 h3 h4 h5 h6 h7 h8 h9 h10 h11 h12 h13
    have hu40 := Try.underlying40
    go_enter Try.func5, Try.ntmps5
    go_upto_region 12 with (first | (go_at_call 6; have tk_ := tok0; clear tk_ tok0; (with_reducible refine (laws_big.calls _ _ (l0) _ _ (l1) _ _ ?sd0_ ?sd1_ ?sd2_ ?sd3_ HBG.out).mono ?_); (case sd0_ => repeat (first | exact Kd.C_below HR0.out G.out.b | (with_reducible refine Kd.C_drewN ?_ _) | (with_reducible refine Kd.C_drew ?_))); (case sd1_ => exact HC0.out); (case sd2_ => repeat (first | exact Kd.C_below HR1.out G.out.b | (with_reducible refine Kd.C_drewN ?_ _) | (with_reducible refine Kd.C_drew ?_))); (case sd3_ => exact HC1.out); rintro e w' ⟨rfl, hd⟩; (first | replace G := Aside0.mk (G.out.step hd.below) | replace G := Aside0.mk ((G.out.step (below_drew1 (Below.refl _ _))).step hd.below)); clear hd; have tok1 := Aside0.mk True.intro) | (go_at_call 49; have tk_ := tok1; clear tk_ tok1; (with_reducible refine (spec_DrawWayDown.calls _ _ _ (l0) _ _ _ _ ?sd0_ ?sd1_ H0.out).mono ?_); (case sd0_ => repeat (first | exact Kd.C_below HR0.out G.out.b | (with_reducible refine Kd.C_drewN ?_ _) | (with_reducible refine Kd.C_drew ?_))); (case sd1_ => exact HC0.out); rintro e w' ⟨v1_, rfl, ho1, hb⟩; obtain ⟨A_l, c_l, e_⟩ := Kd.R_slice ho1; subst e_; (first | replace G := Aside0.mk (G.out.addR hb ho1) | replace G := Aside0.mk ((G.out.step (below_drew1 (Below.refl _ _))).addR hb ho1)); clear ho1 hb; have tok2 := Aside0.mk True.intro) | (go_at_call 50; have tk_ := tok2; clear tk_ tok2; replace G := Aside0.mk (G.out.box (.cells #[.int .i64 n, .slice A_l lr.length c_l] 40 (0, 0))); generalize World.alloc w' (.cells #[.int .i64 n, .slice A_l lr.length c_l] 40 (0, 0)) = wb_B at G ⊢; generalize w'.heap.size = g_B at G ⊢; obtain ⟨w', ew_⟩ : ∃ x_, x_ = wb_B := ⟨_, rfl⟩; subst ew_; (with_reducible refine (impl_WayDown.calls _ (n) _ _ (lr) (st) _ _ _ ?sd0_ ?sd1_ H1.out).mono ?_); (case sd0_ => repeat (first | exact G.out.c 1 rfl | (with_reducible refine Kd.C_drewN ?_ _) | (with_reducible refine Kd.C_drew ?_))); (case sd1_ => exact G.out.l 1 rfl); rintro e w' ⟨v0_, rfl, ho0, hb⟩; obtain ⟨A_way, c_way, e_⟩ := Kd.R_slice ho0; subst e_; (first | replace G := Aside0.mk (G.out.addR hb ho0) | replace G := Aside0.mk ((G.out.step (below_drew1 (Below.refl _ _))).addR hb ho0)); clear ho0 hb; (try clear hc_B0); have hc_B0 : w'.cell? ⟨g_B, 0, none⟩ = some (.int .i64 n) := blk_cell (G.out.k 1 rfl) 0; (try clear hc_B1); have hc_B1 : w'.cell? ⟨g_B, 1, none⟩ = some (.slice A_l lr.length c_l) := blk_cell (G.out.k 1 rfl) 1; have tok3 := Aside0.mk True.intro) | (go_at_call 51; have tk_ := tok3; clear tk_ tok3; (with_reducible refine (spec_WayDown.calls _ (n) _ _ (lr) (st) _ _ _ ?sd0_ ?sd1_ H2.out).mono ?_); (case sd0_ => repeat (first | exact G.out.c 2 rfl | (with_reducible refine Kd.C_drewN ?_ _) | (with_reducible refine Kd.C_drew ?_))); (case sd1_ => exact G.out.l 2 rfl); rintro e w' ⟨v0_, rfl, ho0, hb⟩; obtain ⟨A_way2, c_way2, e_⟩ := Kd.R_slice ho0; subst e_; (first | replace G := Aside0.mk (G.out.addR hb ho0) | replace G := Aside0.mk ((G.out.step (below_drew1 (Below.refl _ _))).addR hb ho0)); clear ho0 hb; (try clear hc_B0); have hc_B0 : w'.cell? ⟨g_B, 0, none⟩ = some (.int .i64 n) := blk_cell (G.out.k 2 rfl) 0; (try clear hc_B1); have hc_B1 : w'.cell? ⟨g_B, 1, none⟩ = some (.slice A_l lr.length c_l) := blk_cell (G.out.k 2 rfl) 1; have tok4 := Aside0.mk True.intro) | (go_at_call 52; have tk_ := tok4; clear tk_ tok4; (with_reducible refine (impl_EndOf.calls _ (n) _ _ (lr) (st) _ _ _ ?sd0_ ?sd1_ H3.out).mono ?_); (case sd0_ => repeat (first | exact G.out.c 3 rfl | (with_reducible refine Kd.C_drewN ?_ _) | (with_reducible refine Kd.C_drew ?_))); (case sd1_ => exact G.out.l 3 rfl); rintro e w' ⟨rfl, hb⟩; (first | replace G := Aside0.mk (G.out.step hb) | replace G := Aside0.mk ((G.out.step (below_drew1 (Below.refl _ _))).step hb)); clear hb; (try clear hc_B0); have hc_B0 : w'.cell? ⟨g_B, 0, none⟩ = some (.int .i64 n) := blk_cell (G.out.k 2 rfl) 0; (try clear hc_B1); have hc_B1 : w'.cell? ⟨g_B, 1, none⟩ = some (.slice A_l lr.length c_l) := blk_cell (G.out.k 2 rfl) 1; have tok5 := Aside0.mk True.intro) | (go_at_call 53; have tk_ := tok5; clear tk_ tok5; (with_reducible refine (spec_EndOf.calls _ (n) _ _ (lr) (st) _ _ _ ?sd0_ ?sd1_ H4.out).mono ?_); (case sd0_ => repeat (first | exact G.out.c 3 rfl | (with_reducible refine Kd.C_drewN ?_ _) | (with_reducible refine Kd.C_drew ?_))); (case sd1_ => exact G.out.l 3 rfl); rintro e w' ⟨rfl, hb⟩; (first | replace G := Aside0.mk (G.out.step hb) | replace G := Aside0.mk ((G.out.step (below_drew1 (Below.refl _ _))).step hb)); clear hb; (try clear hc_B0); have hc_B0 : w'.cell? ⟨g_B, 0, none⟩ = some (.int .i64 n) := blk_cell (G.out.k 2 rfl) 0; (try clear hc_B1); have hc_B1 : w'.cell? ⟨g_B, 1, none⟩ = some (.slice A_l lr.length c_l) := blk_cell (G.out.k 2 rfl) 1; have tok6 := Aside0.mk True.intro) | (go_at_call 54; have tk_ := tok6; clear tk_ tok6; (with_reducible refine (impl_RungsUsed.calls _ (n) _ _ (lr) (st) _ _ _ ?sd0_ ?sd1_ H5.out).mono ?_); (case sd0_ => repeat (first | exact G.out.c 3 rfl | (with_reducible refine Kd.C_drewN ?_ _) | (with_reducible refine Kd.C_drew ?_))); (case sd1_ => exact G.out.l 3 rfl); rintro e w' ⟨v0_, rfl, ho0, hb⟩; obtain ⟨A_us, c_us, e_⟩ := Kd.R_slice ho0; subst e_; (first | replace G := Aside0.mk (G.out.addR hb ho0) | replace G := Aside0.mk ((G.out.step (below_drew1 (Below.refl _ _))).addR hb ho0)); clear ho0 hb; (try clear hc_B0); have hc_B0 : w'.cell? ⟨g_B, 0, none⟩ = some (.int .i64 n) := blk_cell (G.out.k 3 rfl) 0; (try clear hc_B1); have hc_B1 : w'.cell? ⟨g_B, 1, none⟩ = some (.slice A_l lr.length c_l) := blk_cell (G.out.k 3 rfl) 1; have tok7 := Aside0.mk True.intro) | (go_at_call 55; have tk_ := tok7; clear tk_ tok7; (with_reducible refine (spec_RungsUsed.calls _ (n) _ _ (lr) (st) _ _ _ ?sd0_ ?sd1_ H6.out).mono ?_); (case sd0_ => repeat (first | exact G.out.c 4 rfl | (with_reducible refine Kd.C_drewN ?_ _) | (with_reducible refine Kd.C_drew ?_))); (case sd1_ => exact G.out.l 4 rfl); rintro e w' ⟨v0_, rfl, ho0, hb⟩; obtain ⟨A_us2, c_us2, e_⟩ := Kd.R_slice ho0; subst e_; (first | replace G := Aside0.mk (G.out.addR hb ho0) | replace G := Aside0.mk ((G.out.step (below_drew1 (Below.refl _ _))).addR hb ho0)); clear ho0 hb; (try clear hc_B0); have hc_B0 : w'.cell? ⟨g_B, 0, none⟩ = some (.int .i64 n) := blk_cell (G.out.k 4 rfl) 0; (try clear hc_B1); have hc_B1 : w'.cell? ⟨g_B, 1, none⟩ = some (.slice A_l lr.length c_l) := blk_cell (G.out.k 4 rfl) 1; have tok8 := Aside0.mk True.intro) | (go_at_call 56; have tk_ := tok8; clear tk_ tok8; (with_reducible refine (impl_ResultOf.calls _ (n) _ _ (lr) _ _ _ ?sd0_ ?sd1_ H7.out).mono ?_); (case sd0_ => repeat (first | exact G.out.c 5 rfl | (with_reducible refine Kd.C_drewN ?_ _) | (with_reducible refine Kd.C_drew ?_))); (case sd1_ => exact G.out.l 5 rfl); rintro e w' ⟨v0_, rfl, ho0, hb⟩; obtain ⟨A_p, c_p, e_⟩ := Kd.R_slice ho0; subst e_; (first | replace G := Aside0.mk (G.out.addR hb ho0) | replace G := Aside0.mk ((G.out.step (below_drew1 (Below.refl _ _))).addR hb ho0)); clear ho0 hb; (try clear hc_B0); have hc_B0 : w'.cell? ⟨g_B, 0, none⟩ = some (.int .i64 n) := blk_cell (G.out.k 5 rfl) 0; (try clear hc_B1); have hc_B1 : w'.cell? ⟨g_B, 1, none⟩ = some (.slice A_l lr.length c_l) := blk_cell (G.out.k 5 rfl) 1; have tok9 := Aside0.mk True.intro) | (go_at_call 57; have tk_ := tok9; clear tk_ tok9; (with_reducible refine (spec_ResultOf.calls _ (n) _ _ (lr) _ _ _ ?sd0_ ?sd1_ H8.out).mono ?_); (case sd0_ => repeat (first | exact G.out.c 6 rfl | (with_reducible refine Kd.C_drewN ?_ _) | (with_reducible refine Kd.C_drew ?_))); (case sd1_ => exact G.out.l 6 rfl); rintro e w' ⟨v0_, rfl, ho0, hb⟩; obtain ⟨A_p2, c_p2, e_⟩ := Kd.R_slice ho0; subst e_; (first | replace G := Aside0.mk (G.out.addR hb ho0) | replace G := Aside0.mk ((G.out.step (below_drew1 (Below.refl _ _))).addR hb ho0)); clear ho0 hb; (try clear hc_B0); have hc_B0 : w'.cell? ⟨g_B, 0, none⟩ = some (.int .i64 n) := blk_cell (G.out.k 6 rfl) 0; (try clear hc_B1); have hc_B1 : w'.cell? ⟨g_B, 1, none⟩ = some (.slice A_l lr.length c_l) := blk_cell (G.out.k 6 rfl) 1; have tok10 := Aside0.mk True.intro))
    refine wp_cut (GdS A1 c1 l1 g_B n lr st way ok en us p five A_l c_l A_way c_way A_way2 c_way2 A_us c_us A_us2 c_us2 A_p c_p A_p2 c_p2 w w) ?_ ?_
    · intro a' w' h
      obtain ⟨f, hcut, rfl⟩ := h
      clear G
      rename ∀ (a : Act) (w : World), Code.wp _ _ _ a w → _ => aK
      refine aK _ _ ?_
      clear aK
      dsimp only [gdFrB]
      go_upto_if 173 with (fail)
      go_cut [] (fun wc => Aside0 (Bag w wc [Ent.of (Kd.int .i64) A_p2 c_p2 p, Ent.of (Kd.int .i64) A_p c_p p, Ent.of (Kd.int .i64) A_us2 c_us2 us, Ent.of (Kd.int .i64) A_us c_us us, Ent.of (Kd.int .i64) A_way2 c_way2 way, Ent.of (Kd.int .i64) A_way c_way way, Ent.blk g_B (.cells #[.int .i64 n, .slice A_l lr.length c_l] 40 (0, 0)), Ent.of (Kd.int .i64) A_l c_l lr]))
      case first =>
        go_wp2
        go_meet
        case rel => exact hcut
      case rest =>
        rename ∀ (a : Act) (w : World), Code.wp _ _ _ a w → _ => aK
        exact aK _ _ (gd_rest _ _ _ _ _ _ _ _ _ _ _ _ _ _ _ _ _ _ _ _ _ _ _ _ _ _ _ _ _ _ _ _ _ _ _ _ _ _ _ _ _ _ _ _ _ _ _ _ _ _ _ _ _ _ _ _ _ _ _ _ _ _ _ _ _ _ _ _ _ _ _ _ _ _ _ _ _ _ _ _ _ _ _ _ _ _ _ _ _ _ _ _ _ _ _ _ _ _ _ _ _ _ _ _ _ _ _ _ _ _ _ _ _ _ _ _ _ _ _ _ _ _ _ _ _ _ _ _ _ _ _ _ _ _ _ _ _ _ _ _ _ _ _ _ _ _ _ _ _ _ _ _ _ _ _ _ _ _ _ _ _ _ _ _ _ _ _ _ _ _ _ _ _ _ _ _ _ _ _ _ _ _ _ _ _ _ _ _ _ _ _ _ _ _ _ _ _ _ _ _ _ _ _ _ _ _ _ _ _ _ _ _ _ _ _ _ _ _ _ _ _ _ _ _ _ _ _ _ _ _ _ _ _ _ _ _ _ _ _ _ _ _ _ _ _ _ _ _ _ _ _ _ _ _ _ _ _ _ _ _ _ _ _ _ _ _ _ _ _ _ _ _ _ _ _ _ _ _ _ _ _ _ _ _ _ _ _ _ _ _ _ _ _ _ _ _ _ _ _ _ _ _ _ _ _ _ _ _ _ _ _ _ _ _ _ _ _ _ _ _ _ _ _ _ _ _ _ _ _ _ _ _ _ _ _ _ _ _ _ _ _ _ _ _ _ _ _ _ _ _ _ _ _ _ _ _ _ _ _ _ _ _ _ _ _ _ _ _ _ _ _ _ _ _ _ _ _ _ _ _ _ _ _ _ _ _ _ _ _ _ _ A1 c1 l1 g_B n lr st way ok en us p five A_l c_l A_way c_way A_way2 c_way2 A_us c_us A_us2 c_us2 A_p c_p A_p2 c_p2 w _ HR1 HC1 hcut HB HT)
    · intro J K hJ hK
      cases ok with
      | true =>
        obtain rfl := H14.out rfl
        exact gd_reg_true _ _ _ _ _ _ _ _ _ _ _ _ _ _ _ _ _ _ _ _ _ _ _ _ _ _ _ _ _ _ _ _ _ _ _ _ _ _ _ _ _ _ _ _ _ _ _ _ _ _ _ _ _ _ _ _ _ _ _ _ _ _ _ _ _ _ _ _ _ _ _ _ _ _ _ _ _ _ _ _ _ _ _ _ _ _ _ _ _ _ _ _ _ _ _ _ _ _ _ _ _ _ _ _ _ _ _ _ _ _ _ _ _ _ _ _ _ _ _ _ _ _ _ _ _ _ _ _ _ _ _ _ _ _ _ _ _ _ _ _ _ _ _ _ _ _ _ _ _ _ _ _ _ _ _ _ _ _ _ _ _ _ _ _ _ _ _ _ _ _ _ _ _ _ _ _ _ _ _ _ _ _ _ _ _ _ _ _ _ _ _ _ _ _ _ _ _ _ _ _ _ _ _ _ _ _ _ _ _ _ _ _ _ _ _ _ _ _ _ _ _ _ _ _ _ _ _ _ _ _ _ _ _ _ _ _ _ _ _ _ _ _ _ _ _ _ _ _ _ _ _ _ _ _ _ _ _ _ _ _ _ _ _ _ _ _ _ _ _ _ _ _ _ _ _ _ _ _ _ _ _ _ _ _ _ _ _ _ _ _ _ _ _ _ _ _ _ _ _ _ _ _ _ _ _ _ _ _ _ _ _ _ _ _ _ _ _ _ _ _ _ _ _ _ _ _ _ _ _ _ _ _ _ _ _ _ _ _ _ _ _ _ _ _ _ _ _ _ _ _ _ _ _ _ _ _ _ _ _ _ _ _ _ _ _ _ _ _ _ _ _ _ _ _ _ _ _ _ _ _ _ _ _ _ _ _ _ _ _ _ _ A1 c1 l1 g_B n lr st way en us p A_l c_l A_way c_way A_way2 c_way2 A_us c_us A_us2 c_us2 A_p c_p A_p2 c_p2 w _ J K _ (fun a' w' h_ => hJ a' w' h_) hK G E9 E10 E11 E12 E13
      | false =>
        exact gd_reg_false _ _ _ _ _ _ _ _ _ _ _ _ _ _ _ _ _ _ _ _ _ _ _ _ _ _ _ _ _ _ _ _ _ _ _ _ _ _ _ _ _ _ _ _ _ _ _ _ _ _ _ _ _ _ _ _ _ _ _ _ _ _ _ _ _ _ _ _ _ _ _ _ _ _ _ _ _ _ _ _ _ _ _ _ _ _ _ _ _ _ _ _ _ _ _ _ _ _ _ _ _ _ _ _ _ _ _ _ _ _ _ _ _ _ _ _ _ _ _ _ _ _ _ _ _ _ _ _ _ _ _ _ _ _ _ _ _ _ _ _ _ _ _ _ _ _ _ _ _ _ _ _ _ _ _ _ _ _ _ _ _ _ _ _ _ _ _ _ _ _ _ _ _ _ _ _ _ _ _ _ _ _ _ _ _ _ _ _ _ _ _ _ _ _ _ _ _ _ _ _ _ _ _ _ _ _ _ _ _ _ _ _ _ _ _ _ _ _ _ _ _ _ _ _ _ _ _ _ _ _ _ _ _ _ _ _ _ _ _ _ _ _ _ _ _ _ _ _ _ _ _ _ _ _ _ _ _ _ _ _ _ _ _ _ _ _ _ _ _ _ _ _ _ _ _ _ _ _ _ _ _ _ _ _ _ _ _ _ _ _ _ _ _ _ _ _ _ _ _ _ _ _ _ _ _ _ _ _ _ _ _ _ _ _ _ _ _ _ _ _ _ _ _ _ _ _ _ _ _ _ _ _ _ _ _ _ _ _ _ _ _ _ _ _ _ _ _ _ _ _ _ _ _ _ _ _ _ _ _ _ _ _ _ _ _ _ _ _ _ _ _ _ _ _ _ _ _ _ _ _ _ _ _ _ _ _ _ _ _ _ _ A1 c1 l1 g_B n lr st way en us p five A_l c_l A_way c_way A_way2 c_way2 A_us c_us A_us2 c_us2 A_p c_p A_p2 c_p2 w _ J K _ (fun a' w' h_ => hJ a' w' h_) hK G E9 E10 E11 E12 E13
theorem laws_FnLaddersGoneDown.walk (P : laws_FnLaddersGoneDown.Pure) (a0 : Option Addr) (len0 cap0 : Nat) (z0 : List Int) (a1 : Option Addr) (len1 cap1 : Nat) (z1 : List Int) (w : World) (w0 : (a0 = none ∧ len0 = 0 ∧ cap0 = 0 ∧ z0 = []) ∨ ∃ x, a0 = some x ∧ len0 ≤ cap0 ∧ cap0 ≤ maxLen ∧ z0.length = cap0 ∧ (∀ i, i < z0.length → w.cell? (x.add i) = some (.int .u8 (z0.getD i 0))) ∧ ∀ n ∈ z0, (Lit.int .u8 n).wf = true) (y0 : len0 * 1 ≤ 140737488351232) (w1 : (a1 = none ∧ len1 = 0 ∧ cap1 = 0 ∧ z1 = []) ∨ ∃ x, a1 = some x ∧ len1 ≤ cap1 ∧ cap1 ≤ maxLen ∧ z1.length = cap1 ∧ (∀ i, i < z1.length → w.cell? (x.add i) = some (.int .u8 (z1.getD i 0))) ∧ ∀ n ∈ z1, (Lit.int .u8 n).wf = true) (y1 : len1 * 1 ≤ 140737488351232) :
    Calls Try.prog 5 #[.slice a0 len0 cap0, .slice a1 len1 cap1] w fun e w' => e = .returned (.bool true) ∧ Below w.heap.size w w' := by
  obtain ⟨l0, rfl, hr0, hm0, hw0, hc0⟩ := ReadsInt.ofRowC w0
  obtain ⟨l1, rfl, hr1, hm1, hw1, hc1⟩ := ReadsInt.ofRowC w1
  exact laws_FnLaddersGoneDown.calls _ _ l0 _ _ l1 w (Kd.C_of_reads (d := (0 : Int)) (h1 := fun _ => rfl) hr0) hc0 (Kd.C_of_reads (d := (0 : Int)) (h1 := fun _ => rfl) hr1) hc1 (P l0 l1 hm0 y0 hw0 hm1 y1 hw1)


end
end Go.Proofs.Ytaheijeojbimeaa.PGd
