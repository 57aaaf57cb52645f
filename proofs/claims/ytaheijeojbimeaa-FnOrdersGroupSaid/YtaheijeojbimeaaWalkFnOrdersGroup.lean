-- Written for this claim by a program of this session (myprint.py) over the kit's printer.
import Derived.Test.YtaheijeojbimeaaWalkFnOrdersGroupB
import Derived.Test.YtaheijeojbimeaaPOgx0
namespace Go.Proofs.Ytaheijeojbimeaa.POg
noncomputable section
open Go.RowKit Go.Proofs.YtaheijeojbimeaaW.PrintWords Go.Proofs.YtaheijeojbimeaaW.PrintLast Go.Proofs.YtaheijeojbimeaaW.PrintMore
attribute [local go_sem] max2_int min2_int max_two min_two max_three min_three max_four min_four   -- for this text's walks alone
set_option linter.unusedVariables false
set_option linter.unusedSimpArgs false


set_option maxHeartbeats 16000000 in
set_option maxRecDepth 100000 in
theorem laws_FnOrdersGroup.calls (A0 : Option Addr) (c0 : Nat) (l0 : List Int) (A1 : Option Addr) (c1 : Nat) (l1 : List Int) (w : World) (hr0 : Kd.C (Kd.int .u8) w A0 l0.length l0) (hc0 : l0.length ≤ c0) (hr1 : Kd.C (Kd.int .u8) w A1 l1.length l1) (hc1 : l1.length ≤ c1) (h : laws_FnOrdersGroup.Ok l0 l1) :
    Calls Try.prog 3 #[.slice A0 l0.length c0, .slice A1 l1.length c1] w fun e w' => e = .returned (.bool true) ∧ Below w.heap.size w w' := by
  have HR0 := Aside0.mk hr0
  have HC0 := Aside0.mk hc0
  have HR1 := Aside0.mk hr1
  have HC1 := Aside0.mk hc1
  have G := Aside0.mk (Bag.start w)
  have tok0 := Aside0.mk True.intro
  clear hr0 hc0 hr1 hc1
  rcases h with h | ⟨h, hH, hT⟩
  · have HBG := Aside0.mk h
    clear h
    go_enter Try.func3, Try.ntmps3
    go_wp2_with (first | (go_at_call 6; have tk_ := tok0; clear tk_ tok0; (with_reducible refine (laws_big.calls _ _ (l0) _ _ (l1) _ _ ?sd0_ ?sd1_ ?sd2_ ?sd3_ HBG.out).mono ?_); (case sd0_ => repeat (first | exact Kd.C_below HR0.out G.out.b | (with_reducible refine Kd.C_drewN ?_ _) | (with_reducible refine Kd.C_drew ?_))); (case sd1_ => exact HC0.out); (case sd2_ => repeat (first | exact Kd.C_below HR1.out G.out.b | (with_reducible refine Kd.C_drewN ?_ _) | (with_reducible refine Kd.C_drew ?_))); (case sd3_ => exact HC1.out); rintro e w' ⟨rfl, hd⟩; replace G := Aside0.mk (G.out.step hd.below); clear hd; have tok1 := Aside0.mk True.intro))
    go_ret
    exact ⟨rfl, G.out.b⟩
  · have HBG := Aside0.mk h
    have HT := Aside0.mk hT
    obtain ⟨p, t, C, sg, bk, ok, ⟨k1, h1⟩, ⟨k2, h2⟩, ⟨k3, h3⟩, ⟨k4, h4⟩, ⟨k5, h5⟩, ⟨k6, h6⟩, ⟨k7, h7⟩, ⟨k8, h8⟩, ⟨k9, h9⟩, ⟨k10, h10⟩, ⟨k11, h11⟩, ⟨k12, h12⟩, ⟨k13, h13⟩, hB⟩ := hH
    have H1 := Aside0.mk h1
    have H2 := Aside0.mk h2
    have H3 := Aside0.mk h3
    have H4 := Aside0.mk h4
    have H5 := Aside0.mk h5
    have H6 := Aside0.mk h6
    have H7 := Aside0.mk h7
    have H8 := Aside0.mk h8
    have H9 := Aside0.mk h9
    have H10 := Aside0.mk h10
    have H11 := Aside0.mk h11
    have H12 := Aside0.mk h12
    have H13 := Aside0.mk h13
    have HB := Aside0.mk hB
    clear h hT hB h1 h2 h3 h4 h5 h6 h7 h8 h9 h10 h11 h12 h13
    go_enter Try.func3, Try.ntmps3
    go_upto_if 166 with (first | (go_at_call 6; have tk_ := tok0; clear tk_ tok0; (with_reducible refine (laws_big.calls _ _ (l0) _ _ (l1) _ _ ?sd0_ ?sd1_ ?sd2_ ?sd3_ HBG.out).mono ?_); (case sd0_ => repeat (first | exact Kd.C_below HR0.out G.out.b | (with_reducible refine Kd.C_drewN ?_ _) | (with_reducible refine Kd.C_drew ?_))); (case sd1_ => exact HC0.out); (case sd2_ => repeat (first | exact Kd.C_below HR1.out G.out.b | (with_reducible refine Kd.C_drewN ?_ _) | (with_reducible refine Kd.C_drew ?_))); (case sd3_ => exact HC1.out); rintro e w' ⟨rfl, hd⟩; replace G := Aside0.mk (G.out.step hd.below); clear hd; have tok1 := Aside0.mk True.intro) | (go_at_call 7; have tk_ := tok1; clear tk_ tok1; (with_reducible refine (spec_DrawOrderTimes.calls _ _ _ (l0) _ _ ?sd0_ ?sd1_ H1.out).mono ?_); (case sd0_ => repeat (first | exact Kd.C_below HR0.out G.out.b | (with_reducible refine Kd.C_drewN ?_ _) | (with_reducible refine Kd.C_drew ?_))); (case sd1_ => exact HC0.out); rintro e w' ⟨v0_, rfl, ho0, hb⟩; obtain ⟨A_p, c_p, e_⟩ := Kd.R_slice ho0; subst e_; replace G := Aside0.mk (G.out.addR hb ho0); clear ho0 hb; have tok2 := Aside0.mk True.intro) | (go_at_call 8; have tk_ := tok2; clear tk_ tok2; (with_reducible refine (impl_OrderTimes.calls _ (fun _ => True) _ _ (p) _ _ _ ?sd0_ H2.out).mono ?_); (case sd0_ => exact G.out.v 0 rfl); rintro e w' ⟨rfl, hb⟩; replace G := Aside0.mk (G.out.step hb); clear hb; have tok3 := Aside0.mk True.intro) | (go_at_call 9; have tk_ := tok3; clear tk_ tok3; (with_reducible refine (spec_OrderTimes.calls _ _ _ (p) _ _ _ ?sd0_ ?sd1_ H3.out).mono ?_); (case sd0_ => repeat (first | exact G.out.c 0 rfl | (with_reducible refine Kd.C_drewN ?_ _) | (with_reducible refine Kd.C_drew ?_))); (case sd1_ => exact G.out.l 0 rfl); rintro e w' ⟨rfl, hb⟩; replace G := Aside0.mk (G.out.step hb); clear hb; have tok4 := Aside0.mk True.intro) | (go_at_call 10; have tk_ := tok4; clear tk_ tok4; (with_reducible refine (impl_CyclesOf.calls _ _ _ (p) _ _ _ ?sd0_ ?sd1_ H4.out).mono ?_); (case sd0_ => repeat (first | exact G.out.c 0 rfl | (with_reducible refine Kd.C_drewN ?_ _) | (with_reducible refine Kd.C_drew ?_))); (case sd1_ => exact G.out.l 0 rfl); rintro e w' ⟨v0_, rfl, ho0, hb⟩; obtain ⟨A_C1, c_C1, e_⟩ := Kd.S_slice ho0; subst e_; replace G := Aside0.mk (G.out.addS hb ho0); clear ho0 hb; have tok5 := Aside0.mk True.intro) | (go_at_call 11; have tk_ := tok5; clear tk_ tok5; (with_reducible refine (spec_CyclesOf.calls _ _ _ (p) _ _ _ ?sd0_ ?sd1_ H5.out).mono ?_); (case sd0_ => repeat (first | exact G.out.c 1 rfl | (with_reducible refine Kd.C_drewN ?_ _) | (with_reducible refine Kd.C_drew ?_))); (case sd1_ => exact G.out.l 1 rfl); rintro e w' ⟨v0_, rfl, ho0, hb⟩; obtain ⟨A_C2, c_C2, e_⟩ := Kd.S_slice ho0; subst e_; replace G := Aside0.mk (G.out.addS hb ho0); clear ho0 hb; have tok6 := Aside0.mk True.intro) | (go_at_call 12; have tk_ := tok6; clear tk_ tok6; (with_reducible refine (impl_SignOf.calls _ _ _ (p) _ _ _ ?sd0_ ?sd1_ H6.out).mono ?_); (case sd0_ => repeat (first | exact G.out.c 2 rfl | (with_reducible refine Kd.C_drewN ?_ _) | (with_reducible refine Kd.C_drew ?_))); (case sd1_ => exact G.out.l 2 rfl); rintro e w' ⟨rfl, hd⟩; replace G := Aside0.mk (G.out.step hd.below); clear hd; have tok7 := Aside0.mk True.intro) | (go_at_call 13; have tk_ := tok7; clear tk_ tok7; (with_reducible refine (spec_SignOf.calls _ _ _ (p) _ _ _ ?sd0_ ?sd1_ H7.out).mono ?_); (case sd0_ => repeat (first | exact G.out.c 2 rfl | (with_reducible refine Kd.C_drewN ?_ _) | (with_reducible refine Kd.C_drew ?_))); (case sd1_ => exact G.out.l 2 rfl); rintro e w' ⟨rfl, hb⟩; replace G := Aside0.mk (G.out.step hb); clear hb; have tok8 := Aside0.mk True.intro) | (go_at_call 14; have tk_ := tok8; clear tk_ tok8; (with_reducible refine (impl_BackOrder.calls _ _ _ (p) _ _ _ ?sd0_ ?sd1_ H8.out).mono ?_); (case sd0_ => repeat (first | exact G.out.c 2 rfl | (with_reducible refine Kd.C_drewN ?_ _) | (with_reducible refine Kd.C_drew ?_))); (case sd1_ => exact G.out.l 2 rfl); rintro e w' ⟨v0_, rfl, ho0, hb⟩; obtain ⟨A_b1, c_b1, e_⟩ := Kd.R_slice ho0; subst e_; replace G := Aside0.mk (G.out.addR hb ho0); clear ho0 hb; have tok9 := Aside0.mk True.intro) | (go_at_call 15; have tk_ := tok9; clear tk_ tok9; (with_reducible refine (spec_BackOrder.calls _ _ _ (p) _ _ _ ?sd0_ ?sd1_ H9.out).mono ?_); (case sd0_ => repeat (first | exact G.out.c 3 rfl | (with_reducible refine Kd.C_drewN ?_ _) | (with_reducible refine Kd.C_drew ?_))); (case sd1_ => exact G.out.l 3 rfl); rintro e w' ⟨v0_, rfl, ho0, hb⟩; obtain ⟨A_b2, c_b2, e_⟩ := Kd.R_slice ho0; subst e_; replace G := Aside0.mk (G.out.addR hb ho0); clear ho0 hb; have tok10 := Aside0.mk True.intro) | (go_at_call 16; have tk_ := tok10; clear tk_ tok10; (with_reducible refine (laws_kRows.calls _ _ _ (C) _ _ (C) _ _ ?sd0_ ?sd1_ ?sd2_ ?sd3_ H10.out).mono ?_); (case sd0_ => repeat (first | exact G.out.c 3 rfl | (with_reducible refine Kd.C_drewN ?_ _) | (with_reducible refine Kd.C_drew ?_))); (case sd1_ => exact G.out.l 3 rfl); (case sd2_ => repeat (first | exact G.out.c 2 rfl | (with_reducible refine Kd.C_drewN ?_ _) | (with_reducible refine Kd.C_drew ?_))); (case sd3_ => exact G.out.l 2 rfl); rintro e w' ⟨rfl, hd⟩; replace G := Aside0.mk (G.out.step hd.below); clear hd; have tok11 := Aside0.mk True.intro) | (go_at_call 17; have tk_ := tok11; clear tk_ tok11; (with_reducible refine (laws_kSame.calls _ _ _ (bk) _ _ (bk) _ _ ?sd0_ ?sd1_ ?sd2_ ?sd3_ H11.out).mono ?_); (case sd0_ => repeat (first | exact G.out.c 1 rfl | (with_reducible refine Kd.C_drewN ?_ _) | (with_reducible refine Kd.C_drew ?_))); (case sd1_ => exact G.out.l 1 rfl); (case sd2_ => repeat (first | exact G.out.c 0 rfl | (with_reducible refine Kd.C_drewN ?_ _) | (with_reducible refine Kd.C_drew ?_))); (case sd3_ => exact G.out.l 0 rfl); rintro e w' ⟨rfl, hd⟩; replace G := Aside0.mk (G.out.step hd.below); clear hd; have tok12 := Aside0.mk True.intro) | (go_at_call 18; have tk_ := tok12; clear tk_ tok12; (with_reducible refine (impl_IsOrder.calls _ _ _ (p) _ _ ?sd0_ ?sd1_ H12.out).mono ?_); (case sd0_ => repeat (first | exact G.out.c 4 rfl | (with_reducible refine Kd.C_drewN ?_ _) | (with_reducible refine Kd.C_drew ?_))); (case sd1_ => exact G.out.l 4 rfl); rintro e w' ⟨rfl, hd⟩; replace G := Aside0.mk (G.out.step hd.below); clear hd; have tok13 := Aside0.mk True.intro) | (go_at_call 18; have tk_ := tok13; clear tk_ tok13; (with_reducible refine (impl_IsOrder.calls _ _ _ (p) _ _ ?sd0_ ?sd1_ H12.out).mono ?_); (case sd0_ => repeat (first | exact G.out.c 4 rfl | (with_reducible refine Kd.C_drewN ?_ _) | (with_reducible refine Kd.C_drew ?_))); (case sd1_ => exact G.out.l 4 rfl); rintro e w' ⟨rfl, hd⟩; replace G := Aside0.mk (G.out.step hd.below); clear hd; have tok14 := Aside0.mk True.intro) | (go_at_call 19; have tk_ := tok14; clear tk_ tok14; (with_reducible refine (spec_IsOrder.calls _ _ _ (p) _ _ ?sd0_ ?sd1_ H13.out).mono ?_); (case sd0_ => repeat (first | exact G.out.c 4 rfl | (with_reducible refine Kd.C_drewN ?_ _) | (with_reducible refine Kd.C_drew ?_))); (case sd1_ => exact G.out.l 4 rfl); rintro e w' ⟨rfl, hd⟩; replace G := Aside0.mk (G.out.step hd.below); clear hd; have tok15 := Aside0.mk True.intro))
    (try simp only [Act.put, List.setIfInBounds_toArray, List.set_cons_zero, List.set_cons_succ])
    go_cut [] (fun wc => Aside0 (Bag w wc [Ent.of (Kd.int .i64) A_b2 c_b2 bk, Ent.of (Kd.int .i64) A_b1 c_b1 bk, Ent.of (Kd.slice 3 (Kd.int .i64)) A_C2 c_C2 C, Ent.of (Kd.slice 3 (Kd.int .i64)) A_C1 c_C1 C, Ent.of (Kd.int .i64) A_p c_p p]))
    case first =>
      go_wp2
      go_meet
      case rel => exact G
    case rest =>
      rename ∀ (a : Act) (w : World), Code.wp _ _ _ a w → _ => aK
      exact aK _ _ (og_rest _ _ _ _ _ _ _ _ _ _ _ _ _ _ _ _ _ _ _ _ _ _ _ _ _ _ _ _ _ _ _ _ _ _ _ _ _ _ _ _ _ _ _ _ _ _ _ _ _ _ _ _ _ _ _ _ _ _ _ _ _ _ _ _ _ _ _ _ _ _ _ _ _ _ _ _ _ _ _ _ _ _ _ _ _ _ _ _ _ _ _ _ _ _ _ _ _ _ _ _ _ _ _ _ _ _ _ _ _ _ _ _ _ _ _ _ _ _ _ _ _ _ _ _ _ _ _ _ _ _ _ _ _ _ _ _ _ _ _ _ _ _ _ _ _ _ _ _ _ _ _ _ _ _ _ _ _ _ _ _ _ _ _ _ _ _ _ _ _ _ _ _ _ _ _ _ _ _ _ _ _ _ _ _ _ _ _ _ _ _ _ _ _ _ _ _ _ _ _ _ _ _ _ _ _ _ _ _ _ _ _ _ _ _ _ _ _ _ _ _ _ _ _ _ _ _ _ _ _ _ _ _ _ _ _ _ _ _ _ _ _ _ _ _ _ _ _ _ _ _ _ _ _ _ _ _ _ _ _ _ _ _ _ _ _ _ _ _ _ _ _ _ _ _ _ _ _ _ _ _ _ _ _ _ _ _ _ _ _ _ _ _ _ _ _ _ _ _ _ _ _ _ _ _ _ _ _ _ _ _ _ _ _ _ _ _ _ _ _ _ _ _ _ _ _ _ _ _ _ _ _ _ _ _ _ _ _ _ _ _ _ _ _ _ _ _ _ _ _ _ _ _ _ _ _ _ _ _ _ _ _ _ _ _ _ _ _ _ _ _ A1 c1 l1 A_p c_p p t ok A_C1 c_C1 A_C2 c_C2 C sg A_b1 c_b1 A_b2 c_b2 bk w _ HR1 HC1 hcut HB HT)
theorem laws_FnOrdersGroup.walk (P : laws_FnOrdersGroup.Pure) (a0 : Option Addr) (len0 cap0 : Nat) (z0 : List Int) (a1 : Option Addr) (len1 cap1 : Nat) (z1 : List Int) (w : World) (w0 : (a0 = none ∧ len0 = 0 ∧ cap0 = 0 ∧ z0 = []) ∨ ∃ x, a0 = some x ∧ len0 ≤ cap0 ∧ cap0 ≤ maxLen ∧ z0.length = cap0 ∧ (∀ i, i < z0.length → w.cell? (x.add i) = some (.int .u8 (z0.getD i 0))) ∧ ∀ n ∈ z0, (Lit.int .u8 n).wf = true) (y0 : len0 * 1 ≤ 140737488351232) (w1 : (a1 = none ∧ len1 = 0 ∧ cap1 = 0 ∧ z1 = []) ∨ ∃ x, a1 = some x ∧ len1 ≤ cap1 ∧ cap1 ≤ maxLen ∧ z1.length = cap1 ∧ (∀ i, i < z1.length → w.cell? (x.add i) = some (.int .u8 (z1.getD i 0))) ∧ ∀ n ∈ z1, (Lit.int .u8 n).wf = true) (y1 : len1 * 1 ≤ 140737488351232) :
    Calls Try.prog 3 #[.slice a0 len0 cap0, .slice a1 len1 cap1] w fun e w' => e = .returned (.bool true) ∧ Below w.heap.size w w' := by
  obtain ⟨l0, rfl, hr0, hm0, hw0, hc0⟩ := ReadsInt.ofRowC w0
  obtain ⟨l1, rfl, hr1, hm1, hw1, hc1⟩ := ReadsInt.ofRowC w1
  exact laws_FnOrdersGroup.calls _ _ l0 _ _ l1 w (Kd.C_of_reads (d := (0 : Int)) (h1 := fun _ => rfl) hr0) hc0 (Kd.C_of_reads (d := (0 : Int)) (h1 := fun _ => rfl) hr1) hc1 (P l0 l1 hm0 y0 hw0 hm1 y1 hw1)

end
end Go.Proofs.Ytaheijeojbimeaa.POg
