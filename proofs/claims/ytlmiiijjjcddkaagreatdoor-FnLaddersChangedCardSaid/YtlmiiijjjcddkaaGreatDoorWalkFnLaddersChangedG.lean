-- Written for this claim by a program of this session (myprint.py) over the kit's printer.
import Derived.Test.YtlmiiijjjcddkaaGreatDoorWalkFnLaddersChangedF
import Derived.Test.YtlmiiijjjcddkaaGreatDoorPLgx0
import Derived.Deep.RegionHeld3
namespace Go.Proofs.YtlmiiijjjcddkaaGreatDoor.PLg
noncomputable section
open Go.RowKit Go.Proofs.YtlmiiijjjcddkaaGreatDoorW.PrintWords Go.Proofs.YtlmiiijjjcddkaaGreatDoorW.PrintLast Go.Proofs.YtlmiiijjjcddkaaGreatDoorW.PrintMore
attribute [local go_sem] max2_int min2_int max_two min_two max_three min_three max_four min_four   -- for this text's walks alone
set_option linter.unusedVariables false
set_option linter.unusedSimpArgs false


set_option maxHeartbeats 16000000 in
set_option maxRecDepth 1000000 in
theorem lc_c143 (q0 q2 q3 q4 q7 q8 q9 qb qc qd qf qg qh qi qj qk ql qm qn qo qp qq qr qs qt qu qv qw qx qy qz qA qB qC qD qE qF qG qH qI qJ qK qL qM qN qO qP qQ qR qS qT qU qV qW qX qY qZ x0 x1 x2 x3 x4 x5 x6 x7 x8 x9 xa xb xc xd xe xf xg xh xi xj xk xl xm xn xo xp xq xr xs xt xu xv xw xx xy xz xA xB xC xD xE xF xG xH xI xJ xK xL xM xN xO xP xQ xR xS xT xU xV xW xX xY xZ y0 y1 y2 y3 y4 y5 y6 y7 y8 y9 ya yb yc yd ye yf yg yh yi yk yl ym yn yo yp yq yr ys yt yu yv yw yx yy yz yA yB yC yD yE yF yG yH yI yJ yK yL yM yN yO yP yQ yR yS yT yU yV yW yX yY yZ z0 z1 z2 z3 z4 z5 z6 z7 z8 z9 za zb zc zd ze zf zg zh zi zj zk zl zm zn zo zp zq zr zs zt zu zv zw zx zy zz zA zB zC zD zE zF zG zH zI zJ zK zL zM zN zO zP zQ zR zS zT zU zV zW zX zY zZ j0 j1 j2 j3 j4 j5 j6 j7 j8 j9 ja jb jc jd je jf jg jh ji jj jk jl jm jn jo jp jq jr js jt ju jv jw jx jy jz jA jB jC jD jE jF jG jH jI jJ jK jL jM jN jO jP jQ jR jS jT jU jV jW jX jY jZ v0 v1 v2 v3 v4 v5 v6 v7 v8 v9 va vb vc vd ve vf vg vh vi vj vk vl vm vn vo vp vq vr vs vt vu vv vw vx vy vz vA vB vC vD vE vF vG vH vI vJ vK vL vM vN vO vP vQ vR vS vT vU vV vW vX vY vZ u0 u1 u2 u3 u4 u5 u6 u7 u8 u9 ua ub uc ud ue uf ug uh ui uj uk ul um un uo up uq ur us ut uu uv uw ux uy uz uA uB uC uD : Value) (A1 : Option Addr) (c1 : Nat) (l1 : List Int) (w : World) (wc : World) (g_L : Nat) (ln : Int) (ll : List Int) (A_l : Option Addr) (c_l : Nat) (g_T : Nat) (tn : Int) (tl : List Int) (A_t : Option Addr) (c_t : Nat) (g_M : Nat) (mn : Int) (ml : List Int) (A_m : Option Addr) (c_m : Nat) (tx : ByteArray) (J K : Act → World → Prop) (Q' : Exit → Act → World → Prop) (hJ : ∀ a' w', LcR A1 c1 l1 w a' w' → J a' w') (hK : ∀ a' w', Met J a' w' → K a' w') (HV : Aside0 (impl_readNumber.VOK w)) (G : Aside0 (Bag w wc [Ent.of (Kd.int .i64) A_m c_m ml, Ent.blk g_M (.cells #[.int .i64 mn, .slice A_m ml.length c_m] 26 (0, 0)), Ent.of (Kd.int .i64) A_t c_t tl, Ent.blk g_T (.cells #[.int .i64 tn, .slice A_t tl.length c_t] 26 (0, 0)), Ent.of (Kd.int .i64) A_l c_l ll, Ent.blk g_L (.cells #[.int .i64 ln, .slice A_l ll.length c_l] 26 (0, 0))])) (HO : Aside0 (LcOk ln ll tn tl mn ml tx)) :
    Code.wp Tryz.prog lc_if143 (Exit.then K Q') ⟨#[q0, .slice A1 l1.length c1, q2, q3, q4, .pointer (some ⟨g_L, 0, none⟩), .pointer (some ⟨g_T, 0, none⟩), q7, q8, q9, .pointer (some ⟨g_M, 0, none⟩), qb, qc, qd, .string tx, qf, qg, qh, qi, qj, qk, ql, qm, qn, qo, qp, qq, qr, qs, qt, qu, qv, qw, qx, qy, qz, qA, qB, qC, qD, qE, qF, qG, qH, qI, qJ, qK, qL, qM, qN, qO, qP, qQ, qR, qS, qT, qU, qV, qW, qX, qY, qZ, x0, x1, x2, x3, x4, x5, x6, x7, x8, x9, xa, xb, xc, xd, xe, xf, xg, xh, xi, xj, xk, xl, xm, xn, xo, xp, xq, xr, xs, xt, xu, xv, xw, xx, xy, xz, xA, xB, xC, xD, xE, xF, xG, xH, xI, xJ, xK, xL, xM, xN, xO, xP, xQ, xR, xS, xT, xU, xV, xW, xX, xY, xZ, y0, y1, y2, y3, y4, y5, y6, y7, y8, y9, ya, yb, yc, yd, ye, yf, yg, yh, yi, .bool true, yk, yl, ym, yn, yo, yp, yq, yr, ys, yt, yu, yv, yw, yx, yy, yz, yA, yB, yC, yD, yE, yF, yG, yH, yI, yJ, yK, yL, yM, yN, yO, yP, yQ, yR, yS, yT, yU, yV, yW, yX, yY, yZ, z0, z1, z2, z3, z4, z5, z6, z7, z8, z9, za, zb, zc, zd, ze, zf, zg, zh, zi, zj, zk, zl, zm, zn, zo, zp, zq, zr, zs, zt, zu, zv, zw, zx, zy, zz, zA, zB, zC, zD, zE, zF, zG, zH, zI, zJ, zK, zL, zM, zN, zO, zP, zQ, zR, zS, zT, zU, zV, zW, zX, zY, zZ, j0, j1, j2, j3, j4, j5, j6, j7, j8, j9, ja, jb, jc, jd, je, jf, jg, jh, ji, jj, jk, jl, jm, jn, jo, jp, jq, jr, js, jt, ju, jv, jw, jx, jy, jz, jA, jB, jC, jD, jE, jF, jG, jH, jI, jJ, jK, jL, jM, jN, jO, jP, jQ, jR, jS, jT, jU, jV, jW, jX, jY, jZ, v0, v1, v2, v3, v4, v5, v6, v7, v8, v9, va, vb, vc, vd, ve, vf, vg, vh, vi, vj, vk, vl, vm, vn, vo, vp, vq, vr, vs, vt, vu, vv, vw, vx, vy, vz, vA, vB, vC, vD, vE, vF, vG, vH, vI, vJ, vK, vL, vM, vN, vO, vP, vQ, vR, vS, vT, vU, vV, vW, vX, vY, vZ, u0, u1, u2, u3, u4, u5, u6, u7, u8, u9, ua, ub, uc, ud, ue, uf, ug, uh, ui, uj, uk, ul, um, un, uo, up, uq, ur, us, ut, uu, uv, uw, ux, uy, uz, uA, uB, uC, uD], []⟩ wc := by
  conv => arg 2; whnf
  have hu26 := Tryz.underlying26
  have tok0 := Aside0.mk True.intro
  obtain ⟨p, bk, q, sg, h1, h2, h3, h4, h5, h6, h7, h8, hsg, hn2, hn8, hnp, hqp, hm⟩ := HO.out
  clear HO
  obtain ⟨k_h1, x_h1⟩ := h1
  have H1 := Aside0.mk x_h1
  clear x_h1
  obtain ⟨k_h2, x_h2⟩ := h2
  have H2 := Aside0.mk x_h2
  clear x_h2
  obtain ⟨k_h3, x_h3⟩ := h3
  have H3 := Aside0.mk x_h3
  clear x_h3
  obtain ⟨k_h4, x_h4⟩ := h4
  have H4 := Aside0.mk x_h4
  clear x_h4
  obtain ⟨k_h5, x_h5⟩ := h5
  have H5 := Aside0.mk x_h5
  clear x_h5
  obtain ⟨k_h6, x_h6⟩ := h6
  have H6 := Aside0.mk x_h6
  clear x_h6
  obtain ⟨k_h7, x_h7⟩ := h7
  have H7 := Aside0.mk x_h7
  clear x_h7
  obtain ⟨k_h8, x_h8⟩ := h8
  have H8 := Aside0.mk x_h8
  clear x_h8
  skip
  have HNP := Aside0.mk (And.intro hn2 (And.intro hn8 (And.intro hnp hqp)))
  have HM := Aside0.mk hm
  have y1_ : ((sg == 1) == ((ll.length : Int) % 2 == 0)) = true := by rw [hsg]; simp
  have y3_ : (!((sg == 1) == ((ll.length : Int) % 2 == 0))) = false := by rw [y1_]; rfl
  have y4_ : ((sg == 1) != ((ll.length : Int) % 2 == 0)) = false := y3_
  clear hsg hn2 hn8 hnp hqp hm
  (try clear hc_M0)
  have hc_M0 : wc.cell? ⟨g_M, 0, none⟩ = some (.int .i64 mn) := blk_cell (G.out.k 1 rfl) 0
  (try clear hc_M1)
  have hc_M1 : wc.cell? ⟨g_M, 1, none⟩ = some (.slice A_m ml.length c_m) := blk_cell (G.out.k 1 rfl) 1
  (try clear hc_T0)
  have hc_T0 : wc.cell? ⟨g_T, 0, none⟩ = some (.int .i64 tn) := blk_cell (G.out.k 3 rfl) 0
  (try clear hc_T1)
  have hc_T1 : wc.cell? ⟨g_T, 1, none⟩ = some (.slice A_t tl.length c_t) := blk_cell (G.out.k 3 rfl) 1
  (try clear hc_L0)
  have hc_L0 : wc.cell? ⟨g_L, 0, none⟩ = some (.int .i64 ln) := blk_cell (G.out.k 5 rfl) 0
  (try clear hc_L1)
  have hc_L1 : wc.cell? ⟨g_L, 1, none⟩ = some (.slice A_l ll.length c_l) := blk_cell (G.out.k 5 rfl) 1
  go_upto_region 20 with (first | (go_at_call 15; have tk_ := tok0; clear tk_ tok0; (with_reducible refine (laws_kResult.calls _ (ln) _ _ (ll) _ _ ?sd0_ ?sd1_ H1.out).mono ?_); (case sd0_ => repeat (first | exact G.out.c 4 rfl | (with_reducible refine Kd.C_drewN ?_ _) | (with_reducible refine Kd.C_drew ?_))); (case sd1_ => exact G.out.l 4 rfl); rintro e w' ⟨v0_, rfl, ho0, hb⟩; obtain ⟨A_p, c_p, e_⟩ := Kd.R_slice ho0; subst e_; replace G := Aside0.mk (G.out.addR hb ho0); clear ho0 hb; (try clear hc_M0); have hc_M0 : w'.cell? ⟨g_M, 0, none⟩ = some (.int .i64 mn) := blk_cell (G.out.k 2 rfl) 0; (try clear hc_M1); have hc_M1 : w'.cell? ⟨g_M, 1, none⟩ = some (.slice A_m ml.length c_m) := blk_cell (G.out.k 2 rfl) 1; (try clear hc_T0); have hc_T0 : w'.cell? ⟨g_T, 0, none⟩ = some (.int .i64 tn) := blk_cell (G.out.k 4 rfl) 0; (try clear hc_T1); have hc_T1 : w'.cell? ⟨g_T, 1, none⟩ = some (.slice A_t tl.length c_t) := blk_cell (G.out.k 4 rfl) 1; (try clear hc_L0); have hc_L0 : w'.cell? ⟨g_L, 0, none⟩ = some (.int .i64 ln) := blk_cell (G.out.k 6 rfl) 0; (try clear hc_L1); have hc_L1 : w'.cell? ⟨g_L, 1, none⟩ = some (.slice A_l ll.length c_l) := blk_cell (G.out.k 6 rfl) 1; have tok1 := Aside0.mk True.intro) | (go_at_call 16; have tk_ := tok1; clear tk_ tok1; (with_reducible refine (impl_BackOrder.calls _ _ _ (p) _ _ _ ?sd0_ ?sd1_ H2.out).mono ?_); (case sd0_ => repeat (first | exact G.out.c 0 rfl | (with_reducible refine Kd.C_drewN ?_ _) | (with_reducible refine Kd.C_drew ?_))); (case sd1_ => exact G.out.l 0 rfl); rintro e w' ⟨v0_, rfl, ho0, hb⟩; obtain ⟨A_k, c_k, e_⟩ := Kd.R_slice ho0; subst e_; replace G := Aside0.mk (G.out.addR hb ho0); clear ho0 hb; (try clear hc_M0); have hc_M0 : w'.cell? ⟨g_M, 0, none⟩ = some (.int .i64 mn) := blk_cell (G.out.k 3 rfl) 0; (try clear hc_M1); have hc_M1 : w'.cell? ⟨g_M, 1, none⟩ = some (.slice A_m ml.length c_m) := blk_cell (G.out.k 3 rfl) 1; (try clear hc_T0); have hc_T0 : w'.cell? ⟨g_T, 0, none⟩ = some (.int .i64 tn) := blk_cell (G.out.k 5 rfl) 0; (try clear hc_T1); have hc_T1 : w'.cell? ⟨g_T, 1, none⟩ = some (.slice A_t tl.length c_t) := blk_cell (G.out.k 5 rfl) 1; (try clear hc_L0); have hc_L0 : w'.cell? ⟨g_L, 0, none⟩ = some (.int .i64 ln) := blk_cell (G.out.k 7 rfl) 0; (try clear hc_L1); have hc_L1 : w'.cell? ⟨g_L, 1, none⟩ = some (.slice A_l ll.length c_l) := blk_cell (G.out.k 7 rfl) 1; have tok2 := Aside0.mk True.intro) | (go_at_call 15; have tk_ := tok2; clear tk_ tok2; (with_reducible refine (laws_kResult.calls _ (mn) _ _ (ml) _ _ ?sd0_ ?sd1_ H3.out).mono ?_); (case sd0_ => repeat (first | exact G.out.c 2 rfl | (with_reducible refine Kd.C_drewN ?_ _) | (with_reducible refine Kd.C_drew ?_))); (case sd1_ => exact G.out.l 2 rfl); rintro e w' ⟨v0_, rfl, ho0, hb⟩; obtain ⟨A_q, c_q, e_⟩ := Kd.R_slice ho0; subst e_; replace G := Aside0.mk (G.out.addR hb ho0); clear ho0 hb; (try clear hc_M0); have hc_M0 : w'.cell? ⟨g_M, 0, none⟩ = some (.int .i64 mn) := blk_cell (G.out.k 4 rfl) 0; (try clear hc_M1); have hc_M1 : w'.cell? ⟨g_M, 1, none⟩ = some (.slice A_m ml.length c_m) := blk_cell (G.out.k 4 rfl) 1; (try clear hc_T0); have hc_T0 : w'.cell? ⟨g_T, 0, none⟩ = some (.int .i64 tn) := blk_cell (G.out.k 6 rfl) 0; (try clear hc_T1); have hc_T1 : w'.cell? ⟨g_T, 1, none⟩ = some (.slice A_t tl.length c_t) := blk_cell (G.out.k 6 rfl) 1; (try clear hc_L0); have hc_L0 : w'.cell? ⟨g_L, 0, none⟩ = some (.int .i64 ln) := blk_cell (G.out.k 8 rfl) 0; (try clear hc_L1); have hc_L1 : w'.cell? ⟨g_L, 1, none⟩ = some (.slice A_l ll.length c_l) := blk_cell (G.out.k 8 rfl) 1; have tok3 := Aside0.mk True.intro) | (go_at_call 17; have tk_ := tok3; clear tk_ tok3; (with_reducible refine (impl_ParseLadder.calls _ (tx) _ _ _ _ (Aside0.mk (impl_readNumber.VOK.on HV.out G.out.b)) H4.out).mono ?_); rintro e w' ⟨v1_, rfl, ho1, hb⟩; obtain ⟨A_y, c_y, e_⟩ := Kd.R_slice ho1; subst e_; replace G := Aside0.mk (G.out.addR hb ho1); clear ho1 hb; (try clear hc_M0); have hc_M0 : w'.cell? ⟨g_M, 0, none⟩ = some (.int .i64 mn) := blk_cell (G.out.k 5 rfl) 0; (try clear hc_M1); have hc_M1 : w'.cell? ⟨g_M, 1, none⟩ = some (.slice A_m ml.length c_m) := blk_cell (G.out.k 5 rfl) 1; (try clear hc_T0); have hc_T0 : w'.cell? ⟨g_T, 0, none⟩ = some (.int .i64 tn) := blk_cell (G.out.k 7 rfl) 0; (try clear hc_T1); have hc_T1 : w'.cell? ⟨g_T, 1, none⟩ = some (.slice A_t tl.length c_t) := blk_cell (G.out.k 7 rfl) 1; (try clear hc_L0); have hc_L0 : w'.cell? ⟨g_L, 0, none⟩ = some (.int .i64 ln) := blk_cell (G.out.k 9 rfl) 0; (try clear hc_L1); have hc_L1 : w'.cell? ⟨g_L, 1, none⟩ = some (.slice A_l ll.length c_l) := blk_cell (G.out.k 9 rfl) 1; have tok4 := Aside0.mk True.intro) | (go_at_call 18; have tk_ := tok4; clear tk_ tok4; replace G := Aside0.mk (G.out.box (.cells #[.int .i64 ln, .slice A_y ll.length c_y] 26 (0, 0))); generalize World.alloc w' (.cells #[.int .i64 ln, .slice A_y ll.length c_y] 26 (0, 0)) = wb_Y at G ⊢; generalize w'.heap.size = g_Y at G ⊢; obtain ⟨w', ew_⟩ : ∃ x_, x_ = wb_Y := ⟨_, rfl⟩; subst ew_; (with_reducible refine (impl_SignOf.calls _ _ _ (p) _ _ _ ?sd0_ ?sd1_ H5.out).mono ?_); (case sd0_ => repeat (first | exact G.out.c 4 rfl | (with_reducible refine Kd.C_drewN ?_ _) | (with_reducible refine Kd.C_drew ?_))); (case sd1_ => exact G.out.l 4 rfl); rintro e w' ⟨rfl, hd⟩; replace G := Aside0.mk (G.out.step hd.below); clear hd; (try clear hc_Y0); have hc_Y0 : w'.cell? ⟨g_Y, 0, none⟩ = some (.int .i64 ln) := blk_cell (G.out.k 0 rfl) 0; (try clear hc_Y1); have hc_Y1 : w'.cell? ⟨g_Y, 1, none⟩ = some (.slice A_y ll.length c_y) := blk_cell (G.out.k 0 rfl) 1; (try clear hc_M0); have hc_M0 : w'.cell? ⟨g_M, 0, none⟩ = some (.int .i64 mn) := blk_cell (G.out.k 6 rfl) 0; (try clear hc_M1); have hc_M1 : w'.cell? ⟨g_M, 1, none⟩ = some (.slice A_m ml.length c_m) := blk_cell (G.out.k 6 rfl) 1; (try clear hc_T0); have hc_T0 : w'.cell? ⟨g_T, 0, none⟩ = some (.int .i64 tn) := blk_cell (G.out.k 8 rfl) 0; (try clear hc_T1); have hc_T1 : w'.cell? ⟨g_T, 1, none⟩ = some (.slice A_t tl.length c_t) := blk_cell (G.out.k 8 rfl) 1; (try clear hc_L0); have hc_L0 : w'.cell? ⟨g_L, 0, none⟩ = some (.int .i64 ln) := blk_cell (G.out.k 10 rfl) 0; (try clear hc_L1); have hc_L1 : w'.cell? ⟨g_L, 1, none⟩ = some (.slice A_l ll.length c_l) := blk_cell (G.out.k 10 rfl) 1; have tok5 := Aside0.mk True.intro) | (go_at_call 15; have tk_ := tok5; clear tk_ tok5; (with_reducible refine (laws_kResult.calls _ (tn) _ _ (tl) _ _ ?sd0_ ?sd1_ H6.out).mono ?_); (case sd0_ => repeat (first | exact G.out.c 7 rfl | (with_reducible refine Kd.C_drewN ?_ _) | (with_reducible refine Kd.C_drew ?_))); (case sd1_ => exact G.out.l 7 rfl); rintro e w' ⟨v0_, rfl, ho0, hb⟩; obtain ⟨A_k2, c_k2, e_⟩ := Kd.R_slice ho0; subst e_; replace G := Aside0.mk (G.out.addR hb ho0); clear ho0 hb; (try clear hc_Y0); have hc_Y0 : w'.cell? ⟨g_Y, 0, none⟩ = some (.int .i64 ln) := blk_cell (G.out.k 1 rfl) 0; (try clear hc_Y1); have hc_Y1 : w'.cell? ⟨g_Y, 1, none⟩ = some (.slice A_y ll.length c_y) := blk_cell (G.out.k 1 rfl) 1; (try clear hc_M0); have hc_M0 : w'.cell? ⟨g_M, 0, none⟩ = some (.int .i64 mn) := blk_cell (G.out.k 7 rfl) 0; (try clear hc_M1); have hc_M1 : w'.cell? ⟨g_M, 1, none⟩ = some (.slice A_m ml.length c_m) := blk_cell (G.out.k 7 rfl) 1; (try clear hc_T0); have hc_T0 : w'.cell? ⟨g_T, 0, none⟩ = some (.int .i64 tn) := blk_cell (G.out.k 9 rfl) 0; (try clear hc_T1); have hc_T1 : w'.cell? ⟨g_T, 1, none⟩ = some (.slice A_t tl.length c_t) := blk_cell (G.out.k 9 rfl) 1; (try clear hc_L0); have hc_L0 : w'.cell? ⟨g_L, 0, none⟩ = some (.int .i64 ln) := blk_cell (G.out.k 11 rfl) 0; (try clear hc_L1); have hc_L1 : w'.cell? ⟨g_L, 1, none⟩ = some (.slice A_l ll.length c_l) := blk_cell (G.out.k 11 rfl) 1; have tok6 := Aside0.mk True.intro) | (go_at_call 19; have tk_ := tok6; clear tk_ tok6; (with_reducible refine (laws_kSame.calls _ _ _ (bk) _ _ (bk) _ _ ?sd0_ ?sd1_ ?sd2_ ?sd3_ H7.out).mono ?_); (case sd0_ => repeat (first | exact G.out.c 0 rfl | (with_reducible refine Kd.C_drewN ?_ _) | (with_reducible refine Kd.C_drew ?_))); (case sd1_ => exact G.out.l 0 rfl); (case sd2_ => repeat (first | exact G.out.c 4 rfl | (with_reducible refine Kd.C_drewN ?_ _) | (with_reducible refine Kd.C_drew ?_))); (case sd3_ => exact G.out.l 4 rfl); rintro e w' ⟨rfl, hd⟩; replace G := Aside0.mk (G.out.step hd.below); clear hd; (try clear hc_Y0); have hc_Y0 : w'.cell? ⟨g_Y, 0, none⟩ = some (.int .i64 ln) := blk_cell (G.out.k 1 rfl) 0; (try clear hc_Y1); have hc_Y1 : w'.cell? ⟨g_Y, 1, none⟩ = some (.slice A_y ll.length c_y) := blk_cell (G.out.k 1 rfl) 1; (try clear hc_M0); have hc_M0 : w'.cell? ⟨g_M, 0, none⟩ = some (.int .i64 mn) := blk_cell (G.out.k 7 rfl) 0; (try clear hc_M1); have hc_M1 : w'.cell? ⟨g_M, 1, none⟩ = some (.slice A_m ml.length c_m) := blk_cell (G.out.k 7 rfl) 1; (try clear hc_T0); have hc_T0 : w'.cell? ⟨g_T, 0, none⟩ = some (.int .i64 tn) := blk_cell (G.out.k 9 rfl) 0; (try clear hc_T1); have hc_T1 : w'.cell? ⟨g_T, 1, none⟩ = some (.slice A_t tl.length c_t) := blk_cell (G.out.k 9 rfl) 1; (try clear hc_L0); have hc_L0 : w'.cell? ⟨g_L, 0, none⟩ = some (.int .i64 ln) := blk_cell (G.out.k 11 rfl) 0; (try clear hc_L1); have hc_L1 : w'.cell? ⟨g_L, 1, none⟩ = some (.slice A_l ll.length c_l) := blk_cell (G.out.k 11 rfl) 1; have tok7 := Aside0.mk True.intro) | (go_at_call 13; have tk_ := tok7; clear tk_ tok7; (with_reducible refine (laws_kLadder.calls _ (ln) _ _ (ll) (ln) _ _ (ll) _ _ ?sd0_ ?sd1_ ?sd2_ ?sd3_ H8.out).mono ?_); (case sd0_ => repeat (first | exact G.out.c 2 rfl | (with_reducible refine Kd.C_drewN ?_ _) | (with_reducible refine Kd.C_drew ?_))); (case sd1_ => exact G.out.l 2 rfl); (case sd2_ => repeat (first | exact G.out.c 10 rfl | (with_reducible refine Kd.C_drewN ?_ _) | (with_reducible refine Kd.C_drew ?_))); (case sd3_ => exact G.out.l 10 rfl); rintro e w' ⟨rfl, hb⟩; replace G := Aside0.mk (G.out.step hb); clear hb; (try clear hc_Y0); have hc_Y0 : w'.cell? ⟨g_Y, 0, none⟩ = some (.int .i64 ln) := blk_cell (G.out.k 1 rfl) 0; (try clear hc_Y1); have hc_Y1 : w'.cell? ⟨g_Y, 1, none⟩ = some (.slice A_y ll.length c_y) := blk_cell (G.out.k 1 rfl) 1; (try clear hc_M0); have hc_M0 : w'.cell? ⟨g_M, 0, none⟩ = some (.int .i64 mn) := blk_cell (G.out.k 7 rfl) 0; (try clear hc_M1); have hc_M1 : w'.cell? ⟨g_M, 1, none⟩ = some (.slice A_m ml.length c_m) := blk_cell (G.out.k 7 rfl) 1; (try clear hc_T0); have hc_T0 : w'.cell? ⟨g_T, 0, none⟩ = some (.int .i64 tn) := blk_cell (G.out.k 9 rfl) 0; (try clear hc_T1); have hc_T1 : w'.cell? ⟨g_T, 1, none⟩ = some (.slice A_t tl.length c_t) := blk_cell (G.out.k 9 rfl) 1; (try clear hc_L0); have hc_L0 : w'.cell? ⟨g_L, 0, none⟩ = some (.int .i64 ln) := blk_cell (G.out.k 11 rfl) 0; (try clear hc_L1); have hc_L1 : w'.cell? ⟨g_L, 1, none⟩ = some (.slice A_l ll.length c_l) := blk_cell (G.out.k 11 rfl) 1; have tok8 := Aside0.mk True.intro))
  clear y1_ y3_ y4_ H1 H2 H3 H4 H5 H6 H7 H8
  have G2 := Aside0.mk (show Bag w _ [Ent.of (Kd.int .i64) A_q c_q q, Ent.of (Kd.int .i64) A_p c_p p, Ent.of (Kd.int .i64) A_l c_l ll, Ent.blk g_L (.cells #[.int .i64 ln, .slice A_l ll.length c_l] 26 (0, 0))] from by first | exact G.out.pick [3, 5, 10, 11] | exact (G.out.step (by repeat (first | exact Below.refl _ _ | apply pw_below_drewN | apply below_drew1 | apply below_alloc))).pick [3, 5, 10, 11])
  clear G
  have G := G2
  clear G2
  try clear hc_L0 hc_L1 hc_T0 hc_T1 hc_M0 hc_M1 hc_Y0 hc_Y1
  go_wp2
  go_loopg [198] p.length (fun kq v198 w' => ∃ i : Nat, v198 = .int .i64 (i : Int) ∧ Aside0 (i + kq = p.length) ∧ Aside0 (Bag w w' [Ent.of (Kd.int .i64) A_q c_q q, Ent.of (Kd.int .i64) A_p c_p p, Ent.of (Kd.int .i64) A_l c_l ll, Ent.blk g_L (.cells #[.int .i64 ln, .slice A_l ll.length c_l] 26 (0, 0))]))
  case atStart => exact ⟨0, rfl, ⟨by omega⟩, ⟨by first | exact G.out | exact (G.out.step (by repeat (first | exact Below.refl _ _ | apply pw_below_drewN | apply below_drew1 | apply below_alloc)))⟩⟩
  case round =>
    clear G
    obtain ⟨i, rfl, HI, G⟩ := hrel
    cases gk with
    | zero =>
      obtain ⟨ct, ct2⟩ := lc_end _ _ HI.out
      go_wp2
      refine Met.intro (hJ _ _ (LcR.mk A1 c1 l1 w (by first | exact G.out.pick [] | exact (G.out.step (by repeat (first | exact Below.refl _ _ | apply pw_below_drewN | apply below_drew1 | apply below_alloc))).pick []) (by kernel_rfl)))
    | succ k1_ =>
      obtain ⟨ji, hj1, w1_, w2_, HJN, hin, ct, ct2, p1_, q1_⟩ := lc_step _ _ _ (by have := HNP.out; omega) HI.out
      have HJ1 := Aside0.mk hj1
      have HJN := Aside0.mk HJN
      obtain ⟨x0, x1, hy⟩ := HM.out i hin
      obtain ⟨j, n1, jj, y, hjj, hje, hye, hjl, w3_, w4_, w5_, w6_, w7_, w8_, hjt, p2_, q2_⟩ := lc_mir p.length i (rd p (i : Int)) ln HNP.out.2.2.1 HNP.out.1 HNP.out.2.1 hin x0 x1
      rw [← hje, ← hye, hjj] at hy
      obtain ⟨adp, e1, hp⟩ := int_at (G.out.c 1 rfl) i hin
      obtain ⟨adq, e2, hq⟩ := int_at (G.out.c 0 rfl) j (by rw [HNP.out.2.2.2]; exact hjl)
      rw [hy] at hq
      have q3_ : (jj < (q.length : Int)) = True := by rw [HNP.out.2.2.2]; exact q2_
      have q4_ : (i < p.length) = True := eq_true hin
      subst e1
      subst e2
      have hl0 : wr.cell? ⟨g_L, 0, none⟩ = some (.int .i64 ln) := blk_cell (G.out.k 3 rfl) 0
      have y1_ : (y != y) = false := by simp
      obtain ⟨x, hx⟩ : ∃ x_, x_ = rd p (i : Int) := ⟨_, rfl⟩
      rw [← hx] at hp w7_ w8_
      clear hj1 hin x0 x1 hy hjj hje hye hjl hx
      go_upto_region 23 with (fail)
      go_region_held3 (fun w' => w'.cell? ⟨g_L, 0, none⟩ = some (.int .i64 ln) ∧ w'.cell? (adq.add j) = some (.int .i64 y)) (exact ⟨hl0, hq⟩) (fail)
      go_wp2
      go_roundg k1_
      case measure => omega
      case rel => exact ⟨i + 1, by rw [← HJ1.out], HJN, ⟨(G.out.step (by repeat (first | exact Below.refl _ _ | apply pw_below_drewN | apply below_drew1 | apply below_alloc))).pick [0, 1, 2, 3]⟩⟩

end
end Go.Proofs.YtlmiiijjjcddkaaGreatDoor.PLg
