-- Written for this claim by a program of this session (myprint.py) over the kit's printer.
import Derived.Test.YtlmiiijjjcddkaaGreatDoorWalkFnLaddersChangedD
import Derived.Test.YtlmiiijjjcddkaaGreatDoorPLgx0
import Derived.Deep.RegionHeld3
namespace Go.Proofs.YtlmiiijjjcddkaaGreatDoor.PLg
noncomputable section
open Go.RowKit Go.Proofs.YtlmiiijjjcddkaaGreatDoorW.PrintWords Go.Proofs.YtlmiiijjjcddkaaGreatDoorW.PrintLast Go.Proofs.YtlmiiijjjcddkaaGreatDoorW.PrintMore
attribute [local go_sem] max2_int min2_int max_two min_two max_three min_three max_four min_four   -- for this text's walks alone
set_option linter.unusedVariables false
set_option linter.unusedSimpArgs false


set_option maxHeartbeats 16000000 in
set_option maxRecDepth 1000000 in
theorem lc_c299 (q0 q2 q3 q4 q5 q6 q7 q8 q9 qa qb qc qd qe qf qg qh qi qj qk ql qm qn qo qp qq qr qs qt qu qv qw qx qy qD qE qF qG qH qI qJ qK qL qM qN qO qP qQ qR qS qT qU qV qW qX qY qZ x0 x1 x2 x3 x4 x5 x6 x7 x8 x9 xa xb xc xd xe xf xg xh xi xj xk xl xm xn xo xp xq xr xs xt xu xv xw xx xy xz xA xB xC xD xE xF xG xH xI xJ xK xL xM xN xO xP xQ xR xS xT xU xV xW xX xY xZ y0 y1 y2 y3 y4 y5 y6 y7 y8 y9 ya yb yc yd ye yf yg yh yi yj yk yl ym yn yo yp yq yr ys yt yu yv yw yx yy yz yA yB yC yD yE yF yG yH yI yJ yK yL yM yN yO yP yQ yR yS yT yU yV yW yX yY yZ z0 z1 z2 z3 z4 z5 z6 z7 z8 z9 za zb zc zd ze zf zg zh zi zj zk zl zm zn zo zp zq zr zs zt zu zv zw zx zy zz zA zB zC zD zE zF zG zH zI zJ zK zL zM zN zO zP zQ zR zS zT zU zV zW zX zY zZ j0 j1 j2 j3 j4 j5 j6 j7 j8 j9 ja jb jc jd je jf jg jh ji jj jk jl jm jn jo jp jq jr js jt ju jv jw jx jy jz jA jB jC jD jE jF jG jH jI jJ jK jL jM jN jO jQ jR jS jT jU jV jW jX jY jZ v0 v1 v2 v3 v4 v5 v6 v7 v8 v9 va vb vc vd ve vf vg vh vi vj vk vl vm vn vo vp vq vr vs vt vu vv vw vx vy vz vA vB vC vD vE vF vG vH vI vJ vK vL vM vN vO vP vQ vR vS vT vU vV vW vX vY vZ u0 u1 u2 u3 u4 u5 u6 u7 u8 u9 ua ub uc ud ue uf ug uh ui uj uk ul um un uo up uq ur us ut uu uv uw ux uy uz uA uB uC uD : Value) (A1 : Option Addr) (c1 : Nat) (l1 : List Int) (g_B : Nat) (bn : Int) (bl : List Int) (A_b : Option Addr) (c_b : Nat) (kk : Int) (g_E : Nat) (en : Int) (el : List Int) (A_e : Option Addr) (c_e : Nat) (w : World) (wc : World) (J K : Act → World → Prop) (Q' : Exit → Act → World → Prop) (hJ : ∀ a' w', LcR A1 c1 l1 w a' w' → J a' w') (hK : ∀ a' w', Met J a' w' → K a' w') (G : Aside0 (Bag w wc [Ent.of (Kd.int .i64) A_e c_e el, Ent.blk g_E (.cells #[.int .i64 en, .slice A_e el.length c_e] 26 (0, 0)), Ent.of (Kd.int .i64) A_b c_b bl, Ent.blk g_B (.cells #[.int .i64 bn, .slice A_b bl.length c_b] 26 (0, 0))])) (HS : Aside0 (LcSeven bn bl kk en el)) :
    Code.wp Tryz.prog lc_if299 (Exit.then K Q') ⟨#[q0, .slice A1 l1.length c1, q2, q3, q4, q5, q6, q7, q8, q9, qa, qb, qc, qd, qe, qf, qg, qh, qi, qj, qk, ql, qm, qn, qo, qp, qq, qr, qs, qt, qu, qv, qw, qx, qy, .pointer (some ⟨g_B, 0, none⟩), .int .i64 kk, .pointer (some ⟨g_E, 0, none⟩), .bool true, qD, qE, qF, qG, qH, qI, qJ, qK, qL, qM, qN, qO, qP, qQ, qR, qS, qT, qU, qV, qW, qX, qY, qZ, x0, x1, x2, x3, x4, x5, x6, x7, x8, x9, xa, xb, xc, xd, xe, xf, xg, xh, xi, xj, xk, xl, xm, xn, xo, xp, xq, xr, xs, xt, xu, xv, xw, xx, xy, xz, xA, xB, xC, xD, xE, xF, xG, xH, xI, xJ, xK, xL, xM, xN, xO, xP, xQ, xR, xS, xT, xU, xV, xW, xX, xY, xZ, y0, y1, y2, y3, y4, y5, y6, y7, y8, y9, ya, yb, yc, yd, ye, yf, yg, yh, yi, yj, yk, yl, ym, yn, yo, yp, yq, yr, ys, yt, yu, yv, yw, yx, yy, yz, yA, yB, yC, yD, yE, yF, yG, yH, yI, yJ, yK, yL, yM, yN, yO, yP, yQ, yR, yS, yT, yU, yV, yW, yX, yY, yZ, z0, z1, z2, z3, z4, z5, z6, z7, z8, z9, za, zb, zc, zd, ze, zf, zg, zh, zi, zj, zk, zl, zm, zn, zo, zp, zq, zr, zs, zt, zu, zv, zw, zx, zy, zz, zA, zB, zC, zD, zE, zF, zG, zH, zI, zJ, zK, zL, zM, zN, zO, zP, zQ, zR, zS, zT, zU, zV, zW, zX, zY, zZ, j0, j1, j2, j3, j4, j5, j6, j7, j8, j9, ja, jb, jc, jd, je, jf, jg, jh, ji, jj, jk, jl, jm, jn, jo, jp, jq, jr, js, jt, ju, jv, jw, jx, jy, jz, jA, jB, jC, jD, jE, jF, jG, jH, jI, jJ, jK, jL, jM, jN, jO, .bool true, jQ, jR, jS, jT, jU, jV, jW, jX, jY, jZ, v0, v1, v2, v3, v4, v5, v6, v7, v8, v9, va, vb, vc, vd, ve, vf, vg, vh, vi, vj, vk, vl, vm, vn, vo, vp, vq, vr, vs, vt, vu, vv, vw, vx, vy, vz, vA, vB, vC, vD, vE, vF, vG, vH, vI, vJ, vK, vL, vM, vN, vO, vP, vQ, vR, vS, vT, vU, vV, vW, vX, vY, vZ, u0, u1, u2, u3, u4, u5, u6, u7, u8, u9, ua, ub, uc, ud, ue, uf, ug, uh, ui, uj, uk, ul, um, un, uo, up, uq, ur, us, ut, uu, uv, uw, ux, uy, uz, uA, uB, uC, uD], []⟩ wc := by
  conv => arg 2; whnf
  have hu26 := Tryz.underlying26
  have tok0 := Aside0.mk True.intro
  obtain ⟨i, rfl, hi, ⟨k1, h1⟩, h2⟩ := HS.out
  clear HS
  have H1 := Aside0.mk h1
  clear h1
  obtain ⟨k_h2, x_h2⟩ := h2
  have H2 := Aside0.mk x_h2
  clear x_h2
  skip
  obtain ⟨ad, e1, hx⟩ := int_at (G.out.c 2 rfl) i hi
  subst e1
  have G2 := Aside0.mk (G.out.addc hx)
  clear G
  have G := G2
  clear G2 hx
  go_upto_region 39 with (fail)
  refine wp_cut (LcX3 A1 c1 l1 g_B bn bl (some ad) c_b w) ?_ ?_
  · intro a' w' h
    clear G
    obtain ⟨g_G, A_g, c_g, f, G, rfl⟩ := h
    rename ∀ (a : Act) (w : World), Code.wp _ _ _ a w → _ => aK
    refine aK _ _ ?_
    clear aK
    dsimp only [LcXFr]
    (try clear hc_G0)
    have hc_G0 : w'.cell? ⟨g_G, 0, none⟩ = some (.int .i64 bn) := blk_cell (G.out.k 1 rfl) 0
    (try clear hc_G1)
    have hc_G1 : w'.cell? ⟨g_G, 1, none⟩ = some (.slice A_g bl.length c_g) := blk_cell (G.out.k 1 rfl) 1
    (try clear hc_B0)
    have hc_B0 : w'.cell? ⟨g_B, 0, none⟩ = some (.int .i64 bn) := blk_cell (G.out.k 3 rfl) 0
    (try clear hc_B1)
    have hc_B1 : w'.cell? ⟨g_B, 1, none⟩ = some (.slice (some ad) bl.length c_b) := blk_cell (G.out.k 3 rfl) 1
    have tok0 := Aside0.mk True.intro
    go_wp2_with (first | (go_at_call 13; have tk_ := tok0; clear tk_ tok0; (with_reducible refine (laws_kLadder.calls _ (bn) _ _ (bl) (bn) _ _ (bl) _ _ ?sd0_ ?sd1_ ?sd2_ ?sd3_ H2.out).mono ?_); (case sd0_ => repeat (first | exact G.out.c 0 rfl | (with_reducible refine Kd.C_drewN ?_ _) | (with_reducible refine Kd.C_drew ?_))); (case sd1_ => exact G.out.l 0 rfl); (case sd2_ => repeat (first | exact G.out.c 2 rfl | (with_reducible refine Kd.C_drewN ?_ _) | (with_reducible refine Kd.C_drew ?_))); (case sd3_ => exact G.out.l 2 rfl); rintro e w' ⟨rfl, hb⟩; replace G := Aside0.mk (G.out.step hb); clear hb; (try clear hc_G0); have hc_G0 : w'.cell? ⟨g_G, 0, none⟩ = some (.int .i64 bn) := blk_cell (G.out.k 1 rfl) 0; (try clear hc_G1); have hc_G1 : w'.cell? ⟨g_G, 1, none⟩ = some (.slice A_g bl.length c_g) := blk_cell (G.out.k 1 rfl) 1; (try clear hc_B0); have hc_B0 : w'.cell? ⟨g_B, 0, none⟩ = some (.int .i64 bn) := blk_cell (G.out.k 3 rfl) 0; (try clear hc_B1); have hc_B1 : w'.cell? ⟨g_B, 1, none⟩ = some (.slice (some ad) bl.length c_b) := blk_cell (G.out.k 3 rfl) 1; have tok1 := Aside0.mk True.intro))
    refine Met.intro (hJ _ _ (LcR.mk A1 c1 l1 w (by first | exact G.out.pick [] | exact (G.out.step (by repeat (first | exact Below.refl _ _ | apply pw_below_drewN | apply below_drew1 | apply below_alloc))).pick []) (by kernel_rfl)))
  · intro J2 K2 hJ2 hK2
    exact lc_r39 _ _ _ _ _ _ _ _ _ _ _ _ _ _ _ _ _ _ _ _ _ _ _ _ _ _ _ _ _ _ _ _ _ _ _ _ _ _ _ _ _ _ _ _ _ _ _ _ _ _ _ _ _ _ _ _ _ _ _ _ _ _ _ _ _ _ _ _ _ _ _ _ _ _ _ _ _ _ _ _ _ _ _ _ _ _ _ _ _ _ _ _ _ _ _ _ _ _ _ _ _ _ _ _ _ _ _ _ _ _ _ _ _ _ _ _ _ _ _ _ _ _ _ _ _ _ _ _ _ _ _ _ _ _ _ _ _ _ _ _ _ _ _ _ _ _ _ _ _ _ _ _ _ _ _ _ _ _ _ _ _ _ _ _ _ _ _ _ _ _ _ _ _ _ _ _ _ _ _ _ _ _ _ _ _ _ _ _ _ _ _ _ _ _ _ _ _ _ _ _ _ _ _ _ _ _ _ _ _ _ _ _ _ _ _ _ _ _ _ _ _ _ _ _ _ _ _ _ _ _ _ _ _ _ _ _ _ _ _ _ _ _ _ _ _ _ _ _ _ _ _ _ _ _ _ _ _ _ _ _ _ _ _ _ _ _ _ _ _ _ _ _ _ _ _ _ _ _ _ _ _ _ _ _ _ _ _ _ _ _ _ _ _ _ _ _ _ _ _ _ _ _ _ _ _ _ _ _ _ _ _ _ _ _ _ _ _ _ _ _ _ _ _ _ _ _ _ _ _ _ _ _ _ _ _ _ _ _ _ _ _ _ _ _ _ _ _ _ _ _ _ _ _ _ _ _ _ _ _ _ _ _ _ _ _ _ _ _ _ _ _ _ _ _ _ _ _ _ _ _ _ _ _ _ _ _ _ _ _ _ _ _ _ _ _ _ _ _ _ _ _ _ _ _ _ _ _ _ A1 c1 l1 g_B bn bl c_b w _ g_E en el A_e c_e ad i k1 _ J2 K2 _ hJ2 hK2 G hi H1

end
end Go.Proofs.YtlmiiijjjcddkaaGreatDoor.PLg
