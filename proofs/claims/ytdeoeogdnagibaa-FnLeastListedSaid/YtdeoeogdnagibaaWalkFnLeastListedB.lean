-- Written for this claim by a program of this session (myprint.py) over the kit's printer.
import Derived.Test.YtdeoeogdnagibaaWalkFnLeastListedA
import Derived.Test.YtdeoeogdnagibaaPLix0
import Derived.Deep.RegionHeld3
namespace Go.Proofs.Ytdeoeogdnagibaa.PLi
noncomputable section
open Go.RowKit Go.Proofs.YtdeoeogdnagibaaW.PrintWords Go.Proofs.YtdeoeogdnagibaaW.PrintLast Go.Proofs.YtdeoeogdnagibaaW.PrintMore
attribute [local go_sem] max2_int min2_int max_two min_two max_three min_three max_four min_four   -- for this text's walks alone
set_option linter.unusedVariables false
set_option linter.unusedSimpArgs false


def Ent.cel (x : Addr) (v : Value) : Ent := ⟨fun w => w.cell? x = some v, True, fun _ _ h hb => pw_cell_below hb h⟩
theorem Bag.cl {w0 w : World} {L : List Ent} (h : Bag w0 w L) (i : Nat) {x : Addr} {v : Value} (hi : L[i]? = some (Ent.cel x v)) : w.cell? x = some v := (h.out.2 _ (List.mem_of_getElem? hi)).1
theorem Bag.addc {w0 w : World} {L : List Ent} (h : Bag w0 w L) {x : Addr} {v : Value} (hc : w.cell? x = some v) : Bag w0 w (Ent.cel x v :: L) := ⟨h.out.1, fun r hr => by
 rcases List.mem_cons.1 hr with rfl | hr
 ·exact ⟨hc, trivial⟩
 ·exact h.out.2 r hr⟩
set_option maxRecDepth 1000000 in
def FlKFr (A1 : Option Addr) (c1 : Nat) (l1 : List Int) (cnt : Int) (p : List Int) (A_p : Option Addr) (c_p : Nat) (w : World) (f : Nat → Value) : Act := ⟨#[f 0, .slice A1 l1.length c1, f 2, f 3, f 4, .slice A_p p.length c_p, f 6, f 7, f 8, f 9, .int .i64 cnt, f 11, f 12, f 13, f 14, f 15, f 16, f 17, f 18, f 19, f 20, f 21, f 22, f 23, f 24, f 25, f 26, f 27, f 28, f 29, f 30, f 31, f 32, f 33, f 34, f 35, f 36, f 37, f 38, f 39, f 40, f 41, f 42, f 43, f 44, f 45, f 46, f 47, f 48, f 49, f 50, f 51, f 52, f 53, f 54, f 55, f 56, f 57, f 58, f 59, f 60, f 61, f 62, f 63, f 64, f 65, f 66, f 67, f 68, f 69, f 70, f 71, f 72, f 73, f 74, f 75, f 76, f 77, f 78, f 79, f 80, f 81, f 82, f 83, f 84, f 85, f 86, f 87, f 88, f 89, f 90, f 91, f 92, f 93, f 94, f 95, f 96, f 97, f 98, f 99, f 100, f 101, f 102, f 103, f 104, f 105, f 106, f 107, f 108, f 109, f 110, f 111, f 112, f 113, f 114, f 115, f 116, f 117, f 118, f 119, f 120, f 121, f 122, f 123, f 124, f 125, f 126, f 127, f 128, f 129, f 130, f 131, f 132, f 133, f 134, f 135, f 136, f 137, f 138, f 139, f 140, f 141, f 142, f 143, f 144, f 145, f 146, f 147, f 148, f 149, f 150, f 151, f 152, f 153, f 154, f 155, f 156, f 157, f 158, f 159, f 160, f 161, f 162, f 163, f 164, f 165, f 166, f 167, f 168, f 169, f 170, f 171, f 172, f 173, f 174, f 175, f 176, f 177, f 178, f 179, f 180, f 181, f 182, f 183, f 184, f 185, f 186, f 187, f 188, f 189, f 190, f 191, f 192, f 193, f 194, f 195, f 196, f 197, f 198, f 199, f 200, f 201, f 202, f 203, f 204, f 205, f 206, f 207, f 208, f 209, f 210, f 211, f 212, f 213, f 214, f 215, f 216, f 217, f 218, f 219, f 220, f 221, f 222, f 223, f 224, f 225, f 226, f 227, f 228, f 229, f 230, f 231, f 232, f 233, f 234, f 235, f 236, f 237, f 238, f 239, f 240, f 241, f 242, f 243, f 244, f 245, f 246, f 247, f 248, f 249, f 250, f 251, f 252, f 253, f 254, f 255, f 256, f 257, f 258, f 259, f 260, f 261, f 262, f 263, f 264, f 265, f 266, f 267, f 268, f 269, f 270, f 271, f 272, f 273, f 274, f 275, f 276, f 277, f 278, f 279, f 280, f 281, f 282, f 283, f 284, f 285, f 286, f 287, f 288, f 289, f 290, f 291, f 292, f 293, f 294, f 295, f 296, f 297, f 298, f 299, f 300, f 301, f 302, f 303, f 304, f 305, f 306, f 307, f 308, f 309, f 310, f 311, f 312, f 313, f 314, f 315, f 316, f 317, f 318, f 319, f 320, f 321, f 322, f 323, f 324, f 325, f 326, f 327, f 328, f 329, f 330, f 331, f 332, f 333, f 334, f 335, f 336, f 337, f 338, f 339, f 340, f 341, f 342, f 343, f 344, f 345, f 346, f 347, f 348, f 349, f 350, f 351, f 352, f 353, f 354, f 355, f 356, f 357, f 358, f 359, f 360, f 361, f 362, f 363, f 364, f 365, f 366, f 367, f 368, f 369, f 370, f 371, f 372, f 373, f 374, f 375, f 376, f 377, f 378, f 379, f 380, f 381, f 382, f 383, f 384, f 385, f 386, f 387, f 388, f 389, f 390, f 391, f 392, f 393, f 394, f 395, f 396], []⟩
def FlK (A1 : Option Addr) (c1 : Nat) (l1 : List Int) (cnt : Int) (p : List Int) (A_p : Option Addr) (c_p : Nat) (w : World) (a' : Act) (w' : World) : Prop := ∃ f : Nat → Value, Aside0 (Bag w w' [Ent.of (Kd.int .i64) A_p c_p p]) ∧ a' = FlKFr A1 c1 l1 cnt p A_p c_p w f
set_option maxRecDepth 1000000 in
theorem FlK.mk (A1 : Option Addr) (c1 : Nat) (l1 : List Int) (cnt : Int) (p : List Int) (A_p : Option Addr) (c_p : Nat) (w : World) {w' : World} {L : List Value} (h : Bag w w' [Ent.of (Kd.int .i64) A_p c_p p]) (e : (⟨L.toArray, []⟩ : Act) = FlKFr A1 c1 l1 cnt p A_p c_p w (fun i => L.getD i .nilIface)) : FlK A1 c1 l1 cnt p A_p c_p w ⟨L.toArray, []⟩ w' := ⟨_, ⟨h⟩, e⟩
set_option maxHeartbeats 16000000 in
set_option maxRecDepth 1000000 in
theorem fl_c166 (q0 q2 q3 q4 q7 q8 q9 qb qc qd qe qg qh qi qj qk ql qm qn qo qp qq qr qs qt qu qv qw qx qy qz qA qB qC qD qE qF qG qH qI qJ qK qL qM qN qO qP qQ qR qS qT qU qV qW qX qY qZ x0 x1 x2 x3 x4 x5 x6 x7 x8 x9 xa xb xc xd xe xf xg xh xi xj xk xl xm xn xo xp xq xr xs xt xu xv xw xx xy xz xA xB xC xD xE xF xG xH xI xJ xK xL xM xN xO xP xQ xR xS xT xU xV xW xX xY xZ y0 y1 y2 y3 y4 y5 y6 y7 y8 y9 ya yb yc yd ye yf yg yh yi yj yk yl ym yn yo yp yq yr ys yt yu yv yw yx yy yz yA yB yC yD yE yF yH yI yJ yK yL yM yN yO yP yQ yR yS yT yU yV yW yX yY yZ z0 z1 z2 z3 z4 z5 z6 z7 z8 z9 za zb zc zd ze zf zg zh zi zj zk zl zm zn zo zp zq zr zs zt zu zv zw zx zy zz zA zB zC zD zE zF zG zH zI zJ zK zL zM zN zO zP zQ zR zS zT zU zV zW zX zY zZ j0 j1 j2 j3 j4 j5 j6 j7 j8 j9 ja jb jc jd je jf jg jh ji jj jk jl jm jn jo jp jq jr js jt ju jv jw jx jy jz jA jB jC jD jE jF jG jH jI jJ jK jL jM jN jO jP jQ jR jS jT jU jV jW jX jY jZ v0 v1 v2 v3 v4 v5 v6 v7 v8 v9 va vb vc vd ve vf vg vh vi vj vk vl vm vn vo vp vq vr vs vt vu vv vw vx vy vz vA vB vC vD vE vF vG vH vI vJ vK vL vM vN vO vP vQ vR vS vT vU vV vW vX vY vZ u0 u1 u2 u3 u4 u5 u6 u7 u8 u9 ua ub uc ud ue uf ug uh ui uj uk ul um un uo : Value) (A1 : Option Addr) (c1 : Nat) (l1 : List Int) (cnt : Int) (p : List Int) (A_p : Option Addr) (c_p : Nat) (w : World) (wc : World) (al : List S34) (A_a : Option Addr) (c_a : Nat) (inv : Int) (J K : Act → World → Prop) (Q' : Exit → Act → World → Prop) (hJ : ∀ a' w', FlK A1 c1 l1 cnt p A_p c_p w a' w' → J a' w') (hK : ∀ a' w', Met J a' w' → K a' w') (G : Aside0 (Bag w wc [Ent.of k34 A_a c_a al, Ent.of (Kd.int .i64) A_p c_p p])) (HO : Aside0 (FlOk p al cnt inv)) :
    Code.wp Try.prog fl_if166 (Exit.then K Q') ⟨#[q0, .slice A1 l1.length c1, q2, q3, q4, .slice A_p p.length c_p, .slice A_a al.length c_a, q7, q8, q9, .int .i64 cnt, qb, qc, qd, qe, .int .i64 inv, qg, qh, qi, qj, qk, ql, qm, qn, qo, qp, qq, qr, qs, qt, qu, qv, qw, qx, qy, qz, qA, qB, qC, qD, qE, qF, qG, qH, qI, qJ, qK, qL, qM, qN, qO, qP, qQ, qR, qS, qT, qU, qV, qW, qX, qY, qZ, x0, x1, x2, x3, x4, x5, x6, x7, x8, x9, xa, xb, xc, xd, xe, xf, xg, xh, xi, xj, xk, xl, xm, xn, xo, xp, xq, xr, xs, xt, xu, xv, xw, xx, xy, xz, xA, xB, xC, xD, xE, xF, xG, xH, xI, xJ, xK, xL, xM, xN, xO, xP, xQ, xR, xS, xT, xU, xV, xW, xX, xY, xZ, y0, y1, y2, y3, y4, y5, y6, y7, y8, y9, ya, yb, yc, yd, ye, yf, yg, yh, yi, yj, yk, yl, ym, yn, yo, yp, yq, yr, ys, yt, yu, yv, yw, yx, yy, yz, yA, yB, yC, yD, yE, yF, .bool true, yH, yI, yJ, yK, yL, yM, yN, yO, yP, yQ, yR, yS, yT, yU, yV, yW, yX, yY, yZ, z0, z1, z2, z3, z4, z5, z6, z7, z8, z9, za, zb, zc, zd, ze, zf, zg, zh, zi, zj, zk, zl, zm, zn, zo, zp, zq, zr, zs, zt, zu, zv, zw, zx, zy, zz, zA, zB, zC, zD, zE, zF, zG, zH, zI, zJ, zK, zL, zM, zN, zO, zP, zQ, zR, zS, zT, zU, zV, zW, zX, zY, zZ, j0, j1, j2, j3, j4, j5, j6, j7, j8, j9, ja, jb, jc, jd, je, jf, jg, jh, ji, jj, jk, jl, jm, jn, jo, jp, jq, jr, js, jt, ju, jv, jw, jx, jy, jz, jA, jB, jC, jD, jE, jF, jG, jH, jI, jJ, jK, jL, jM, jN, jO, jP, jQ, jR, jS, jT, jU, jV, jW, jX, jY, jZ, v0, v1, v2, v3, v4, v5, v6, v7, v8, v9, va, vb, vc, vd, ve, vf, vg, vh, vi, vj, vk, vl, vm, vn, vo, vp, vq, vr, vs, vt, vu, vv, vw, vx, vy, vz, vA, vB, vC, vD, vE, vF, vG, vH, vI, vJ, vK, vL, vM, vN, vO, vP, vQ, vR, vS, vT, vU, vV, vW, vX, vY, vZ, u0, u1, u2, u3, u4, u5, u6, u7, u8, u9, ua, ub, uc, ud, ue, uf, ug, uh, ui, uj, uk, ul, um, un, uo], []⟩ wc := by
  conv => arg 2; whnf
  have hu40 := Try.underlying34
  have tok0 := Aside0.mk True.intro
  obtain ⟨rfl, hl0, hl1, hel, n0, r0, hq0, h40, h41⟩ := HO.out
  have HL0 := Aside0.mk hl0
  have HL1 := Aside0.mk hl1
  have HEL := Aside0.mk hel
  have HQ0 := Aside0.mk hq0
  have H40 := Aside0.mk h40
  have H41 := Aside0.mk h41
  clear HO hl0 hl1 hel hq0 h40 h41
  have z0_ : (((al.length : Nat) : Int) != ((al.length : Nat) : Int)) = false := by simp
  go_wp2
  clear z0_
  go_loopg [173] al.length (fun kq v173 w' => ∃ i : Nat, v173 = .int .i64 (i : Int) ∧ Aside0 (i + kq = al.length) ∧ Aside0 (Bag w w' [Ent.of k34 A_a c_a al, Ent.of (Kd.int .i64) A_p c_p p]))
  case atStart => exact ⟨0, rfl, ⟨by omega⟩, G⟩
  case round =>
    clear G
    obtain ⟨i, rfl, HI, G⟩ := hrel
    cases gk with
    | zero =>
      obtain ⟨ct, ct2⟩ := fl_end _ _ HI.out
      have h40 := H40.out
      have h41 := H41.out
      obtain ⟨k_h40, x_h40⟩ := h40
      have H40 := Aside0.mk x_h40
      clear x_h40
      obtain ⟨k_h41, x_h41⟩ := h41
      have H41 := Aside0.mk x_h41
      clear x_h41
      skip
      have tok0 := Aside0.mk True.intro
      go_upto_region 39 with (first | (go_at_call 19; have tk_ := tok0; clear tk_ tok0; (with_reducible refine (impl_LeastLadder.calls _ _ _ (p) _ _ _ _ ?sd0_ ?sd1_ H40.out).mono ?_); (case sd0_ => repeat (first | exact G.out.c 1 rfl | (with_reducible refine Kd.C_drewN ?_ _) | (with_reducible refine Kd.C_drew ?_))); (case sd1_ => exact G.out.l 1 rfl); rintro e w' ⟨v1_, rfl, ho1, hb⟩; obtain ⟨A_f, c_f, e_⟩ := Kd.R_slice ho1; subst e_; replace G := Aside0.mk (G.out.addR hb ho1); clear ho1 hb; have tok1 := Aside0.mk True.intro))
      replace G := Aside0.mk (G.out.box (.cells #[.int .i64 n0, .slice A_f r0.length c_f] 34 (0, 0)))
      generalize World.alloc w' (.cells #[.int .i64 n0, .slice A_f r0.length c_f] 34 (0, 0)) = wb_BF at G ⊢
      generalize w'.heap.size = g_BF at G ⊢
      obtain ⟨ad, A_e, c_e, e1, hx0, hx1, hl, hC⟩ := fl_at (G.out.c 2 rfl) 0 HL0.out HQ0.out
      subst e1
      have G2 := Aside0.mk (G.out.has hC hl)
      clear G
      have G := G2
      clear G2 hC hl
      rw [Nat.zero_mul, Addr.add_zero'] at hx0 hx1
      have p1_ : ((0 : Int) < ((al.length : Nat) : Int)) = True := eq_true (by have := HL0.out; omega)
      have p2_ : (0 < al.length) = True := eq_true HL0.out
      have G2 := Aside0.mk ((G.out.addc hx0).addc hx1)
      clear G hx0 hx1
      have G := G2
      clear G2
      (try clear hc_BF0)
      have hc_BF0 : wb_BF.cell? ⟨g_BF, 0, none⟩ = some (.int .i64 n0) := blk_cell (G.out.k 3 rfl) 0
      (try clear hc_BF1)
      have hc_BF1 : wb_BF.cell? ⟨g_BF, 1, none⟩ = some (.slice A_f r0.length c_f) := blk_cell (G.out.k 3 rfl) 1
      go_region_held3 (fun w' => w'.cell? ⟨g_BF, 0, none⟩ = some (.int .i64 n0) ∧ w'.cell? ⟨g_BF, 1, none⟩ = some (.slice A_f r0.length c_f) ∧ w'.cell? ad = some (.int .i64 n0) ∧ w'.cell? ⟨ad.block, ad.off + 1, none⟩ = some (.slice A_e r0.length c_e)) (exact ⟨hc_BF0, hc_BF1, G.out.cl 1 rfl, G.out.cl 0 rfl⟩) (first | (go_at_call 18; have tk_ := tok1; clear tk_ tok1; (with_reducible refine (laws_nLadder.calls _ (n0) _ _ (r0) (n0) _ _ (r0) _ _ ?sd0_ ?sd1_ ?sd2_ ?sd3_ H41.out).mono ?_); (case sd0_ => repeat (first | exact G.out.c 4 rfl | (with_reducible refine Kd.C_drewN ?_ _) | (with_reducible refine Kd.C_drew ?_))); (case sd1_ => exact G.out.l 4 rfl); (case sd2_ => repeat (first | exact G.out.c 2 rfl | (with_reducible refine Kd.C_drewN ?_ _) | (with_reducible refine Kd.C_drew ?_))); (case sd3_ => exact G.out.l 2 rfl); rintro e w' ⟨rfl, hb⟩; (first | replace G := Aside0.mk (G.out.step hb) | replace G := Aside0.mk ((G.out.step (below_drew1 (Below.refl _ _))).step hb)); clear hb; (try clear hc_BF0); have hc_BF0 : w'.cell? ⟨g_BF, 0, none⟩ = some (.int .i64 n0) := blk_cell (G.out.k 3 rfl) 0; (try clear hc_BF1); have hc_BF1 : w'.cell? ⟨g_BF, 1, none⟩ = some (.slice A_f r0.length c_f) := blk_cell (G.out.k 3 rfl) 1; have tok2 := Aside0.mk True.intro))
      go_wp2
      refine Met.intro (hJ _ _ (FlK.mk A1 c1 l1 ((al.length : Nat) : Int) p A_p c_p w (by first | exact G.out.pick [6] | exact (G.out.step (by repeat (first | exact Below.refl _ _ | apply pw_below_drewN | apply below_drew1 | apply below_alloc))).pick [6]) (by kernel_rfl)))
    | succ k1_ =>
      obtain ⟨ji, hj1, w1_, w2_, HJN, hin, ct, ct2, p1_, q1_, p2_⟩ := fl_step _ _ _ HL1.out HI.out
      have HJ1 := Aside0.mk hj1
      have HJN := Aside0.mk HJN
      have HIN := Aside0.mk hin
      obtain ⟨n, r, hq, h50, h51, hri, hle, hra⟩ := HEL.out i hin
      subst hri
      have HLE := Aside0.mk hle
      have HRA := Aside0.mk hra
      obtain ⟨k_h50, x_h50⟩ := h50
      have H50 := Aside0.mk x_h50
      clear x_h50
      obtain ⟨k_h51, x_h51⟩ := h51
      have H51 := Aside0.mk x_h51
      clear x_h51
      obtain ⟨ad, A_x, c_x, e1, hx0, hx1, hl, hC⟩ := fl_at (G.out.c 0 rfl) i hin hq
      subst e1
      have G2 := Aside0.mk (G.out.has hC hl)
      clear G
      have G := G2
      clear G2 hC hl hj1 hle hra hq hin
      obtain ⟨w', ew_⟩ : ∃ x_, x_ = wr := ⟨_, rfl⟩
      subst ew_
      have tok0 := Aside0.mk True.intro
      go_upto_region 30 with (first | (go_at_call 13; have tk_ := tok0; clear tk_ tok0; replace G := Aside0.mk (G.out.box (.cells #[.int .i64 n, .slice A_x r.length c_x] 34 (0, 0))); generalize World.alloc w' (.cells #[.int .i64 n, .slice A_x r.length c_x] 34 (0, 0)) = wb_BX at G ⊢; generalize w'.heap.size = g_BX at G ⊢; obtain ⟨w', ew_⟩ : ∃ x_, x_ = wb_BX := ⟨_, rfl⟩; subst ew_; (with_reducible refine (impl_ResultOf.calls _ (n) _ _ (r) _ _ _ ?sd0_ ?sd1_ H50.out).mono ?_); (case sd0_ => repeat (first | exact G.out.c 1 rfl | (with_reducible refine Kd.C_drewN ?_ _) | (with_reducible refine Kd.C_drew ?_))); (case sd1_ => exact G.out.l 1 rfl); rintro e w' ⟨v0_, rfl, ho0, hb⟩; obtain ⟨A_v, c_v, e_⟩ := Kd.R_slice ho0; subst e_; replace G := Aside0.mk (G.out.addR hb ho0); clear ho0 hb; (try clear hc_BX0); have hc_BX0 : w'.cell? ⟨g_BX, 0, none⟩ = some (.int .i64 n) := blk_cell (G.out.k 1 rfl) 0; (try clear hc_BX1); have hc_BX1 : w'.cell? ⟨g_BX, 1, none⟩ = some (.slice A_x r.length c_x) := blk_cell (G.out.k 1 rfl) 1; have tok1 := Aside0.mk True.intro))
      clear hx0 hx1
      obtain ⟨lm, hlm, w5_, w6_⟩ := fl_last al.length HL1.out
      have hlz : ((((r.length : Nat) : Int)) != ((r.length : Nat) : Int)) = false := by simp
      by_cases hi0 : i = 0
      case pos =>
        have cz : decide ((0 : Int) < (i : Int)) = false := decide_eq_false (by omega)
        have cz2 : decide (0 < i) = false := decide_eq_false (by omega)
        have cz3 : decide ((i : Int) > 0) = false := decide_eq_false (by omega)
        have cl1 : decide ((i : Int) < 3) = true := decide_eq_true (by omega)
        have cl2 : decide (i < 3) = true := decide_eq_true (by omega)
        have hsee : i < 3 ∨ (i : Int) = ((al.length : Nat) : Int) - 1 := .inl (by omega)
        clear hi0 hlm
        go_quiet (first | (go_at_call 14; exact Calls.quiet_of ((laws_nSame.calls _ _ _ (p) _ _ (p) _ _ (Kd.C_drewN (G.out.c 0 rfl) _) (G.out.l 0 rfl) (Kd.C_drewN (G.out.c 4 rfl) _) (G.out.l 4 rfl) H51.out).mono (fun _ _ h_ => ⟨h_.1, h_.2.out⟩))))
        skip
        obtain ⟨h60, h61, h62⟩ := HRA.out hsee
        have H60 := Aside0.mk h60
        have H61 := Aside0.mk h61
        obtain ⟨k_h62, x_h62⟩ := h62
        have H62 := Aside0.mk x_h62
        clear x_h62
        replace G := Aside0.mk (G.out.step (pw_below_drewN (Below.refl _ _) nq))
        generalize World.drewN w' nq = wq at G ⊢
        obtain ⟨w', ew_⟩ : ∃ x_, x_ = wq := ⟨_, rfl⟩
        subst ew_
        (try clear hc_BX0)
        have hc_BX0 : w'.cell? ⟨g_BX, 0, none⟩ = some (.int .i64 n) := blk_cell (G.out.k 1 rfl) 0
        (try clear hc_BX1)
        have hc_BX1 : w'.cell? ⟨g_BX, 1, none⟩ = some (.slice A_x r.length c_x) := blk_cell (G.out.k 1 rfl) 1
        go_wp2_with (first | (go_at_call 16; have tk_ := tok1; clear tk_ tok1; (with_reducible refine (impl_RankOfLeast.calls (n) _ _ (r) _ _ _ ?sd0_ ?sd1_ H60.out).mono ?_); (case sd0_ => repeat (first | exact G.out.c 2 rfl | (with_reducible refine Kd.C_drewN ?_ _) | (with_reducible refine Kd.C_drew ?_))); (case sd1_ => exact G.out.l 2 rfl); rintro e w' ⟨rfl, hb⟩; replace G := Aside0.mk (G.out.step hb); clear hb; (try clear hc_BX0); have hc_BX0 : w'.cell? ⟨g_BX, 0, none⟩ = some (.int .i64 n) := blk_cell (G.out.k 1 rfl) 0; (try clear hc_BX1); have hc_BX1 : w'.cell? ⟨g_BX, 1, none⟩ = some (.slice A_x r.length c_x) := blk_cell (G.out.k 1 rfl) 1; have tok2 := Aside0.mk True.intro) | (go_at_call 17; have tk_ := tok2; clear tk_ tok2; (with_reducible refine (impl_LeastOfRank.calls _ _ (p) ((i : Int)) _ _ _ _ ?sd0_ ?sd1_ H61.out).mono ?_); (case sd0_ => repeat (first | exact G.out.c 4 rfl | (with_reducible refine Kd.C_drewN ?_ _) | (with_reducible refine Kd.C_drew ?_))); (case sd1_ => exact G.out.l 4 rfl); rintro e w' ⟨v1_, rfl, ho1, hb⟩; obtain ⟨A_t, c_t, e_⟩ := Kd.R_slice ho1; subst e_; replace G := Aside0.mk (G.out.addR hb ho1); clear ho1 hb; (try clear hc_BX0); have hc_BX0 : w'.cell? ⟨g_BX, 0, none⟩ = some (.int .i64 n) := blk_cell (G.out.k 2 rfl) 0; (try clear hc_BX1); have hc_BX1 : w'.cell? ⟨g_BX, 1, none⟩ = some (.slice A_x r.length c_x) := blk_cell (G.out.k 2 rfl) 1; (try clear hd_BX0); have hd_BX0 : (w'.alloc (.cells #[.int .i64 n, .slice A_t r.length c_t] 34 (0, 0))).cell? ⟨g_BX, 0, none⟩ = some (.int .i64 n) := blk_cell (blk_alloc (G.out.k 2 rfl) (.cells #[.int .i64 n, .slice A_t r.length c_t] 34 (0, 0))) 0; (try clear hd_BX1); have hd_BX1 : (w'.alloc (.cells #[.int .i64 n, .slice A_t r.length c_t] 34 (0, 0))).cell? ⟨g_BX, 1, none⟩ = some (.slice A_x r.length c_x) := blk_cell (blk_alloc (G.out.k 2 rfl) (.cells #[.int .i64 n, .slice A_t r.length c_t] 34 (0, 0))) 1; have tok3 := Aside0.mk True.intro) | (go_at_call 18; have tk_ := tok3; clear tk_ tok3; replace G := Aside0.mk (G.out.box (.cells #[.int .i64 n, .slice A_t r.length c_t] 34 (0, 0))); generalize World.alloc w' (.cells #[.int .i64 n, .slice A_t r.length c_t] 34 (0, 0)) = wb_BT2 at G ⊢; generalize w'.heap.size = g_BT2 at G ⊢; obtain ⟨w', ew_⟩ : ∃ x_, x_ = wb_BT2 := ⟨_, rfl⟩; subst ew_; (with_reducible refine (laws_nLadder.calls _ (n) _ _ (r) (n) _ _ (r) _ _ ?sd0_ ?sd1_ ?sd2_ ?sd3_ H62.out).mono ?_); (case sd0_ => repeat (first | exact G.out.c 1 rfl | (with_reducible refine Kd.C_drewN ?_ _) | (with_reducible refine Kd.C_drew ?_))); (case sd1_ => exact G.out.l 1 rfl); (case sd2_ => repeat (first | exact G.out.c 4 rfl | (with_reducible refine Kd.C_drewN ?_ _) | (with_reducible refine Kd.C_drew ?_))); (case sd3_ => exact G.out.l 4 rfl); rintro e w' ⟨rfl, hb⟩; replace G := Aside0.mk (G.out.step hb); clear hb; (try clear hc_BT20); have hc_BT20 : w'.cell? ⟨g_BT2, 0, none⟩ = some (.int .i64 n) := blk_cell (G.out.k 0 rfl) 0; (try clear hc_BT21); have hc_BT21 : w'.cell? ⟨g_BT2, 1, none⟩ = some (.slice A_t r.length c_t) := blk_cell (G.out.k 0 rfl) 1; (try clear hc_BX0); have hc_BX0 : w'.cell? ⟨g_BX, 0, none⟩ = some (.int .i64 n) := blk_cell (G.out.k 3 rfl) 0; (try clear hc_BX1); have hc_BX1 : w'.cell? ⟨g_BX, 1, none⟩ = some (.slice A_x r.length c_x) := blk_cell (G.out.k 3 rfl) 1; have tok4 := Aside0.mk True.intro))
        go_roundg k1_
        case measure => omega
        case rel => exact ⟨i + 1, by rw [← HJ1.out], HJN, ⟨(G.out.step (by repeat (first | exact Below.refl _ _ | apply pw_below_drewN | apply below_drew1 | apply below_alloc))).pick [5, 6]⟩⟩
      case neg =>
        obtain ⟨n2, r2, hq2, h52⟩ := HLE.out (by omega)
        obtain ⟨k_h52, x_h52⟩ := h52
        have H52 := Aside0.mk x_h52
        clear x_h52
        obtain ⟨ad5, A_y, c_y, e5, hy0, hy1, hly, hCy⟩ := fl_at (G.out.c 3 rfl) (i - 1) (by have := HIN.out; omega) hq2
        obtain rfl : ad = ad5 := by injection e5
        obtain ⟨jp, hp1, hp2, w3_, w4_, p3_, q3_, cz, cz2, cz3⟩ := fl_prev i al.length HL1.out hi0 HIN.out
        rw [← hp2] at hy0 hy1
        have G2 := Aside0.mk (G.out.has hCy hly)
        clear G
        have G := G2
        clear G2 e5 hCy hly hp1 hp2 hq2 hi0
        by_cases hi3 : i < 3
        case pos =>
          have cl1 : decide ((i : Int) < 3) = true := decide_eq_true (by omega)
          have cl2 : decide (i < 3) = true := decide_eq_true hi3
          have hsee : i < 3 ∨ (i : Int) = ((al.length : Nat) : Int) - 1 := .inl hi3
          clear hi3 hlm
          go_quiet (first | (go_at_call 14; exact Calls.quiet_of ((laws_nSame.calls _ _ _ (p) _ _ (p) _ _ (Kd.C_drewN (G.out.c 1 rfl) _) (G.out.l 1 rfl) (Kd.C_drewN (G.out.c 5 rfl) _) (G.out.l 5 rfl) H51.out).mono (fun _ _ h_ => ⟨h_.1, h_.2.out⟩))) | (go_at_call 15; exact Calls.quiet_of ((laws_nLess.calls _ _ _ (r2) _ _ (r) _ _ (Kd.C_drewN (G.out.c 0 rfl) _) (G.out.l 0 rfl) (Kd.C_drewN (G.out.c 3 rfl) _) (G.out.l 3 rfl) H52.out).mono (fun _ _ h_ => ⟨h_.1, h_.2.out⟩))))
          skip
          obtain ⟨h60, h61, h62⟩ := HRA.out hsee
          have H60 := Aside0.mk h60
          have H61 := Aside0.mk h61
          obtain ⟨k_h62, x_h62⟩ := h62
          have H62 := Aside0.mk x_h62
          clear x_h62
          replace G := Aside0.mk (G.out.step (pw_below_drewN (Below.refl _ _) nq))
          generalize World.drewN w' nq = wq at G ⊢
          obtain ⟨w', ew_⟩ : ∃ x_, x_ = wq := ⟨_, rfl⟩
          subst ew_
          (try clear hc_BX0)
          have hc_BX0 : w'.cell? ⟨g_BX, 0, none⟩ = some (.int .i64 n) := blk_cell (G.out.k 2 rfl) 0
          (try clear hc_BX1)
          have hc_BX1 : w'.cell? ⟨g_BX, 1, none⟩ = some (.slice A_x r.length c_x) := blk_cell (G.out.k 2 rfl) 1
          go_wp2_with (first | (go_at_call 16; have tk_ := tok1; clear tk_ tok1; (with_reducible refine (impl_RankOfLeast.calls (n) _ _ (r) _ _ _ ?sd0_ ?sd1_ H60.out).mono ?_); (case sd0_ => repeat (first | exact G.out.c 3 rfl | (with_reducible refine Kd.C_drewN ?_ _) | (with_reducible refine Kd.C_drew ?_))); (case sd1_ => exact G.out.l 3 rfl); rintro e w' ⟨rfl, hb⟩; replace G := Aside0.mk (G.out.step hb); clear hb; (try clear hc_BX0); have hc_BX0 : w'.cell? ⟨g_BX, 0, none⟩ = some (.int .i64 n) := blk_cell (G.out.k 2 rfl) 0; (try clear hc_BX1); have hc_BX1 : w'.cell? ⟨g_BX, 1, none⟩ = some (.slice A_x r.length c_x) := blk_cell (G.out.k 2 rfl) 1; have tok2 := Aside0.mk True.intro) | (go_at_call 17; have tk_ := tok2; clear tk_ tok2; (with_reducible refine (impl_LeastOfRank.calls _ _ (p) ((i : Int)) _ _ _ _ ?sd0_ ?sd1_ H61.out).mono ?_); (case sd0_ => repeat (first | exact G.out.c 5 rfl | (with_reducible refine Kd.C_drewN ?_ _) | (with_reducible refine Kd.C_drew ?_))); (case sd1_ => exact G.out.l 5 rfl); rintro e w' ⟨v1_, rfl, ho1, hb⟩; obtain ⟨A_t, c_t, e_⟩ := Kd.R_slice ho1; subst e_; replace G := Aside0.mk (G.out.addR hb ho1); clear ho1 hb; (try clear hc_BX0); have hc_BX0 : w'.cell? ⟨g_BX, 0, none⟩ = some (.int .i64 n) := blk_cell (G.out.k 3 rfl) 0; (try clear hc_BX1); have hc_BX1 : w'.cell? ⟨g_BX, 1, none⟩ = some (.slice A_x r.length c_x) := blk_cell (G.out.k 3 rfl) 1; (try clear hd_BX0); have hd_BX0 : (w'.alloc (.cells #[.int .i64 n, .slice A_t r.length c_t] 34 (0, 0))).cell? ⟨g_BX, 0, none⟩ = some (.int .i64 n) := blk_cell (blk_alloc (G.out.k 3 rfl) (.cells #[.int .i64 n, .slice A_t r.length c_t] 34 (0, 0))) 0; (try clear hd_BX1); have hd_BX1 : (w'.alloc (.cells #[.int .i64 n, .slice A_t r.length c_t] 34 (0, 0))).cell? ⟨g_BX, 1, none⟩ = some (.slice A_x r.length c_x) := blk_cell (blk_alloc (G.out.k 3 rfl) (.cells #[.int .i64 n, .slice A_t r.length c_t] 34 (0, 0))) 1; have tok3 := Aside0.mk True.intro) | (go_at_call 18; have tk_ := tok3; clear tk_ tok3; replace G := Aside0.mk (G.out.box (.cells #[.int .i64 n, .slice A_t r.length c_t] 34 (0, 0))); generalize World.alloc w' (.cells #[.int .i64 n, .slice A_t r.length c_t] 34 (0, 0)) = wb_BT2 at G ⊢; generalize w'.heap.size = g_BT2 at G ⊢; obtain ⟨w', ew_⟩ : ∃ x_, x_ = wb_BT2 := ⟨_, rfl⟩; subst ew_; (with_reducible refine (laws_nLadder.calls _ (n) _ _ (r) (n) _ _ (r) _ _ ?sd0_ ?sd1_ ?sd2_ ?sd3_ H62.out).mono ?_); (case sd0_ => repeat (first | exact G.out.c 1 rfl | (with_reducible refine Kd.C_drewN ?_ _) | (with_reducible refine Kd.C_drew ?_))); (case sd1_ => exact G.out.l 1 rfl); (case sd2_ => repeat (first | exact G.out.c 5 rfl | (with_reducible refine Kd.C_drewN ?_ _) | (with_reducible refine Kd.C_drew ?_))); (case sd3_ => exact G.out.l 5 rfl); rintro e w' ⟨rfl, hb⟩; replace G := Aside0.mk (G.out.step hb); clear hb; (try clear hc_BT20); have hc_BT20 : w'.cell? ⟨g_BT2, 0, none⟩ = some (.int .i64 n) := blk_cell (G.out.k 0 rfl) 0; (try clear hc_BT21); have hc_BT21 : w'.cell? ⟨g_BT2, 1, none⟩ = some (.slice A_t r.length c_t) := blk_cell (G.out.k 0 rfl) 1; (try clear hc_BX0); have hc_BX0 : w'.cell? ⟨g_BX, 0, none⟩ = some (.int .i64 n) := blk_cell (G.out.k 4 rfl) 0; (try clear hc_BX1); have hc_BX1 : w'.cell? ⟨g_BX, 1, none⟩ = some (.slice A_x r.length c_x) := blk_cell (G.out.k 4 rfl) 1; have tok4 := Aside0.mk True.intro))
          go_roundg k1_
          case measure => omega
          case rel => exact ⟨i + 1, by rw [← HJ1.out], HJN, ⟨(G.out.step (by repeat (first | exact Below.refl _ _ | apply pw_below_drewN | apply below_drew1 | apply below_alloc))).pick [6, 7]⟩⟩
        case neg =>
          have cl1 : decide ((i : Int) < 3) = false := decide_eq_false (by omega)
          have cl2 : decide (i < 3) = false := decide_eq_false hi3
          by_cases hil : (i : Int) = lm
          case pos =>
            have cl3 : ((i : Int) == lm) = true := by rw [hil]; simp
            have cl4 : decide ((i : Int) = lm) = true := decide_eq_true hil
            have hsee : i < 3 ∨ (i : Int) = ((al.length : Nat) : Int) - 1 := .inr (by rw [← hlm]; exact hil)
            clear hi3 hil hlm
            go_quiet (first | (go_at_call 14; exact Calls.quiet_of ((laws_nSame.calls _ _ _ (p) _ _ (p) _ _ (Kd.C_drewN (G.out.c 1 rfl) _) (G.out.l 1 rfl) (Kd.C_drewN (G.out.c 5 rfl) _) (G.out.l 5 rfl) H51.out).mono (fun _ _ h_ => ⟨h_.1, h_.2.out⟩))) | (go_at_call 15; exact Calls.quiet_of ((laws_nLess.calls _ _ _ (r2) _ _ (r) _ _ (Kd.C_drewN (G.out.c 0 rfl) _) (G.out.l 0 rfl) (Kd.C_drewN (G.out.c 3 rfl) _) (G.out.l 3 rfl) H52.out).mono (fun _ _ h_ => ⟨h_.1, h_.2.out⟩))))
            skip
            obtain ⟨h60, h61, h62⟩ := HRA.out hsee
            have H60 := Aside0.mk h60
            have H61 := Aside0.mk h61
            obtain ⟨k_h62, x_h62⟩ := h62
            have H62 := Aside0.mk x_h62
            clear x_h62
            replace G := Aside0.mk (G.out.step (pw_below_drewN (Below.refl _ _) nq))
            generalize World.drewN w' nq = wq at G ⊢
            obtain ⟨w', ew_⟩ : ∃ x_, x_ = wq := ⟨_, rfl⟩
            subst ew_
            (try clear hc_BX0)
            have hc_BX0 : w'.cell? ⟨g_BX, 0, none⟩ = some (.int .i64 n) := blk_cell (G.out.k 2 rfl) 0
            (try clear hc_BX1)
            have hc_BX1 : w'.cell? ⟨g_BX, 1, none⟩ = some (.slice A_x r.length c_x) := blk_cell (G.out.k 2 rfl) 1
            go_wp2_with (first | (go_at_call 16; have tk_ := tok1; clear tk_ tok1; (with_reducible refine (impl_RankOfLeast.calls (n) _ _ (r) _ _ _ ?sd0_ ?sd1_ H60.out).mono ?_); (case sd0_ => repeat (first | exact G.out.c 3 rfl | (with_reducible refine Kd.C_drewN ?_ _) | (with_reducible refine Kd.C_drew ?_))); (case sd1_ => exact G.out.l 3 rfl); rintro e w' ⟨rfl, hb⟩; replace G := Aside0.mk (G.out.step hb); clear hb; (try clear hc_BX0); have hc_BX0 : w'.cell? ⟨g_BX, 0, none⟩ = some (.int .i64 n) := blk_cell (G.out.k 2 rfl) 0; (try clear hc_BX1); have hc_BX1 : w'.cell? ⟨g_BX, 1, none⟩ = some (.slice A_x r.length c_x) := blk_cell (G.out.k 2 rfl) 1; have tok2 := Aside0.mk True.intro) | (go_at_call 17; have tk_ := tok2; clear tk_ tok2; (with_reducible refine (impl_LeastOfRank.calls _ _ (p) ((i : Int)) _ _ _ _ ?sd0_ ?sd1_ H61.out).mono ?_); (case sd0_ => repeat (first | exact G.out.c 5 rfl | (with_reducible refine Kd.C_drewN ?_ _) | (with_reducible refine Kd.C_drew ?_))); (case sd1_ => exact G.out.l 5 rfl); rintro e w' ⟨v1_, rfl, ho1, hb⟩; obtain ⟨A_t, c_t, e_⟩ := Kd.R_slice ho1; subst e_; replace G := Aside0.mk (G.out.addR hb ho1); clear ho1 hb; (try clear hc_BX0); have hc_BX0 : w'.cell? ⟨g_BX, 0, none⟩ = some (.int .i64 n) := blk_cell (G.out.k 3 rfl) 0; (try clear hc_BX1); have hc_BX1 : w'.cell? ⟨g_BX, 1, none⟩ = some (.slice A_x r.length c_x) := blk_cell (G.out.k 3 rfl) 1; (try clear hd_BX0); have hd_BX0 : (w'.alloc (.cells #[.int .i64 n, .slice A_t r.length c_t] 34 (0, 0))).cell? ⟨g_BX, 0, none⟩ = some (.int .i64 n) := blk_cell (blk_alloc (G.out.k 3 rfl) (.cells #[.int .i64 n, .slice A_t r.length c_t] 34 (0, 0))) 0; (try clear hd_BX1); have hd_BX1 : (w'.alloc (.cells #[.int .i64 n, .slice A_t r.length c_t] 34 (0, 0))).cell? ⟨g_BX, 1, none⟩ = some (.slice A_x r.length c_x) := blk_cell (blk_alloc (G.out.k 3 rfl) (.cells #[.int .i64 n, .slice A_t r.length c_t] 34 (0, 0))) 1; have tok3 := Aside0.mk True.intro) | (go_at_call 18; have tk_ := tok3; clear tk_ tok3; replace G := Aside0.mk (G.out.box (.cells #[.int .i64 n, .slice A_t r.length c_t] 34 (0, 0))); generalize World.alloc w' (.cells #[.int .i64 n, .slice A_t r.length c_t] 34 (0, 0)) = wb_BT2 at G ⊢; generalize w'.heap.size = g_BT2 at G ⊢; obtain ⟨w', ew_⟩ : ∃ x_, x_ = wb_BT2 := ⟨_, rfl⟩; subst ew_; (with_reducible refine (laws_nLadder.calls _ (n) _ _ (r) (n) _ _ (r) _ _ ?sd0_ ?sd1_ ?sd2_ ?sd3_ H62.out).mono ?_); (case sd0_ => repeat (first | exact G.out.c 1 rfl | (with_reducible refine Kd.C_drewN ?_ _) | (with_reducible refine Kd.C_drew ?_))); (case sd1_ => exact G.out.l 1 rfl); (case sd2_ => repeat (first | exact G.out.c 5 rfl | (with_reducible refine Kd.C_drewN ?_ _) | (with_reducible refine Kd.C_drew ?_))); (case sd3_ => exact G.out.l 5 rfl); rintro e w' ⟨rfl, hb⟩; replace G := Aside0.mk (G.out.step hb); clear hb; (try clear hc_BT20); have hc_BT20 : w'.cell? ⟨g_BT2, 0, none⟩ = some (.int .i64 n) := blk_cell (G.out.k 0 rfl) 0; (try clear hc_BT21); have hc_BT21 : w'.cell? ⟨g_BT2, 1, none⟩ = some (.slice A_t r.length c_t) := blk_cell (G.out.k 0 rfl) 1; (try clear hc_BX0); have hc_BX0 : w'.cell? ⟨g_BX, 0, none⟩ = some (.int .i64 n) := blk_cell (G.out.k 4 rfl) 0; (try clear hc_BX1); have hc_BX1 : w'.cell? ⟨g_BX, 1, none⟩ = some (.slice A_x r.length c_x) := blk_cell (G.out.k 4 rfl) 1; have tok4 := Aside0.mk True.intro))
            go_roundg k1_
            case measure => omega
            case rel => exact ⟨i + 1, by rw [← HJ1.out], HJN, ⟨(G.out.step (by repeat (first | exact Below.refl _ _ | apply pw_below_drewN | apply below_drew1 | apply below_alloc))).pick [6, 7]⟩⟩
          case neg =>
            have cl3 : ((i : Int) == lm) = false := beq_eq_false_iff_ne.mpr hil
            have cl4 : decide ((i : Int) = lm) = false := decide_eq_false hil
            clear hi3 hil hlm
            go_quiet (first | (go_at_call 14; exact Calls.quiet_of ((laws_nSame.calls _ _ _ (p) _ _ (p) _ _ (Kd.C_drewN (G.out.c 1 rfl) _) (G.out.l 1 rfl) (Kd.C_drewN (G.out.c 5 rfl) _) (G.out.l 5 rfl) H51.out).mono (fun _ _ h_ => ⟨h_.1, h_.2.out⟩))) | (go_at_call 15; exact Calls.quiet_of ((laws_nLess.calls _ _ _ (r2) _ _ (r) _ _ (Kd.C_drewN (G.out.c 0 rfl) _) (G.out.l 0 rfl) (Kd.C_drewN (G.out.c 3 rfl) _) (G.out.l 3 rfl) H52.out).mono (fun _ _ h_ => ⟨h_.1, h_.2.out⟩))))
            skip
            go_wp2
            go_roundg k1_
            case measure => omega
            case rel => exact ⟨i + 1, by rw [← HJ1.out], HJN, ⟨(G.out.step (by repeat (first | exact Below.refl _ _ | apply pw_below_drewN | apply below_drew1 | apply below_alloc))).pick [4, 5]⟩⟩

end
end Go.Proofs.Ytdeoeogdnagibaa.PLi
