-- Written for this claim by a program of this session (myprint.py) over the kit's printer.
import Derived.Test.YtdeoeogdnagibaaWalkFnLeastListedB
import Derived.Test.YtdeoeogdnagibaaPLix0
import Derived.Deep.RegionHeld3
namespace Go.Proofs.Ytdeoeogdnagibaa.PLi
noncomputable section
open Go.RowKit Go.Proofs.YtdeoeogdnagibaaW.PrintWords Go.Proofs.YtdeoeogdnagibaaW.PrintLast Go.Proofs.YtdeoeogdnagibaaW.PrintMore
attribute [local go_sem] max2_int min2_int max_two min_two max_three min_three max_four min_four   -- for this text's walks alone
set_option linter.unusedVariables false
set_option linter.unusedSimpArgs false


set_option maxRecDepth 1000000 in
def FlRFr (A1 : Option Addr) (c1 : Nat) (l1 : List Int) (w : World) (f : Nat → Value) : Act := ⟨#[f 0, .slice A1 l1.length c1, f 2, f 3, f 4, f 5, f 6, f 7, f 8, f 9, f 10, f 11, f 12, f 13, f 14, f 15, f 16, f 17, f 18, f 19, f 20, f 21, f 22, f 23, f 24, f 25, f 26, f 27, f 28, f 29, f 30, f 31, f 32, f 33, f 34, f 35, f 36, f 37, f 38, f 39, f 40, f 41, f 42, f 43, f 44, f 45, f 46, f 47, f 48, f 49, f 50, f 51, f 52, f 53, f 54, f 55, f 56, f 57, f 58, f 59, f 60, f 61, f 62, f 63, f 64, f 65, f 66, f 67, f 68, f 69, f 70, f 71, f 72, f 73, f 74, f 75, f 76, f 77, f 78, f 79, f 80, f 81, f 82, f 83, f 84, f 85, f 86, f 87, f 88, f 89, f 90, f 91, f 92, f 93, f 94, f 95, f 96, f 97, f 98, f 99, f 100, f 101, f 102, f 103, f 104, f 105, f 106, f 107, f 108, f 109, f 110, f 111, f 112, f 113, f 114, f 115, f 116, f 117, f 118, f 119, f 120, f 121, f 122, f 123, f 124, f 125, f 126, f 127, f 128, f 129, f 130, f 131, f 132, f 133, f 134, f 135, f 136, f 137, f 138, f 139, f 140, f 141, f 142, f 143, f 144, f 145, f 146, f 147, f 148, f 149, f 150, f 151, f 152, f 153, f 154, f 155, f 156, f 157, f 158, f 159, f 160, f 161, f 162, f 163, f 164, f 165, f 166, f 167, f 168, f 169, f 170, f 171, f 172, f 173, f 174, f 175, f 176, f 177, f 178, f 179, f 180, f 181, f 182, f 183, f 184, f 185, f 186, f 187, f 188, f 189, f 190, f 191, f 192, f 193, f 194, f 195, f 196, f 197, f 198, f 199, f 200, f 201, f 202, f 203, f 204, f 205, f 206, f 207, f 208, f 209, f 210, f 211, f 212, f 213, f 214, f 215, f 216, f 217, f 218, f 219, f 220, f 221, f 222, f 223, f 224, f 225, f 226, f 227, f 228, f 229, f 230, f 231, f 232, f 233, f 234, f 235, f 236, f 237, f 238, f 239, f 240, f 241, f 242, f 243, f 244, f 245, f 246, f 247, f 248, f 249, f 250, f 251, f 252, f 253, f 254, f 255, f 256, f 257, f 258, f 259, f 260, f 261, f 262, f 263, f 264, f 265, f 266, f 267, f 268, f 269, f 270, f 271, f 272, f 273, f 274, f 275, f 276, f 277, f 278, f 279, f 280, f 281, f 282, f 283, f 284, f 285, f 286, f 287, f 288, f 289, f 290, f 291, f 292, f 293, f 294, f 295, f 296, f 297, f 298, f 299, f 300, f 301, f 302, f 303, f 304, f 305, f 306, f 307, f 308, f 309, f 310, f 311, f 312, f 313, f 314, f 315, f 316, f 317, f 318, f 319, f 320, f 321, f 322, f 323, f 324, f 325, f 326, f 327, f 328, f 329, f 330, f 331, f 332, f 333, f 334, f 335, f 336, f 337, f 338, f 339, f 340, f 341, f 342, f 343, f 344, f 345, f 346, f 347, f 348, f 349, f 350, f 351, f 352, f 353, f 354, f 355, f 356, f 357, f 358, f 359, f 360, f 361, f 362, f 363, f 364, f 365, f 366, f 367, f 368, f 369, f 370, f 371, f 372, f 373, f 374, f 375, f 376, f 377, f 378, f 379, f 380, f 381, f 382, f 383, f 384, f 385, f 386, f 387, f 388, f 389, f 390, f 391, f 392, f 393, f 394, f 395, f 396], []⟩
def FlR (A1 : Option Addr) (c1 : Nat) (l1 : List Int) (w : World) (a' : Act) (w' : World) : Prop := ∃ f : Nat → Value, Aside0 (Bag w w' []) ∧ a' = FlRFr A1 c1 l1 w f
set_option maxRecDepth 1000000 in
theorem FlR.mk (A1 : Option Addr) (c1 : Nat) (l1 : List Int) (w : World) {w' : World} {L : List Value} (h : Bag w w' []) (e : (⟨L.toArray, []⟩ : Act) = FlRFr A1 c1 l1 w (fun i => L.getD i .nilIface)) : FlR A1 c1 l1 w ⟨L.toArray, []⟩ w' := ⟨_, ⟨h⟩, e⟩
set_option maxHeartbeats 16000000 in
set_option maxRecDepth 1000000 in
theorem fl_c118 (q0 q2 q3 q4 q8 q9 qb qc qd qe qf qg qh qi qj qk ql qm qn qo qp qq qr qs qt qu qv qw qx qy qz qA qB qC qD qE qF qG qH qI qJ qK qL qM qN qO qP qQ qR qS qT qU qV qW qX qY qZ x0 x1 x2 x3 x4 x5 x6 x7 x8 x9 xa xb xc xd xe xf xg xh xi xj xk xl xm xn xo xp xq xr xs xt xu xv xw xx xy xz xA xB xC xD xE xF xG xH xI xJ xK xL xM xN xO xP xQ xR xS xT xV xW xX xY xZ y0 y1 y2 y3 y4 y5 y6 y7 y8 y9 ya yb yc yd ye yf yg yh yi yj yk yl ym yn yo yp yq yr ys yt yu yv yw yx yy yz yA yB yC yD yE yF yG yH yI yJ yK yL yM yN yO yP yQ yR yS yT yU yV yW yX yY yZ z0 z1 z2 z3 z4 z5 z6 z7 z8 z9 za zb zc zd ze zf zg zh zi zj zk zl zm zn zo zp zq zr zs zt zu zv zw zx zy zz zA zB zC zD zE zF zG zH zI zJ zK zL zM zN zO zP zQ zR zS zT zU zV zW zX zY zZ j0 j1 j2 j3 j4 j5 j6 j7 j8 j9 ja jb jc jd je jf jg jh ji jj jk jl jm jn jo jp jq jr js jt ju jv jw jx jy jz jA jB jC jD jE jF jG jH jI jJ jK jL jM jN jO jP jQ jR jS jT jU jV jW jX jY jZ v0 v1 v2 v3 v4 v5 v6 v7 v8 v9 va vb vc vd ve vf vg vh vi vj vk vl vm vn vo vp vq vr vs vt vu vv vw vx vy vz vA vB vC vD vE vF vG vH vI vJ vK vL vM vN vO vP vQ vR vS vT vU vV vW vX vY vZ u0 u1 u2 u3 u4 u5 u6 u7 u8 u9 ua ub uc ud ue uf ug uh ui uj uk ul um un uo : Value) (A1 : Option Addr) (c1 : Nat) (l1 : List Int) (cnt : Int) (p : List Int) (A_p : Option Addr) (c_p : Nat) (w : World) (wc : World) (al : List S34) (A_a : Option Addr) (c_a : Nat) (ok : Bool) (J K : Act → World → Prop) (Q' : Exit → Act → World → Prop) (hJ : ∀ a' w', FlR A1 c1 l1 w a' w' → J a' w') (hK : ∀ a' w', Met J a' w' → K a' w') (G : Aside0 (Bag w wc [Ent.of k34 A_a c_a al, Ent.of (Kd.int .i64) A_p c_p p])) (HO : Aside0 (FlOne p al ok cnt)) :
    Code.wp Try.prog fl_if118 (Exit.then K Q') ⟨#[q0, .slice A1 l1.length c1, q2, q3, q4, .slice A_p p.length c_p, .slice A_a al.length c_a, .bool ok, q8, q9, .int .i64 cnt, qb, qc, qd, qe, qf, qg, qh, qi, qj, qk, ql, qm, qn, qo, qp, qq, qr, qs, qt, qu, qv, qw, qx, qy, qz, qA, qB, qC, qD, qE, qF, qG, qH, qI, qJ, qK, qL, qM, qN, qO, qP, qQ, qR, qS, qT, qU, qV, qW, qX, qY, qZ, x0, x1, x2, x3, x4, x5, x6, x7, x8, x9, xa, xb, xc, xd, xe, xf, xg, xh, xi, xj, xk, xl, xm, xn, xo, xp, xq, xr, xs, xt, xu, xv, xw, xx, xy, xz, xA, xB, xC, xD, xE, xF, xG, xH, xI, xJ, xK, xL, xM, xN, xO, xP, xQ, xR, xS, xT, .bool true, xV, xW, xX, xY, xZ, y0, y1, y2, y3, y4, y5, y6, y7, y8, y9, ya, yb, yc, yd, ye, yf, yg, yh, yi, yj, yk, yl, ym, yn, yo, yp, yq, yr, ys, yt, yu, yv, yw, yx, yy, yz, yA, yB, yC, yD, yE, yF, yG, yH, yI, yJ, yK, yL, yM, yN, yO, yP, yQ, yR, yS, yT, yU, yV, yW, yX, yY, yZ, z0, z1, z2, z3, z4, z5, z6, z7, z8, z9, za, zb, zc, zd, ze, zf, zg, zh, zi, zj, zk, zl, zm, zn, zo, zp, zq, zr, zs, zt, zu, zv, zw, zx, zy, zz, zA, zB, zC, zD, zE, zF, zG, zH, zI, zJ, zK, zL, zM, zN, zO, zP, zQ, zR, zS, zT, zU, zV, zW, zX, zY, zZ, j0, j1, j2, j3, j4, j5, j6, j7, j8, j9, ja, jb, jc, jd, je, jf, jg, jh, ji, jj, jk, jl, jm, jn, jo, jp, jq, jr, js, jt, ju, jv, jw, jx, jy, jz, jA, jB, jC, jD, jE, jF, jG, jH, jI, jJ, jK, jL, jM, jN, jO, jP, jQ, jR, jS, jT, jU, jV, jW, jX, jY, jZ, v0, v1, v2, v3, v4, v5, v6, v7, v8, v9, va, vb, vc, vd, ve, vf, vg, vh, vi, vj, vk, vl, vm, vn, vo, vp, vq, vr, vs, vt, vu, vv, vw, vx, vy, vz, vA, vB, vC, vD, vE, vF, vG, vH, vI, vJ, vK, vL, vM, vN, vO, vP, vQ, vR, vS, vT, vU, vV, vW, vX, vY, vZ, u0, u1, u2, u3, u4, u5, u6, u7, u8, u9, ua, ub, uc, ud, ue, uf, ug, uh, ui, uj, uk, ul, um, un, uo], []⟩ wc := by
  conv => arg 2; whnf
  have hu40 := Try.underlying34
  have tok0 := Aside0.mk True.intro
  obtain ⟨s, c, inv, hp2, hp1, hs0, hst, h30, hi0, hi1, hi2, hok, zn, zl, h31⟩ := HO.out
  have HP2 := Aside0.mk hp2
  have HP1 := Aside0.mk hp1
  have HST := Aside0.mk hst
  have HS0 := Aside0.mk hs0
  have HI0 := Aside0.mk hi0
  have HI1 := Aside0.mk hi1
  have HI2 := Aside0.mk hi2
  have HOK := Aside0.mk hok
  obtain ⟨k_h30, x_h30⟩ := h30
  have H30 := Aside0.mk x_h30
  clear x_h30
  have H31 := Aside0.mk h31
  clear HO hp2 hp1 hst hs0 hi0 hi1 hi2 hok
  go_wp2
  go_loopg [14, 16] (p.length - 1) (fun kq v14 v16 w' => ∃ i : Nat, v14 = .int .i64 (s i) ∧ v16 = .int .i64 (i : Int) ∧ Aside0 (i + kq = p.length - 1) ∧ Aside0 (Bag w w' [Ent.of k34 A_a c_a al, Ent.of (Kd.int .i64) A_p c_p p]))
  case atStart => exact ⟨0, by rw [HS0.out], rfl, ⟨by omega⟩, G⟩
  case round =>
    clear G
    obtain ⟨i, rfl, rfl, HI, G⟩ := hrel
    cases gk with
    | zero =>
      obtain ⟨ji, hj1, w1_, w2_, ct, hie⟩ := fl_end0 _ _ HP2.out HP1.out HI.out
      have tok0 := Aside0.mk True.intro
      by_cases hv : 0 < inv
      case pos =>
        have hse := HI1.out hv
        rw [← hie] at hse
        rw [hse]
        have y1_ : decide (inv > 0) = true := decide_eq_true hv
        have y2_ : decide (0 < inv) = true := decide_eq_true hv
        have y3_ : (inv == 0) = false := beq_eq_false_iff_ne.mpr (by omega)
        have y4_ : decide (inv = 0) = false := decide_eq_false (by omega)
        have y5_ : (cnt != cnt) = false := by simp
        clear hv hse hie hj1
        go_upto_if 166 with (first | (go_at_call 12; have tk_ := tok0; clear tk_ tok0; (with_reducible refine (impl_InversionsOf.calls _ _ _ (p) _ _ _ ?sd0_ ?sd1_ H30.out).mono ?_); (case sd0_ => repeat (first | exact G.out.c 1 rfl | (with_reducible refine Kd.C_drewN ?_ _) | (with_reducible refine Kd.C_drew ?_))); (case sd1_ => exact G.out.l 1 rfl); rintro e w' ⟨rfl, hb⟩; replace G := Aside0.mk (G.out.step hb); clear hb; have tok1 := Aside0.mk True.intro))
        refine wp_cut (FlK A1 c1 l1 cnt p A_p c_p w) ?_ ?_
        · intro a' w' h
          clear G
          obtain ⟨f, G, rfl⟩ := h
          rename ∀ (a : Act) (w : World), Code.wp _ _ _ a w → _ => aK
          refine aK _ _ ?_
          clear aK
          dsimp only [FlKFr]
          have tok0 := Aside0.mk True.intro
          go_wp2_with (first | (go_at_call 17; have tk_ := tok0; clear tk_ tok0; (with_reducible refine (impl_LeastOfRank.calls _ _ (p) (cnt) _ _ _ _ ?sd0_ ?sd1_ H31.out).mono ?_); (case sd0_ => repeat (first | exact G.out.c 0 rfl | (with_reducible refine Kd.C_drewN ?_ _) | (with_reducible refine Kd.C_drew ?_))); (case sd1_ => exact G.out.l 0 rfl); rintro e w' ⟨v1_, rfl, ho1, hb⟩; obtain ⟨A_z, c_z, e_⟩ := Kd.R_slice ho1; subst e_; replace G := Aside0.mk (G.out.addR hb ho1); clear ho1 hb; have tok1 := Aside0.mk True.intro))
          refine Met.intro (hJ _ _ (FlR.mk A1 c1 l1 w (by first | exact G.out.pick [] | exact (G.out.step (by repeat (first | exact Below.refl _ _ | apply pw_below_drewN | apply below_drew1 | apply below_alloc))).pick []) (by kernel_rfl)))
        · intro J K hJ hK
          cases ok with
          | false =>
            go_wp2
            refine Met.intro (hJ _ _ (FlK.mk A1 c1 l1 cnt p A_p c_p w (by first | exact G.out.pick [1] | exact (G.out.step (by repeat (first | exact Below.refl _ _ | apply pw_below_drewN | apply below_drew1 | apply below_alloc))).pick [1]) (by kernel_rfl)))
          | true => exact fl_c166 _ _ _ _ _ _ _ _ _ _ _ _ _ _ _ _ _ _ _ _ _ _ _ _ _ _ _ _ _ _ _ _ _ _ _ _ _ _ _ _ _ _ _ _ _ _ _ _ _ _ _ _ _ _ _ _ _ _ _ _ _ _ _ _ _ _ _ _ _ _ _ _ _ _ _ _ _ _ _ _ _ _ _ _ _ _ _ _ _ _ _ _ _ _ _ _ _ _ _ _ _ _ _ _ _ _ _ _ _ _ _ _ _ _ _ _ _ _ _ _ _ _ _ _ _ _ _ _ _ _ _ _ _ _ _ _ _ _ _ _ _ _ _ _ _ _ _ _ _ _ _ _ _ _ _ _ _ _ _ _ _ _ _ _ _ _ _ _ _ _ _ _ _ _ _ _ _ _ _ _ _ _ _ _ _ _ _ _ _ _ _ _ _ _ _ _ _ _ _ _ _ _ _ _ _ _ _ _ _ _ _ _ _ _ _ _ _ _ _ _ _ _ _ _ _ _ _ _ _ _ _ _ _ _ _ _ _ _ _ _ _ _ _ _ _ _ _ _ _ _ _ _ _ _ _ _ _ _ _ _ _ _ _ _ _ _ _ _ _ _ _ _ _ _ _ _ _ _ _ _ _ _ _ _ _ _ _ _ _ _ _ _ _ _ _ _ _ _ _ _ _ _ _ _ _ _ _ _ _ _ _ _ _ _ _ _ _ _ _ _ _ _ _ _ _ _ _ _ _ _ _ _ _ _ _ _ _ _ _ _ _ _ _ _ _ _ _ _ _ _ _ _ _ _ _ _ _ _ _ _ _ _ _ _ _ _ _ _ _ _ _ _ _ _ _ _ _ _ _ _ _ _ _ _ _ _ _ _ _ _ _ A1 c1 l1 cnt p A_p c_p w _ al A_a c_a inv J K _ (fun a' w' h_ => hJ a' w' h_) hK ⟨by first | exact G.out | exact G.out.pick [0, 1]⟩ ⟨HOK.out rfl⟩
      case neg =>
        have hz : inv = 0 := by have := HI0.out; omega
        obtain ⟨hc, hse⟩ := HI2.out hz
        rw [← hie] at hse
        rw [hse]
        subst hz
        subst hc
        clear hv hse hie hj1
        go_upto_if 166 with (first | (go_at_call 12; have tk_ := tok0; clear tk_ tok0; (with_reducible refine (impl_InversionsOf.calls _ _ _ (p) _ _ _ ?sd0_ ?sd1_ H30.out).mono ?_); (case sd0_ => repeat (first | exact G.out.c 1 rfl | (with_reducible refine Kd.C_drewN ?_ _) | (with_reducible refine Kd.C_drew ?_))); (case sd1_ => exact G.out.l 1 rfl); rintro e w' ⟨rfl, hb⟩; replace G := Aside0.mk (G.out.step hb); clear hb; have tok1 := Aside0.mk True.intro))
        refine wp_cut (FlK A1 c1 l1 1 p A_p c_p w) ?_ ?_
        · intro a' w' h
          clear G
          obtain ⟨f, G, rfl⟩ := h
          rename ∀ (a : Act) (w : World), Code.wp _ _ _ a w → _ => aK
          refine aK _ _ ?_
          clear aK
          dsimp only [FlKFr]
          have tok0 := Aside0.mk True.intro
          go_wp2_with (first | (go_at_call 17; have tk_ := tok0; clear tk_ tok0; (with_reducible refine (impl_LeastOfRank.calls _ _ (p) (1) _ _ _ _ ?sd0_ ?sd1_ H31.out).mono ?_); (case sd0_ => repeat (first | exact G.out.c 0 rfl | (with_reducible refine Kd.C_drewN ?_ _) | (with_reducible refine Kd.C_drew ?_))); (case sd1_ => exact G.out.l 0 rfl); rintro e w' ⟨v1_, rfl, ho1, hb⟩; obtain ⟨A_z, c_z, e_⟩ := Kd.R_slice ho1; subst e_; replace G := Aside0.mk (G.out.addR hb ho1); clear ho1 hb; have tok1 := Aside0.mk True.intro))
          refine Met.intro (hJ _ _ (FlR.mk A1 c1 l1 w (by first | exact G.out.pick [] | exact (G.out.step (by repeat (first | exact Below.refl _ _ | apply pw_below_drewN | apply below_drew1 | apply below_alloc))).pick []) (by kernel_rfl)))
        · intro J K hJ hK
          cases ok with
          | false =>
            go_wp2
            refine Met.intro (hJ _ _ (FlK.mk A1 c1 l1 1 p A_p c_p w (by first | exact G.out.pick [1] | exact (G.out.step (by repeat (first | exact Below.refl _ _ | apply pw_below_drewN | apply below_drew1 | apply below_alloc))).pick [1]) (by kernel_rfl)))
          | true => exact fl_c166 _ _ _ _ _ _ _ _ _ _ _ _ _ _ _ _ _ _ _ _ _ _ _ _ _ _ _ _ _ _ _ _ _ _ _ _ _ _ _ _ _ _ _ _ _ _ _ _ _ _ _ _ _ _ _ _ _ _ _ _ _ _ _ _ _ _ _ _ _ _ _ _ _ _ _ _ _ _ _ _ _ _ _ _ _ _ _ _ _ _ _ _ _ _ _ _ _ _ _ _ _ _ _ _ _ _ _ _ _ _ _ _ _ _ _ _ _ _ _ _ _ _ _ _ _ _ _ _ _ _ _ _ _ _ _ _ _ _ _ _ _ _ _ _ _ _ _ _ _ _ _ _ _ _ _ _ _ _ _ _ _ _ _ _ _ _ _ _ _ _ _ _ _ _ _ _ _ _ _ _ _ _ _ _ _ _ _ _ _ _ _ _ _ _ _ _ _ _ _ _ _ _ _ _ _ _ _ _ _ _ _ _ _ _ _ _ _ _ _ _ _ _ _ _ _ _ _ _ _ _ _ _ _ _ _ _ _ _ _ _ _ _ _ _ _ _ _ _ _ _ _ _ _ _ _ _ _ _ _ _ _ _ _ _ _ _ _ _ _ _ _ _ _ _ _ _ _ _ _ _ _ _ _ _ _ _ _ _ _ _ _ _ _ _ _ _ _ _ _ _ _ _ _ _ _ _ _ _ _ _ _ _ _ _ _ _ _ _ _ _ _ _ _ _ _ _ _ _ _ _ _ _ _ _ _ _ _ _ _ _ _ _ _ _ _ _ _ _ _ _ _ _ _ _ _ _ _ _ _ _ _ _ _ _ _ _ _ _ _ _ _ _ _ _ _ _ _ _ _ _ _ _ _ _ _ _ _ _ _ _ _ A1 c1 l1 1 p A_p c_p w _ al A_a c_a 0 J K _ (fun a' w' h_ => hJ a' w' h_) hK ⟨by first | exact G.out | exact G.out.pick [0, 1]⟩ ⟨HOK.out rfl⟩
    | succ k1_ =>
      obtain ⟨ji, hj1, w1_, w2_, ct, HJN, hin⟩ := fl_step0 _ _ _ HP1.out HI.out
      have HJ1 := Aside0.mk hj1
      have HJN := Aside0.mk HJN
      obtain ⟨h32, hsn⟩ := HST.out i hin
      have HSN := Aside0.mk hsn
      have hsn2 : IntKind.i64.wrap (s i + c i) = s (i + 1) := (i64_w _).trans hsn
      have H32 := Aside0.mk h32
      clear hj1 hin
      have tok0 := Aside0.mk True.intro
      go_wp2_with (first | (go_at_call 11; have tk_ := tok0; clear tk_ tok0; (with_reducible refine (impl_CountFirst.calls _ _ (p) ((i : Int)) _ _ _ ?sd0_ ?sd1_ H32.out).mono ?_); (case sd0_ => repeat (first | exact G.out.c 1 rfl | (with_reducible refine Kd.C_drewN ?_ _) | (with_reducible refine Kd.C_drew ?_))); (case sd1_ => exact G.out.l 1 rfl); rintro e w' ⟨rfl, hb⟩; replace G := Aside0.mk (G.out.step hb); clear hb; have tok1 := Aside0.mk True.intro))
      go_roundg k1_
      case measure => omega
      case rel => exact ⟨i + 1, rfl, by rw [← HJ1.out], HJN, ⟨(G.out.step (by repeat (first | exact Below.refl _ _ | apply pw_below_drewN | apply below_drew1 | apply below_alloc))).pick [0, 1]⟩⟩

end
end Go.Proofs.Ytdeoeogdnagibaa.PLi
