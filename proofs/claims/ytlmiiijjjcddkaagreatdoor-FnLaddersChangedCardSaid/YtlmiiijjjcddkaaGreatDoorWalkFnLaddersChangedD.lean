-- Written for this claim by a program of this session (myprint.py) over the kit's printer.
import Derived.Test.YtlmiiijjjcddkaaGreatDoorWalkFnLaddersChangedB
import Derived.Test.YtlmiiijjjcddkaaGreatDoorPLgx0
import Derived.Test.YtlmiiijjjcddkaaGreatDoorPLgx5
import Derived.Deep.RegionHeld3
namespace Go.Proofs.YtlmiiijjjcddkaaGreatDoor.PLg
noncomputable section
open Go.RowKit Go.Proofs.YtlmiiijjjcddkaaGreatDoorW.PrintWords Go.Proofs.YtlmiiijjjcddkaaGreatDoorW.PrintLast Go.Proofs.YtlmiiijjjcddkaaGreatDoorW.PrintMore
attribute [local go_sem] max2_int min2_int max_two min_two max_three min_three max_four min_four   -- for this text's walks alone
set_option linter.unusedVariables false
set_option linter.unusedSimpArgs false


set_option maxRecDepth 1000000 in
def LcXFr (A1 : Option Addr) (c1 : Nat) (l1 : List Int) (g_B : Nat) (bn : Int) (bl : List Int) (A_b : Option Addr) (c_b : Nat) (w : World) (g_G : Nat) (A_g : Option Addr) (c_g : Nat) (f : Nat → Value) : Act := ⟨#[f 0, .slice A1 l1.length c1, f 2, f 3, f 4, f 5, f 6, f 7, f 8, f 9, f 10, f 11, f 12, f 13, f 14, f 15, f 16, f 17, f 18, f 19, f 20, f 21, f 22, f 23, f 24, f 25, f 26, f 27, f 28, f 29, f 30, f 31, f 32, f 33, f 34, .pointer (some ⟨g_B, 0, none⟩), f 36, f 37, f 38, f 39, f 40, f 41, f 42, .pointer (some ⟨g_G, 0, none⟩), .bool true, f 45, f 46, f 47, f 48, f 49, f 50, f 51, f 52, f 53, f 54, f 55, f 56, f 57, f 58, f 59, f 60, f 61, f 62, f 63, f 64, f 65, f 66, f 67, f 68, f 69, f 70, f 71, f 72, f 73, f 74, f 75, f 76, f 77, f 78, f 79, f 80, f 81, f 82, f 83, f 84, f 85, f 86, f 87, f 88, f 89, f 90, f 91, f 92, f 93, f 94, f 95, f 96, f 97, f 98, f 99, f 100, f 101, f 102, f 103, f 104, f 105, f 106, f 107, f 108, f 109, f 110, f 111, f 112, f 113, f 114, f 115, f 116, f 117, f 118, f 119, f 120, f 121, f 122, f 123, f 124, f 125, f 126, f 127, f 128, f 129, f 130, f 131, f 132, f 133, f 134, f 135, f 136, f 137, f 138, f 139, f 140, f 141, f 142, f 143, f 144, f 145, f 146, f 147, f 148, f 149, f 150, f 151, f 152, f 153, f 154, f 155, f 156, f 157, f 158, f 159, f 160, f 161, f 162, f 163, f 164, f 165, f 166, f 167, f 168, f 169, f 170, f 171, f 172, f 173, f 174, f 175, f 176, f 177, f 178, f 179, f 180, f 181, f 182, f 183, f 184, f 185, f 186, f 187, f 188, f 189, f 190, f 191, f 192, f 193, f 194, f 195, f 196, f 197, f 198, f 199, f 200, f 201, f 202, f 203, f 204, f 205, f 206, f 207, f 208, f 209, f 210, f 211, f 212, f 213, f 214, f 215, f 216, f 217, f 218, f 219, f 220, f 221, f 222, f 223, f 224, f 225, f 226, f 227, f 228, f 229, f 230, f 231, f 232, f 233, f 234, f 235, f 236, f 237, f 238, f 239, f 240, f 241, f 242, f 243, f 244, f 245, f 246, f 247, f 248, f 249, f 250, f 251, f 252, f 253, f 254, f 255, f 256, f 257, f 258, f 259, f 260, f 261, f 262, f 263, f 264, f 265, f 266, f 267, f 268, f 269, f 270, f 271, f 272, f 273, f 274, f 275, f 276, f 277, f 278, f 279, f 280, f 281, f 282, f 283, f 284, f 285, f 286, f 287, f 288, f 289, f 290, f 291, f 292, f 293, f 294, f 295, f 296, f 297, f 298, f 299, f 300, f 301, f 302, f 303, f 304, f 305, f 306, f 307, f 308, f 309, f 310, f 311, f 312, f 313, f 314, f 315, f 316, f 317, f 318, f 319, f 320, f 321, f 322, f 323, f 324, f 325, f 326, f 327, f 328, f 329, f 330, f 331, f 332, f 333, f 334, f 335, f 336, f 337, f 338, f 339, f 340, f 341, f 342, f 343, f 344, f 345, f 346, f 347, f 348, f 349, f 350, f 351, f 352, f 353, f 354, f 355, f 356, f 357, f 358, f 359, f 360, f 361, f 362, f 363, f 364, f 365, f 366, f 367, f 368, f 369, f 370, f 371, f 372, f 373, f 374, f 375, f 376, f 377, f 378, f 379, f 380, f 381, f 382, f 383, f 384, f 385, f 386, f 387, f 388, f 389, f 390, f 391, f 392, f 393, f 394, f 395, f 396, f 397, f 398, f 399, f 400, f 401, f 402, f 403, f 404, f 405, f 406, f 407, f 408, f 409, f 410, f 411], []⟩
def LcX (A1 : Option Addr) (c1 : Nat) (l1 : List Int) (g_B : Nat) (bn : Int) (bl : List Int) (A_b : Option Addr) (c_b : Nat) (w : World) (g_G : Nat) (A_g : Option Addr) (c_g : Nat) (a' : Act) (w' : World) : Prop := ∃ f : Nat → Value, Aside0 (Bag w w' [Ent.of (Kd.int .i64) A_g c_g bl, Ent.blk g_G (.cells #[.int .i64 bn, .slice A_g bl.length c_g] 26 (0, 0)), Ent.of (Kd.int .i64) A_b c_b bl, Ent.blk g_B (.cells #[.int .i64 bn, .slice A_b bl.length c_b] 26 (0, 0))]) ∧ a' = LcXFr A1 c1 l1 g_B bn bl A_b c_b w g_G A_g c_g f
set_option maxRecDepth 1000000 in
theorem LcX.mk (A1 : Option Addr) (c1 : Nat) (l1 : List Int) (g_B : Nat) (bn : Int) (bl : List Int) (A_b : Option Addr) (c_b : Nat) (w : World) (g_G : Nat) (A_g : Option Addr) (c_g : Nat) {w' : World} {L : List Value} (h : Bag w w' [Ent.of (Kd.int .i64) A_g c_g bl, Ent.blk g_G (.cells #[.int .i64 bn, .slice A_g bl.length c_g] 26 (0, 0)), Ent.of (Kd.int .i64) A_b c_b bl, Ent.blk g_B (.cells #[.int .i64 bn, .slice A_b bl.length c_b] 26 (0, 0))]) (e : (⟨L.toArray, []⟩ : Act) = LcXFr A1 c1 l1 g_B bn bl A_b c_b w g_G A_g c_g (fun i => L.getD i .nilIface)) : LcX A1 c1 l1 g_B bn bl A_b c_b w g_G A_g c_g ⟨L.toArray, []⟩ w' := ⟨_, ⟨h⟩, e⟩
def LcX3 (A1 : Option Addr) (c1 : Nat) (l1 : List Int) (g_B : Nat) (bn : Int) (bl : List Int) (A_b : Option Addr) (c_b : Nat) (w : World) (a' : Act) (w' : World) : Prop := ∃ (g_G : Nat) (A_g : Option Addr) (c_g : Nat), LcX A1 c1 l1 g_B bn bl A_b c_b w g_G A_g c_g a' w'
def lc_T39 : Bool × List (List Nat × List Nat) := (true, [([], []), ([], []), ([], []), ([2], [2]), ([], []), ([3, 4], [3, 4]), ([5], [5]), ([0, 1, 6], [0, 1, 6]), ([7], [7]), ([8], [8]), ([8], [8]), ([], []), ([11, 9, 7, 0, 1, 2, 3, 4, 5, 6, 7, 8, 9, 11], [9, 11]), ([10, 12, 0, 1, 2, 3, 4, 5, 6, 7, 8, 9, 10, 11, 12], [10])])
def lc_B39 : List Nat := [0, 0, 0, 4, 0, 28, 60, 127, 255, 511, 511, 0, 3071, 8191]
theorem lc_tab39 : rtab .any (opsOf Tryz.f3 39) = lc_T39 := by kernel_rfl
theorem lc_bits39 : waitsOk lc_T39.2 lc_B39 = true := by kernel_rfl
set_option maxHeartbeats 16000000 in
set_option maxRecDepth 1000000 in
theorem lc_r39 (q0 q2 q3 q4 q5 q6 q7 q8 q9 qa qb qc qd qe qf qg qh qi qj qk ql qm qn qo qp qq qr qs qt qu qv qw qx qy qC qD qE qF qG qH qI qJ qK qL qM qN qO qP qQ qR qS qT qU qV qW qX qY qZ x0 x1 x2 x3 x4 x5 x6 x7 x8 x9 xa xb xc xd xe xf xg xh xi xj xk xl xm xn xo xp xq xr xs xt xu xv xw xx xy xz xA xB xC xD xE xF xG xH xI xJ xK xL xM xN xO xP xQ xR xS xT xU xV xW xX xY xZ y0 y1 y2 y3 y4 y5 y6 y7 y8 y9 ya yb yc yd ye yf yg yh yi yj yk yl ym yn yo yp yq yr ys yt yu yv yw yx yy yz yA yB yC yD yE yF yG yH yI yJ yK yL yM yN yO yP yQ yR yS yT yU yV yW yX yY yZ z0 z1 z2 z3 z4 z5 z6 z7 z8 z9 za zb zc zd ze zf zg zh zi zj zk zl zm zn zo zp zq zr zs zt zu zv zw zx zy zz zA zB zC zD zE zF zG zH zI zJ zK zL zM zN zO zP zQ zR zS zT zU zV zW zX zY zZ j0 j1 j2 j3 j4 j5 j6 j7 j8 j9 ja jb jc jd je jf jg jh ji jj jk jl jm jn jo jp jq jr js jt ju jv jw jx jy jz jA jB jC jD jE jF jG jH jI jJ jK jL jM jN jO jP jQ jR jS jT jU jV jW jX jY jZ v0 v1 v2 v3 v4 v5 v6 v7 v8 v9 va vb vc vd ve vf vg vh vi vj vk vl vm vn vo vp vq vr vs vt vu vv vw vx vy vz vA vB vC vD vE vF vG vH vI vJ vK vL vM vN vO vP vQ vR vS vT vU vV vW vX vY vZ u0 u1 u2 u3 u4 u5 u6 u7 u8 u9 ua ub uc ud ue uf ug uh ui uj uk ul um un uo up uq ur us ut uu uv uw ux uy uz uA uB uC uD : Value) (A1 : Option Addr) (c1 : Nat) (l1 : List Int) (g_B : Nat) (bn : Int) (bl : List Int) (c_b : Nat) (w : World) (wc : World) (g_E : Nat) (en : Int) (el : List Int) (A_e : Option Addr) (c_e : Nat) (ad : Addr) (i : Nat) (kx : Nat) (rv : Int) (J K : Act → World → Prop) (Q' : Exit → Act → World → Prop) (hJ : ∀ a' w', LcX3 A1 c1 l1 g_B bn bl (some ad) c_b w a' w' → J a' w') (hK : ∀ a' w', Met J a' w' → K a' w') (G : Aside0 (Bag w wc [Ent.cel (ad.add i) (.int .i64 rv), Ent.of (Kd.int .i64) A_e c_e el, Ent.blk g_E (.cells #[.int .i64 en, .slice A_e el.length c_e] 26 (0, 0)), Ent.of (Kd.int .i64) (some ad) c_b bl, Ent.blk g_B (.cells #[.int .i64 bn, .slice (some ad) bl.length c_b] 26 (0, 0))])) (hi : i < bl.length) (H1 : Aside0 (impl_AddRung.f kx en el (i : Int) rv = some (bn, bl, true))) :
    Code.wp Tryz.prog lc_reg39 (Exit.then K Q') ⟨#[q0, .slice A1 l1.length c1, q2, q3, q4, q5, q6, q7, q8, q9, qa, qb, qc, qd, qe, qf, qg, qh, qi, qj, qk, ql, qm, qn, qo, qp, qq, qr, qs, qt, qu, qv, qw, qx, qy, .pointer (some ⟨g_B, 0, none⟩), .int .i64 (i : Int), .pointer (some ⟨g_E, 0, none⟩), qC, qD, qE, qF, qG, qH, qI, qJ, qK, qL, qM, qN, qO, qP, qQ, qR, qS, qT, qU, qV, qW, qX, qY, qZ, x0, x1, x2, x3, x4, x5, x6, x7, x8, x9, xa, xb, xc, xd, xe, xf, xg, xh, xi, xj, xk, xl, xm, xn, xo, xp, xq, xr, xs, xt, xu, xv, xw, xx, xy, xz, xA, xB, xC, xD, xE, xF, xG, xH, xI, xJ, xK, xL, xM, xN, xO, xP, xQ, xR, xS, xT, xU, xV, xW, xX, xY, xZ, y0, y1, y2, y3, y4, y5, y6, y7, y8, y9, ya, yb, yc, yd, ye, yf, yg, yh, yi, yj, yk, yl, ym, yn, yo, yp, yq, yr, ys, yt, yu, yv, yw, yx, yy, yz, yA, yB, yC, yD, yE, yF, yG, yH, yI, yJ, yK, yL, yM, yN, yO, yP, yQ, yR, yS, yT, yU, yV, yW, yX, yY, yZ, z0, z1, z2, z3, z4, z5, z6, z7, z8, z9, za, zb, zc, zd, ze, zf, zg, zh, zi, zj, zk, zl, zm, zn, zo, zp, zq, zr, zs, zt, zu, zv, zw, zx, zy, zz, zA, zB, zC, zD, zE, zF, zG, zH, zI, zJ, zK, zL, zM, zN, zO, zP, zQ, zR, zS, zT, zU, zV, zW, zX, zY, zZ, j0, j1, j2, j3, j4, j5, j6, j7, j8, j9, ja, jb, jc, jd, je, jf, jg, jh, ji, jj, jk, jl, jm, jn, jo, jp, jq, jr, js, jt, ju, jv, jw, jx, jy, jz, jA, jB, jC, jD, jE, jF, jG, jH, jI, jJ, jK, jL, jM, jN, jO, jP, jQ, jR, jS, jT, jU, jV, jW, jX, jY, jZ, v0, v1, v2, v3, v4, v5, v6, v7, v8, v9, va, vb, vc, vd, ve, vf, vg, vh, vi, vj, vk, vl, vm, vn, vo, vp, vq, vr, vs, vt, vu, vv, vw, vx, vy, vz, vA, vB, vC, vD, vE, vF, vG, vH, vI, vJ, vK, vL, vM, vN, vO, vP, vQ, vR, vS, vT, vU, vV, vW, vX, vY, vZ, u0, u1, u2, u3, u4, u5, u6, u7, u8, u9, ua, ub, uc, ud, ue, uf, ug, uh, ui, uj, uk, ul, um, un, uo, up, uq, ur, us, ut, uu, uv, uw, ux, uy, uz, uA, uB, uC, uD], []⟩ wc := by
  conv => arg 2; whnf
  have hu26 := Tryz.underlying26
  have tok0 := Aside0.mk True.intro
  have p1_ : ((0 : Int) ≤ (i : Int)) = True := eq_true (Int.natCast_nonneg i)
  have q1_ : ((i : Int) < (bl.length : Int)) = True := eq_true (Int.ofNat_lt.mpr hi)
  have q2_ : (i < bl.length) = True := eq_true hi
  clear hi
  have n0_ := Aside0.mk (G.out.step (below_drew1 (Below.refl _ _)))
  clear G
  have G := n0_
  clear n0_
  refine wp_region_noPanic ?_
  refine start_ (n := 14) (S := fun w' => w'.cell? ⟨g_E, 0, none⟩ = some (.int .i64 en) ∧ w'.cell? ⟨g_E, 1, none⟩ = some (.slice A_e el.length c_e) ∧ w'.cell? ⟨g_B, 1, none⟩ = some (.slice (some ad) bl.length c_b) ∧ w'.cell? (ad.add i) = some (.int .i64 rv)) (ds := []) #[false, false, false, false, false, false, false, false, false, false, false, false, false, false] (by kernel_rfl) rfl rfl (⟨blk_cell (G.out.k 2 rfl) 0, blk_cell (G.out.k 2 rfl) 1, blk_cell (G.out.k 4 rfl) 1, G.out.cl 0 rfl⟩) (fun hHeld => ?_)
  refine with_tabW lc_tab39 lc_bits39 (fun HT_ HW_ => ?_)
  generalize wc.drew = wd at G hHeld ⊢
  have HB := Aside0.mk (Below.refl wd.heap.size wd)
  refine take_ (i := 0) (N := some 301) (v := ?_) (a' := ?_) #[true, false, false, false, false, false, false, false, false, false, false, false, false, false] rfl rfl (take_ofW HT_.out HW_.out (by kernel_rfl)) (fun _ _ _ h => h) (Or.inl ⟨by rfl, ?_⟩) hHeld ?_ ?_
  rotate_left
  · rintro w' ⟨s0, s1, s2, s3⟩
    go_simp
    with_reducible rfl
  rotate_left
  · simp only [Act.put, List.setIfInBounds_toArray, List.set_cons_zero, List.set_cons_succ, i64_w, i32_w]
    rfl
  refine pure_ (i := 1) (N := some 302) (v := ?_) (a' := ?_) #[true, true, false, false, false, false, false, false, false, false, false, false, false, false] rfl rfl (any_of HT_.out (by kernel_rfl)) (fun _ _ _ h => h) (Or.inl ⟨by rfl, ?_⟩) ?_ ?_
  rotate_left
  · intro w'
    go_simp
    with_reducible rfl
  rotate_left
  · simp only [Act.put, List.setIfInBounds_toArray, List.set_cons_zero, List.set_cons_succ, i64_w, i32_w]
    rfl
  refine pure_ (i := 2) (N := some 303) (v := ?_) (a' := ?_) #[true, true, true, false, false, false, false, false, false, false, false, false, false, false] rfl rfl (any_of HT_.out (by kernel_rfl)) (fun _ _ _ h => h) (Or.inl ⟨by rfl, ?_⟩) ?_ ?_
  rotate_left
  · intro w'
    go_simp
    with_reducible rfl
  rotate_left
  · simp only [Act.put, List.setIfInBounds_toArray, List.set_cons_zero, List.set_cons_succ, i64_w, i32_w]
    rfl
  refine take_ (i := 3) (N := some 304) (v := ?_) (a' := ?_) #[true, true, true, true, false, false, false, false, false, false, false, false, false, false] rfl rfl (take_ofW HT_.out HW_.out (by kernel_rfl)) (fun _ _ _ h => h) (Or.inl ⟨by rfl, ?_⟩) hHeld ?_ ?_
  rotate_left
  · rintro w' ⟨s0, s1, s2, s3⟩
    go_simp
    with_reducible rfl
  rotate_left
  · simp only [Act.put, List.setIfInBounds_toArray, List.set_cons_zero, List.set_cons_succ, i64_w, i32_w]
    rfl
  refine pure_ (i := 4) (N := some 305) (v := ?_) (a' := ?_) #[true, true, true, true, true, false, false, false, false, false, false, false, false, false] rfl rfl (any_of HT_.out (by kernel_rfl)) (fun _ _ _ h => h) (Or.inl ⟨by rfl, ?_⟩) ?_ ?_
  rotate_left
  · intro w'
    go_simp
    with_reducible rfl
  rotate_left
  · simp only [Act.put, List.setIfInBounds_toArray, List.set_cons_zero, List.set_cons_succ, i64_w, i32_w]
    rfl
  refine pure_ (i := 5) (N := some 306) (v := ?_) (a' := ?_) #[true, true, true, true, true, true, false, false, false, false, false, false, false, false] rfl rfl (any_of HT_.out (by kernel_rfl)) (fun _ _ _ h => h) (Or.inl ⟨by rfl, ?_⟩) ?_ ?_
  rotate_left
  · intro w'
    go_simp
    with_reducible rfl
  rotate_left
  · simp only [Act.put, List.setIfInBounds_toArray, List.set_cons_zero, List.set_cons_succ, i64_w, i32_w]
    rfl
  refine take_ (i := 6) (N := some 307) (v := ?_) (a' := ?_) #[true, true, true, true, true, true, true, false, false, false, false, false, false, false] rfl rfl (take_ofW HT_.out HW_.out (by kernel_rfl)) (fun _ _ _ h => h) (Or.inl ⟨by rfl, ?_⟩) hHeld ?_ ?_
  rotate_left
  · rintro w' ⟨s0, s1, s2, s3⟩
    go_simp
    with_reducible rfl
  rotate_left
  · simp only [Act.put, List.setIfInBounds_toArray, List.set_cons_zero, List.set_cons_succ, i64_w, i32_w]
    rfl
  refine two_ (i := 7) (j := 11) (Ni := some 308) (Nj := some 43) #[true, true, true, true, true, true, true, true, false, false, false, false, false, false] #[true, true, true, true, true, true, true, false, false, false, false, true, false, false] rfl rfl rfl rfl (two_of HT_.out (by kernel_rfl)) (by decide) (by decide) (fun K hK => ?_) (fun K hK => ?_)
  · skip
    refine goes_ Tryz.func21 (by kernel_rfl) rfl #[.agg #[.int .i64 en, .slice A_e el.length c_e], .int .i64 (i : Int), .int .i64 rv] (by rfl) rfl rfl (by (try simp only [List.map_toArray, List.map_cons, List.map_nil]); first | done | rfl) ?_
    refine (impl_AddRung.calls kx en A_e c_e el (i : Int) rv bn bl true _ (Kd.C_below (G.out.c 1 rfl) HB.out) (G.out.l 1 rfl) H1.out).mono ?_
    rintro e wn ⟨v1, rfl, ho, hb⟩
    obtain ⟨A_g, c_g, e_⟩ := Kd.R_slice ho
    subst e_
    refine ⟨_, rfl, ?_⟩
    have n0_ := Aside0.mk (ho)
    have n1_ := Aside0.mk (below_step HB.out hb)
    clear HB
    have HO := n0_
    have HB := n1_
    clear n0_ n1_
    clear ho hb
    refine hK.out _ _ (⟨pw_cell_below HB.out (blk_cell (G.out.k 2 rfl) 0), pw_cell_below HB.out (blk_cell (G.out.k 2 rfl) 1), pw_cell_below HB.out (blk_cell (G.out.k 4 rfl) 1), pw_cell_below HB.out (G.out.cl 0 rfl)⟩) (fun hHeld => ?_)
    clear hK K
    refine norm_ (a' := ?_) ?_ ?_
    rotate_left
    · show Act.put _ (some 308) _ = _
      simp only [Act.put, List.setIfInBounds_toArray, List.set_cons_zero, List.set_cons_succ, i64_w, i32_w]
      rfl
    refine pure_ (i := 8) (N := some 300) (v := ?_) (a' := ?_) #[true, true, true, true, true, true, true, true, true, false, false, false, false, false] rfl rfl (any_of HT_.out (by kernel_rfl)) (fun _ _ _ h => h) (Or.inl ⟨by rfl, ?_⟩) ?_ ?_
    rotate_left
    · intro w'
      go_simp
      with_reducible rfl
    rotate_left
    · simp only [Act.put, List.setIfInBounds_toArray, List.set_cons_zero, List.set_cons_succ, i64_w, i32_w]
      rfl
    refine pure_ (i := 9) (N := some 309) (v := ?_) (a' := ?_) #[true, true, true, true, true, true, true, true, true, true, false, false, false, false] rfl rfl (any_of HT_.out (by kernel_rfl)) (fun _ _ _ h => h) (Or.inl ⟨by rfl, ?_⟩) ?_ ?_
    rotate_left
    · intro w'
      go_simp
      with_reducible rfl
    rotate_left
    · simp only [Act.put, List.setIfInBounds_toArray, List.set_cons_zero, List.set_cons_succ, i64_w, i32_w]
      rfl
    refine pure_ (i := 10) (N := some 310) (v := ?_) (a' := ?_) #[true, true, true, true, true, true, true, true, true, true, true, false, false, false] rfl rfl (any_of HT_.out (by kernel_rfl)) (fun _ _ _ h => h) (Or.inl ⟨by rfl, ?_⟩) ?_ ?_
    rotate_left
    · intro w'
      go_simp
      with_reducible rfl
    rotate_left
    · simp only [Act.put, List.setIfInBounds_toArray, List.set_cons_zero, List.set_cons_succ, i64_w, i32_w]
      rfl
    refine one_ (i := 11) (N := some 43) #[true, true, true, true, true, true, true, true, true, true, true, true, false, false] rfl rfl (one_of HT_.out (by kernel_rfl)) (by decide) (fun K hK => ?_)
    refine box_step ?hg (N := 43) ?hd (cs := #[.int .i64 0, .slice none 0 0]) (t := 26) ?hr ?_; (case hd => rfl); (case hg => rfl); (case hr => first | (go_simp; done) | (go_simp; rfl))
    intro g_G hg wb hbox hb
    have GE := Aside0.mk (by rw [hg]; exact below_size HB.out : wd.heap.size ≤ g_G)
    have n0_ := Aside0.mk (hbox)
    have n1_ := Aside0.mk (below_step HB.out hb)
    have n2_ := Aside0.mk (Kd.R_below HO.out hb)
    clear HB HO
    have BK := n0_
    have HB := n1_
    have HO := n2_
    clear n0_ n1_ n2_
    clear hbox hb hg
    refine hK.out _ _ (⟨pw_cell_below HB.out (blk_cell (G.out.k 2 rfl) 0), pw_cell_below HB.out (blk_cell (G.out.k 2 rfl) 1), pw_cell_below HB.out (blk_cell (G.out.k 4 rfl) 1), pw_cell_below HB.out (G.out.cl 0 rfl)⟩) (fun hHeld => ?_)
    clear hK K
    refine norm_ (a' := ?_) ?_ ?_
    rotate_left
    · show Act.put _ (some 43) _ = _
      simp only [Act.put, List.setIfInBounds_toArray, List.set_cons_zero, List.set_cons_succ, i64_w, i32_w]
      rfl
    refine one_ (i := 12) (N := none) #[true, true, true, true, true, true, true, true, true, true, true, true, true, false] rfl rfl (one_of HT_.out (by kernel_rfl)) (by decide) (fun K hK => ?_)
    obtain ⟨hs0, hs1⟩ := And.intro (blk_cell BK.out 0) (blk_cell BK.out 1)
    obtain ⟨hf0, hf1⟩ := And.intro (blk_frozen BK.out 0) (blk_frozen BK.out 1)
    refine skip_ (w1 := ?_) (by rfl) rfl ?_ ?_
    rotate_left
    · go_simp
      rfl
    have n0_ := Aside0.mk (below_set (j := 1) (v := .slice A_g bl.length c_g) (below_set (j := 0) (v := .int .i64 bn) HB.out GE.out) GE.out)
    have n1_ := Aside0.mk (blk_put (blk_put BK.out 0 (.int .i64 bn) rfl) 1 (.slice A_g bl.length c_g) rfl)
    have n2_ := Aside0.mk (Kd.R_far (p := ⟨g_G, 1, none⟩) (Kd.R_far (p := ⟨g_G, 0, none⟩) (Kd.R_types HO.out BK.out (by decide)) (fun _ hk => hk.2) (.int .i64 bn)) (fun _ hk => hk.2) (.slice A_g bl.length c_g))
    clear HB BK HO
    have HB := n0_
    have BK := n1_
    have HO := n2_
    clear n0_ n1_ n2_
    clear hs0 hs1 hf0 hf1
    refine hK.out _ _ (⟨pw_cell_below HB.out (blk_cell (G.out.k 2 rfl) 0), pw_cell_below HB.out (blk_cell (G.out.k 2 rfl) 1), pw_cell_below HB.out (blk_cell (G.out.k 4 rfl) 1), pw_cell_below HB.out (G.out.cl 0 rfl)⟩) (fun hHeld => ?_)
    clear hK K
    refine pure_ (i := 13) (N := some 44) (v := ?_) (a' := ?_) #[true, true, true, true, true, true, true, true, true, true, true, true, true, true] rfl rfl (any_of HT_.out (by kernel_rfl)) (fun _ _ _ h => h) (Or.inl ⟨by rfl, ?_⟩) ?_ ?_
    rotate_left
    · intro w'
      go_simp
      with_reducible rfl
    rotate_left
    · simp only [Act.put, List.setIfInBounds_toArray, List.set_cons_zero, List.set_cons_succ, i64_w, i32_w]
      rfl
    refine done_ (done_of HT_.out (by kernel_rfl)) ?_
    have HR := Kd.R_reads' HO.out
    refine NoPanic.normal ?_
    refine hK _ _ (Met.intro (hJ _ _ ⟨g_G, A_g, c_g, LcX.mk A1 c1 l1 g_B bn bl (some ad) c_b w g_G A_g c_g (((G.out.step HB.out).addK BK.out).has HR.2.2 HR.2.1 |>.pick [0, 1, 5, 6]) (by kernel_rfl)⟩))
  · skip
    refine box_step ?hg (N := 43) ?hd (cs := #[.int .i64 0, .slice none 0 0]) (t := 26) ?hr ?_; (case hd => rfl); (case hg => rfl); (case hr => first | (go_simp; done) | (go_simp; rfl))
    intro g_G hg wb hbox hb
    have GE := Aside0.mk (by rw [hg]; exact below_size HB.out : wd.heap.size ≤ g_G)
    have n0_ := Aside0.mk (hbox)
    have n1_ := Aside0.mk (below_step HB.out hb)
    clear HB
    have BK := n0_
    have HB := n1_
    clear n0_ n1_
    clear hbox hb hg
    refine hK.out _ _ (⟨pw_cell_below HB.out (blk_cell (G.out.k 2 rfl) 0), pw_cell_below HB.out (blk_cell (G.out.k 2 rfl) 1), pw_cell_below HB.out (blk_cell (G.out.k 4 rfl) 1), pw_cell_below HB.out (G.out.cl 0 rfl)⟩) (fun hHeld => ?_)
    clear hK K
    refine norm_ (a' := ?_) ?_ ?_
    rotate_left
    · show Act.put _ (some 43) _ = _
      simp only [Act.put, List.setIfInBounds_toArray, List.set_cons_zero, List.set_cons_succ, i64_w, i32_w]
      rfl
    refine one_ (i := 7) (N := some 308) #[true, true, true, true, true, true, true, true, false, false, false, true, false, false] rfl rfl (one_of HT_.out (by kernel_rfl)) (by decide) (fun K hK => ?_)
    refine goes_ Tryz.func21 (by kernel_rfl) rfl #[.agg #[.int .i64 en, .slice A_e el.length c_e], .int .i64 (i : Int), .int .i64 rv] (by rfl) rfl rfl (by (try simp only [List.map_toArray, List.map_cons, List.map_nil]); first | done | rfl) ?_
    refine (impl_AddRung.calls kx en A_e c_e el (i : Int) rv bn bl true _ (Kd.C_below (G.out.c 1 rfl) HB.out) (G.out.l 1 rfl) H1.out).mono ?_
    rintro e wn ⟨v1, rfl, ho, hb⟩
    obtain ⟨A_g, c_g, e_⟩ := Kd.R_slice ho
    subst e_
    refine ⟨_, rfl, ?_⟩
    have n0_ := Aside0.mk (ho)
    have n1_ := Aside0.mk (below_step HB.out hb)
    have n2_ := Aside0.mk (blk_below BK.out hb)
    clear HB BK
    have HO := n0_
    have HB := n1_
    have BK := n2_
    clear n0_ n1_ n2_
    clear ho hb
    refine hK.out _ _ (⟨pw_cell_below HB.out (blk_cell (G.out.k 2 rfl) 0), pw_cell_below HB.out (blk_cell (G.out.k 2 rfl) 1), pw_cell_below HB.out (blk_cell (G.out.k 4 rfl) 1), pw_cell_below HB.out (G.out.cl 0 rfl)⟩) (fun hHeld => ?_)
    clear hK K
    refine norm_ (a' := ?_) ?_ ?_
    rotate_left
    · show Act.put _ (some 308) _ = _
      simp only [Act.put, List.setIfInBounds_toArray, List.set_cons_zero, List.set_cons_succ, i64_w, i32_w]
      rfl
    refine pure_ (i := 8) (N := some 300) (v := ?_) (a' := ?_) #[true, true, true, true, true, true, true, true, true, false, false, true, false, false] rfl rfl (any_of HT_.out (by kernel_rfl)) (fun _ _ _ h => h) (Or.inl ⟨by rfl, ?_⟩) ?_ ?_
    rotate_left
    · intro w'
      go_simp
      with_reducible rfl
    rotate_left
    · simp only [Act.put, List.setIfInBounds_toArray, List.set_cons_zero, List.set_cons_succ, i64_w, i32_w]
      rfl
    refine pure_ (i := 9) (N := some 309) (v := ?_) (a' := ?_) #[true, true, true, true, true, true, true, true, true, true, false, true, false, false] rfl rfl (any_of HT_.out (by kernel_rfl)) (fun _ _ _ h => h) (Or.inl ⟨by rfl, ?_⟩) ?_ ?_
    rotate_left
    · intro w'
      go_simp
      with_reducible rfl
    rotate_left
    · simp only [Act.put, List.setIfInBounds_toArray, List.set_cons_zero, List.set_cons_succ, i64_w, i32_w]
      rfl
    refine pure_ (i := 10) (N := some 310) (v := ?_) (a' := ?_) #[true, true, true, true, true, true, true, true, true, true, true, true, false, false] rfl rfl (any_of HT_.out (by kernel_rfl)) (fun _ _ _ h => h) (Or.inl ⟨by rfl, ?_⟩) ?_ ?_
    rotate_left
    · intro w'
      go_simp
      with_reducible rfl
    rotate_left
    · simp only [Act.put, List.setIfInBounds_toArray, List.set_cons_zero, List.set_cons_succ, i64_w, i32_w]
      rfl
    refine one_ (i := 12) (N := none) #[true, true, true, true, true, true, true, true, true, true, true, true, true, false] rfl rfl (one_of HT_.out (by kernel_rfl)) (by decide) (fun K hK => ?_)
    obtain ⟨hs0, hs1⟩ := And.intro (blk_cell BK.out 0) (blk_cell BK.out 1)
    obtain ⟨hf0, hf1⟩ := And.intro (blk_frozen BK.out 0) (blk_frozen BK.out 1)
    refine skip_ (w1 := ?_) (by rfl) rfl ?_ ?_
    rotate_left
    · go_simp
      rfl
    have n0_ := Aside0.mk (below_set (j := 1) (v := .slice A_g bl.length c_g) (below_set (j := 0) (v := .int .i64 bn) HB.out GE.out) GE.out)
    have n1_ := Aside0.mk (blk_put (blk_put BK.out 0 (.int .i64 bn) rfl) 1 (.slice A_g bl.length c_g) rfl)
    have n2_ := Aside0.mk (Kd.R_far (p := ⟨g_G, 1, none⟩) (Kd.R_far (p := ⟨g_G, 0, none⟩) (Kd.R_types HO.out BK.out (by decide)) (fun _ hk => hk.2) (.int .i64 bn)) (fun _ hk => hk.2) (.slice A_g bl.length c_g))
    clear HB BK HO
    have HB := n0_
    have BK := n1_
    have HO := n2_
    clear n0_ n1_ n2_
    clear hs0 hs1 hf0 hf1
    refine hK.out _ _ (⟨pw_cell_below HB.out (blk_cell (G.out.k 2 rfl) 0), pw_cell_below HB.out (blk_cell (G.out.k 2 rfl) 1), pw_cell_below HB.out (blk_cell (G.out.k 4 rfl) 1), pw_cell_below HB.out (G.out.cl 0 rfl)⟩) (fun hHeld => ?_)
    clear hK K
    refine pure_ (i := 13) (N := some 44) (v := ?_) (a' := ?_) #[true, true, true, true, true, true, true, true, true, true, true, true, true, true] rfl rfl (any_of HT_.out (by kernel_rfl)) (fun _ _ _ h => h) (Or.inl ⟨by rfl, ?_⟩) ?_ ?_
    rotate_left
    · intro w'
      go_simp
      with_reducible rfl
    rotate_left
    · simp only [Act.put, List.setIfInBounds_toArray, List.set_cons_zero, List.set_cons_succ, i64_w, i32_w]
      rfl
    refine done_ (done_of HT_.out (by kernel_rfl)) ?_
    have HR := Kd.R_reads' HO.out
    refine NoPanic.normal ?_
    refine hK _ _ (Met.intro (hJ _ _ ⟨g_G, A_g, c_g, LcX.mk A1 c1 l1 g_B bn bl (some ad) c_b w g_G A_g c_g (((G.out.step HB.out).addK BK.out).has HR.2.2 HR.2.1 |>.pick [0, 1, 5, 6]) (by kernel_rfl)⟩))

end
end Go.Proofs.YtlmiiijjjcddkaaGreatDoor.PLg
