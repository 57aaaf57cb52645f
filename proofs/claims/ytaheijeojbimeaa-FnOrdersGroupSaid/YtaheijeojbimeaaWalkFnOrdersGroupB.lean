-- Written for this claim by a program of this session (myprint.py) over the kit's printer.
import Derived.Test.YtaheijeojbimeaaWalkFnOrdersGroupA
import Derived.Test.YtaheijeojbimeaaPOgx0
import Derived.Test.YtaheijeojbimeaaPOgx3
namespace Go.Proofs.Ytaheijeojbimeaa.POg
noncomputable section
open Go.RowKit Go.Proofs.YtaheijeojbimeaaW.PrintWords Go.Proofs.YtaheijeojbimeaaW.PrintLast Go.Proofs.YtaheijeojbimeaaW.PrintMore
attribute [local go_sem] max2_int min2_int max_two min_two max_three min_three max_four min_four   -- for this text's walks alone
set_option linter.unusedVariables false
set_option linter.unusedSimpArgs false


set_option maxHeartbeats 16000000 in
set_option maxRecDepth 1000000 in
theorem og_rest (s0 s2 s3 s4 s22 s23 s24 s25 s26 s27 s28 s29 s30 s31 s32 s33 s34 s35 s36 s37 s38 s39 s40 s41 s42 s43 s44 s45 s46 s47 s48 s49 s50 s51 s52 s53 s54 s55 s56 s57 s58 s59 s60 s61 s62 s63 s64 s65 s66 s67 s68 s69 s70 s71 s72 s73 s74 s75 s76 s77 s78 s79 s80 s81 s82 s83 s84 s85 s86 s87 s88 s89 s90 s91 s92 s93 s94 s95 s96 s97 s98 s99 s100 s101 s102 s103 s104 s105 s106 s107 s108 s109 s110 s111 s112 s113 s114 s115 s116 s117 s118 s119 s120 s121 s122 s123 s124 s125 s126 s127 s128 s129 s130 s131 s132 s133 s134 s135 s136 s137 s138 s139 s140 s141 s142 s143 s144 s145 s146 s147 s148 s149 s150 s151 s152 s153 s154 s155 s156 s157 s158 s159 s160 s161 s162 s163 s164 s165 s166 s167 s168 s169 s170 s171 s172 s173 s174 s175 s176 s177 s178 s179 s180 s181 s182 s183 s184 s185 s186 s187 s188 s189 s190 s191 s192 s193 s194 s195 s196 s197 s198 s199 s200 s201 s202 s203 s204 s205 s206 s207 s208 s209 s210 s211 s212 s213 s214 s215 s216 s217 s218 s219 s220 s221 s222 s223 s224 s225 s226 s227 s228 s229 s230 s231 s232 s233 s234 s235 s236 s237 s238 s239 s240 s241 s242 s243 s244 s245 s246 s247 s248 s249 s250 s251 s252 s253 s254 s255 s256 s257 s258 s259 s260 s261 s262 s263 s264 s265 s266 s267 s268 s269 s270 s271 s272 s273 s274 s275 s276 s277 s278 s279 s280 s281 s282 s283 s284 s285 s286 s287 s288 s289 s290 s291 s292 s293 s294 s295 s296 s297 s298 s299 s300 s301 s302 s303 s304 s305 s306 s307 s308 s309 s310 s311 s312 s313 s314 s315 s316 s317 s318 s319 s320 s321 s322 s323 s324 s325 s326 s327 s328 s329 s330 s331 s332 s333 s334 s335 s336 s337 s338 s339 s340 s341 s342 s343 s344 s345 s346 s347 s348 s349 s350 s351 s352 s353 s354 s355 s356 s357 s358 s359 s360 s361 s362 s363 s364 s365 s366 s367 s368 s369 s370 s371 s372 s373 s374 s375 s376 s377 s378 s379 s380 s381 s382 s383 s384 s385 s386 s387 : Value) (A1 : Option Addr) (c1 : Nat) (l1 : List Int) (A_p : Option Addr) (c_p : Nat) (p : List Int) (t : Int) (ok : Bool) (A_C1 : Option Addr) (c_C1 : Nat) (A_C2 : Option Addr) (c_C2 : Nat) (C : List (List Int)) (sg : Int) (A_b1 : Option Addr) (c_b1 : Nat) (A_b2 : Option Addr) (c_b2 : Nat) (bk : List Int) (w wc : World) (HR1 : Aside0 (Kd.C (Kd.int .u8) w A1 l1.length l1)) (HC1 : Aside0 (l1.length ≤ c1)) (G : Aside0 (Bag w wc [Ent.of (Kd.int .i64) A_b2 c_b2 bk, Ent.of (Kd.int .i64) A_b1 c_b1 bk, Ent.of (Kd.slice 3 (Kd.int .i64)) A_C2 c_C2 C, Ent.of (Kd.slice 3 (Kd.int .i64)) A_C1 c_C1 C, Ent.of (Kd.int .i64) A_p c_p p])) (HB : Aside0 (ok = true → OgBody p t C sg bk)) (HT : Aside0 (OgTail l1)) :
    Code.wp Try.prog og_code14 (bodyPost Try.prog Try.f3 fun e w' => e = .returned (.bool true) ∧ Below w.heap.size w w') ⟨#[s0, .slice A1 l1.length c1, s2, s3, s4, .slice A_p p.length c_p, .int .i64 t, .bool ok, .int .i64 t, .bool ok, .slice A_C1 C.length c_C1, .bool ok, .slice A_C2 C.length c_C2, .bool ok, .int .i64 sg, .bool ok, .int .i64 sg, .bool ok, .slice A_b1 bk.length c_b1, .bool ok, .slice A_b2 bk.length c_b2, .bool ok, s22, s23, s24, s25, s26, s27, s28, s29, s30, s31, s32, s33, s34, s35, s36, s37, s38, s39, s40, s41, s42, s43, s44, s45, s46, s47, s48, s49, s50, s51, s52, s53, s54, s55, s56, s57, s58, s59, s60, s61, s62, s63, s64, s65, s66, s67, s68, s69, s70, s71, s72, s73, s74, s75, s76, s77, s78, s79, s80, s81, s82, s83, s84, s85, s86, s87, s88, s89, s90, s91, s92, s93, s94, s95, s96, s97, s98, s99, s100, s101, s102, s103, s104, s105, s106, s107, s108, s109, s110, s111, s112, s113, s114, s115, s116, s117, s118, s119, s120, s121, s122, s123, s124, s125, s126, s127, s128, s129, s130, s131, s132, s133, s134, s135, s136, s137, s138, s139, s140, s141, s142, s143, s144, s145, s146, s147, s148, s149, s150, s151, s152, s153, s154, s155, s156, s157, s158, s159, s160, s161, s162, s163, s164, s165, s166, s167, s168, s169, s170, s171, s172, s173, s174, s175, s176, s177, s178, s179, s180, s181, s182, s183, s184, s185, s186, s187, s188, s189, s190, s191, s192, s193, s194, s195, s196, s197, s198, s199, s200, s201, s202, s203, s204, s205, s206, s207, s208, s209, s210, s211, s212, s213, s214, s215, s216, s217, s218, s219, s220, s221, s222, s223, s224, s225, s226, s227, s228, s229, s230, s231, s232, s233, s234, s235, s236, s237, s238, s239, s240, s241, s242, s243, s244, s245, s246, s247, s248, s249, s250, s251, s252, s253, s254, s255, s256, s257, s258, s259, s260, s261, s262, s263, s264, s265, s266, s267, s268, s269, s270, s271, s272, s273, s274, s275, s276, s277, s278, s279, s280, s281, s282, s283, s284, s285, s286, s287, s288, s289, s290, s291, s292, s293, s294, s295, s296, s297, s298, s299, s300, s301, s302, s303, s304, s305, s306, s307, s308, s309, s310, s311, s312, s313, s314, s315, s316, s317, s318, s319, s320, s321, s322, s323, s324, s325, s326, s327, s328, s329, s330, s331, s332, s333, s334, s335, s336, s337, s338, s339, s340, s341, s342, s343, s344, s345, s346, s347, s348, s349, s350, s351, s352, s353, s354, s355, s356, s357, s358, s359, s360, s361, s362, s363, s364, s365, s366, s367, s368, s369, s370, s371, s372, s373, s374, s375, s376, s377, s378, s379, s380, s381, s382, s383, s384, s385, s386, s387], []⟩ wc := by
  conv => arg 2; whnf
  go_upto_if 167 with (fail)
  go_cut [] (fun wc => Aside0 (Bag w wc []))
  case first =>
    clear HT
    cases ok with
    | false =>
      go_wp2
      go_meet
      case rel => exact ⟨G.out.pick []⟩
    | true =>
      obtain ⟨tn, inv, W, home, rfl, ht1, htn, hCl, hCx, hpl, hcy, hN, hSg, ⟨k20, h20⟩, hpar, hW0, hWs, ⟨k21, h21⟩, ⟨k22, h22⟩, ⟨k23, h23⟩⟩ := HB.out rfl
      have HTN := Aside0.mk htn
      have HT1 := Aside0.mk ht1
      have HCL := Aside0.mk hCl
      have HCX := Aside0.mk hCx
      have HPL := Aside0.mk hpl
      have HCY := Aside0.mk hcy
      have HN := Aside0.mk hN
      have HSG := Aside0.mk hSg
      have H20 := Aside0.mk h20
      have HPAR := Aside0.mk hpar
      have HW0 := Aside0.mk hW0
      have HWS := Aside0.mk hWs
      have H21 := Aside0.mk h21
      have H22 := Aside0.mk h22
      have H23 := Aside0.mk h23
      clear htn ht1 hCl hCx hpl hcy hN hSg h20 hpar hW0 hWs h21 h22 h23 HB
      go_wp2
      go_loopg [22, 23, 170] C.length (fun kq v22 v23 v170 w' => ∃ i : Nat, v22 = .int .i64 (og_n C i) ∧ v23 = .int .i64 (og_s C i) ∧ v170 = .int .i64 (i : Int) ∧ Aside0 (i + kq = C.length) ∧ Aside0 (Bag w w' [Ent.of (Kd.int .i64) A_b1 c_b1 bk, Ent.of (Kd.slice 3 (Kd.int .i64)) A_C1 c_C1 C, Ent.of (Kd.int .i64) A_p c_p p]))
      case atStart => exact ⟨0, rfl, rfl, rfl, ⟨by omega⟩, ⟨G.out.pick [1, 3, 4]⟩⟩
      case round =>
        clear G
        obtain ⟨i, rfl, rfl, rfl, HI, G⟩ := hrel
        cases gk with
        | zero =>
          obtain rfl : i = C.length := by have := HI.out; omega
          rw [HN.out, HSG.out]
          have ct : decide ((C.length : Int) < (C.length : Int)) = false := decide_eq_false (by omega)
          have hp1 : (Int.tmod inv 2 == 0) = (sg == 1) := HPAR.out
          have hp2 : ((Int.tmod inv 2 == 0) != (sg == 1)) = false := by rw [HPAR.out]; simp
          have tok0 := Aside0.mk True.intro
          go_wp2_with (first | (go_at_call 20; have tk_ := tok0; clear tk_ tok0; (with_reducible refine (impl_InversionsOf.calls _ _ _ (p) _ _ _ ?sd0_ ?sd1_ H20.out).mono ?_); (case sd0_ => repeat (first | exact G.out.c 2 rfl | (with_reducible refine Kd.C_drewN ?_ _) | (with_reducible refine Kd.C_drew ?_))); (case sd1_ => exact G.out.l 2 rfl); rintro e w' ⟨rfl, hb⟩; replace G := Aside0.mk (G.out.step hb); clear hb; have tok1 := Aside0.mk True.intro))
          clear hp1 hp2
          go_loopg [30, 31] (tn - 1) (fun kq v30 v31 w' => ∃ (i : Nat) (A : Option Addr) (c : Nat), v30 = .slice A (W i).length c ∧ v31 = .int .i64 ((i : Int) + 1) ∧ Aside0 (i + 1 + kq = tn) ∧ Aside0 (Bag w w' [Ent.of (Kd.int .i64) A c (W i), Ent.of (Kd.int .i64) A_b1 c_b1 bk, Ent.of (Kd.int .i64) A_p c_p p]))
          case atStart => exact ⟨0, A_p, c_p, by rw [HW0.out], rfl, ⟨by have := HT1.out; omega⟩, ⟨by rw [HW0.out]; exact G.out.pick [2, 0, 2]⟩⟩
          case round =>
            clear G
            obtain ⟨i, A, c, rfl, rfl, HI, G⟩ := hrel
            cases gk with
            | zero =>
              have hi : i = tn - 1 := by have := HI.out; omega
              have HWi := Aside0.mk (show (∃ k, laws_kSorted.f k (W i) = some true) from hi ▸ ⟨k21, H21.out⟩)
              obtain ⟨k24, h24⟩ := HWi.out
              have H24 := Aside0.mk h24
              have HI0 := HI.out
              have ct : decide ((i : Int) + 1 < (tn : Int)) = false := decide_eq_false (by omega)
              clear hi HWi h24 HI0
              have tok0 := Aside0.mk True.intro
              go_wp2_with (first | (go_at_call 22; have tk_ := tok0; clear tk_ tok0; (with_reducible refine (impl_ThenOrder.calls _ _ _ (p) _ _ (bk) _ _ _ ?sd0_ ?sd1_ ?sd2_ ?sd3_ H22.out).mono ?_); (case sd0_ => repeat (first | exact G.out.c 2 rfl | (with_reducible refine Kd.C_drewN ?_ _) | (with_reducible refine Kd.C_drew ?_))); (case sd1_ => exact G.out.l 2 rfl); (case sd2_ => repeat (first | exact G.out.c 1 rfl | (with_reducible refine Kd.C_drewN ?_ _) | (with_reducible refine Kd.C_drew ?_))); (case sd3_ => exact G.out.l 1 rfl); rintro e w' ⟨v0_, rfl, ho0, hb⟩; obtain ⟨A_h, c_h, e_⟩ := Kd.R_slice ho0; subst e_; replace G := Aside0.mk (G.out.addR hb ho0); clear ho0 hb; have tok1 := Aside0.mk True.intro) | (go_at_call 21; have tk_ := tok1; clear tk_ tok1; (with_reducible refine (laws_kSorted.calls _ _ _ ((W i)) _ _ ?sd0_ ?sd1_ H24.out).mono ?_); (case sd0_ => repeat (first | exact G.out.c 1 rfl | (with_reducible refine Kd.C_drewN ?_ _) | (with_reducible refine Kd.C_drew ?_))); (case sd1_ => exact G.out.l 1 rfl); rintro e w' ⟨rfl, hd⟩; replace G := Aside0.mk (G.out.step hd.below); clear hd; have tok2 := Aside0.mk True.intro) | (go_at_call 21; have tk_ := tok2; clear tk_ tok2; (with_reducible refine (laws_kSorted.calls _ _ _ (home) _ _ ?sd0_ ?sd1_ H23.out).mono ?_); (case sd0_ => repeat (first | exact G.out.c 0 rfl | (with_reducible refine Kd.C_drewN ?_ _) | (with_reducible refine Kd.C_drew ?_))); (case sd1_ => exact G.out.l 0 rfl); rintro e w' ⟨rfl, hd⟩; replace G := Aside0.mk (G.out.step hd.below); clear hd; have tok3 := Aside0.mk True.intro))
              go_meet
              case rel => exact ⟨G.out.pick []⟩
            | succ k1_ =>
              have HI0 := HI.out
              have ht3 := HTN.out
              obtain ⟨⟨k24, h24⟩, b_, ⟨k25, h25⟩⟩ := HWS.out i (by omega)
              have H24 := Aside0.mk h24
              have H25 := Aside0.mk h25
              have ct : decide ((i : Int) + 1 < (tn : Int)) = true := decide_eq_true (by omega)
              have hwr : wrap64 ((i : Int) + 1 + 1) = (i : Int) + 1 + 1 := by unfold wrap64; omega
              have HWR := Aside0.mk hwr
              clear h24 h25 HI0 ht3 hwr
              have tok0 := Aside0.mk True.intro
              go_wp2_with (first | (go_at_call 21; have tk_ := tok0; clear tk_ tok0; (with_reducible refine (laws_kSorted.calls _ _ _ ((W i)) _ _ ?sd0_ ?sd1_ H24.out).mono ?_); (case sd0_ => repeat (first | exact G.out.c 0 rfl | (with_reducible refine Kd.C_drewN ?_ _) | (with_reducible refine Kd.C_drew ?_))); (case sd1_ => exact G.out.l 0 rfl); rintro e w' ⟨rfl, hd⟩; replace G := Aside0.mk (G.out.step hd.below); clear hd; have tok1 := Aside0.mk True.intro) | (go_at_call 22; have tk_ := tok1; clear tk_ tok1; (with_reducible refine (impl_ThenOrder.calls _ _ _ ((W i)) _ _ (p) _ _ _ ?sd0_ ?sd1_ ?sd2_ ?sd3_ H25.out).mono ?_); (case sd0_ => repeat (first | exact G.out.c 0 rfl | (with_reducible refine Kd.C_drewN ?_ _) | (with_reducible refine Kd.C_drew ?_))); (case sd1_ => exact G.out.l 0 rfl); (case sd2_ => repeat (first | exact G.out.c 2 rfl | (with_reducible refine Kd.C_drewN ?_ _) | (with_reducible refine Kd.C_drew ?_))); (case sd3_ => exact G.out.l 2 rfl); rintro e w' ⟨v0_, rfl, ho0, hb⟩; obtain ⟨A_n, c_n, e_⟩ := Kd.R_slice ho0; subst e_; replace G := Aside0.mk (G.out.addR hb ho0); clear ho0 hb; have tok2 := Aside0.mk True.intro))
              go_roundg k1_
              case measure => omega
              case rel => exact ⟨i + 1, A_n, c_n, rfl, (by have h_ := HWR.out; first | (simp [h_]; done) | (rw [h_]; simp; done) | (simp; omega)), ⟨by have := HI.out; omega⟩, ⟨G.out.pick [0, 2, 3]⟩⟩
        | succ k1_ =>
          obtain ⟨his, hin, hi, ct, ct2, p9, q9⟩ := og_step _ _ _ HCL.out HI.out
          have HIS := Aside0.mk his
          have HIN := Aside0.mk hin
          clear his hin
          obtain ⟨ad, A9, c9, e9, hx9, hl9, hC9⟩ := rows_at (G.out.c 1 rfl) i hi
          obtain ⟨cpos, cdiv, cless, cgo⟩ := HCY.out i hi
          have hcx : (C.getD i []).length ≤ 1000 := HCX.out _ (by rw [List.getD_eq_getElem?_getD, List.getElem?_eq_getElem hi]; exact List.getElem_mem hi)
          have HEI := Aside0.mk (show og_n C (i + 1) = wrap64 (og_n C i + ((C.getD i []).length : Int)) ∧ og_s C (i + 1) = (if (C.getD i []).length % 2 = 0 then wrap64 (-(og_s C i)) else og_s C i) from ⟨rfl, rfl⟩)
          obtain ⟨cy, hcy⟩ : ∃ cy, cy = C.getD i [] := ⟨_, rfl⟩
          rw [← hcy] at hx9 hl9 hC9 cpos cdiv cless cgo hcx HEI
          clear hcy
          subst e9
          have G2 := Aside0.mk (G.out.has hC9 hl9)
          clear G
          have G := G2
          clear G2
          have HPOS := Aside0.mk cpos
          have HDIV := Aside0.mk cdiv
          have HLESS := Aside0.mk cless
          have HGO := Aside0.mk cgo
          have HX := Aside0.mk hcx
          have HI2 := Aside0.mk hi
          clear cpos cdiv cless cgo hcx hC9 hl9 hi
          go_wp2
          clear hx9
          go_cut [196] (fun v wc => v = .bool false ∧ Aside0 (Bag w wc [Ent.of (Kd.int .i64) A9 c9 cy, Ent.of (Kd.int .i64) A_b1 c_b1 bk, Ent.of (Kd.slice 3 (Kd.int .i64)) (some ad) c_C1 C, Ent.of (Kd.int .i64) A_p c_p p]))
          case first =>
            by_cases hi0 : i = 0
            case pos =>
              have cz : decide ((0 : Int) < (i : Int)) = false := decide_eq_false (by omega)
              have cz2 : decide (0 < i) = false := decide_eq_false (by omega)
              obtain ⟨d1, d2, d3, m2, m1⟩ := og_div _ _ HPOS.out HDIV.out
              clear hi0
              repeat (go_quiet (fail); try go_wp2)
              go_meet
              case rel => exact ⟨rfl, ⟨G.out.step (by repeat (first | exact Below.refl _ _ | apply pw_below_drewN | apply below_drew1))⟩⟩
            case neg =>
              obtain ⟨d1, d2, d3, m2, m1⟩ := og_div _ _ HPOS.out HDIV.out
              have hl3 := HLESS.out (by omega)
              obtain ⟨ad8, A8, c8, e8, hx8, hl8, hC8⟩ := rows_at (G.out.c 2 rfl) (i - 1) (by have := HI2.out; omega)
              obtain rfl : ad = ad8 := by injection e8
              clear e8
              obtain ⟨cz_, hcz_⟩ : ∃ c_, c_ = C.getD (i - 1) [] := ⟨_, rfl⟩
              rw [← hcz_] at hx8 hl8 hC8 hl3
              clear hcz_
              obtain ⟨ad7, e7, hx7⟩ := int_hd hC8 hl3.1
              subst e7
              obtain ⟨ad6, e6, hx6⟩ := int_hd (G.out.c 0 rfl) HPOS.out
              subst e6
              obtain ⟨ji, hji, hji2, w1_, w2_, p8, q8, cz, cz2⟩ := og_prev i C.length HCL.out hi0 HI2.out
              have hx8' : wr.cell? (ad.add ji.toNat) = some (.slice (some ad7) cz_.length c8) := by rw [hji2]; exact hx8
              have s7 : (0 < cz_.length) = True := eq_true hl3.1
              have s6 : (0 < cy.length) = True := eq_true HPOS.out
              have l67 : decide (rd cy 0 ≤ rd cz_ 0) = false := decide_eq_false (by have := hl3.2; omega)
              clear hji hji2 hl3 hx8 hl8 hC8 hi0
              repeat (go_quiet (fail); try go_wp2)
              go_meet
              case rel => exact ⟨rfl, ⟨G.out.step (by repeat (first | exact Below.refl _ _ | apply pw_below_drewN | apply below_drew1))⟩⟩
          case rest =>
            clear G
            obtain ⟨rfl, G⟩ := hcut
            go_wp2
            go_loopg [199] cy.length (fun kq v199 w' => ∃ j : Nat, v199 = .int .i64 (j : Int) ∧ Aside0 (j + kq = cy.length) ∧ Aside0 (Bag w w' [Ent.of (Kd.int .i64) A9 c9 cy, Ent.of (Kd.int .i64) A_b1 c_b1 bk, Ent.of (Kd.slice 3 (Kd.int .i64)) (some ad) c_C1 C, Ent.of (Kd.int .i64) A_p c_p p]))
            case atStart => exact ⟨0, rfl, ⟨by omega⟩, ⟨G.out.step (by repeat (first | exact Below.refl _ _ | apply pw_below_drewN | apply below_drew1))⟩⟩
            case round =>
              clear G
              obtain ⟨j, rfl, HJ, G⟩ := hrel
              cases gk with
              | zero =>
                obtain ⟨cj, cj2⟩ := og_end _ _ HJ.out
                by_cases hpar : cy.length % 2 = 0
                case pos =>
                  have HPR := Aside0.mk hpar
                  have e3 : cy.length % 2 = 0 := by omega
                  have e1 : (cy.length : Int) % 2 = 0 := (og_par _ _ e3).1
                  have e2 : Int.tmod (cy.length : Int) 2 = 0 := (og_par _ _ e3).2
                  clear hpar
                  go_wp2
                  go_roundg k1_
                  case measure => omega
                  case rel => exact ⟨i + 1, (by rw [HEI.out.1]), (by rw [HEI.out.2, if_pos HPR.out]), HIS.out, HIN, ⟨G.out.pick [1, 2, 3]⟩⟩
                case neg =>
                  have HPR := Aside0.mk hpar
                  have e3 : cy.length % 2 = 1 := by omega
                  have e1 : (cy.length : Int) % 2 = 1 := (og_par _ _ e3).1
                  have e2 : Int.tmod (cy.length : Int) 2 = 1 := (og_par _ _ e3).2
                  clear hpar
                  go_wp2
                  go_roundg k1_
                  case measure => omega
                  case rel => exact ⟨i + 1, (by rw [HEI.out.1]), (by rw [HEI.out.2, if_neg HPR.out]), HIS.out, HIN, ⟨G.out.pick [1, 2, 3]⟩⟩
              | succ k2_ =>
                obtain ⟨hjs, hjn, HJ0, _⟩ := og_step _ _ _ HX.out HJ.out
                have HJS := Aside0.mk hjs
                have HJN := Aside0.mk hjn
                clear hjs hjn
                obtain ⟨g1, g2, g3, g4⟩ := HGO.out j HJ0
                obtain ⟨ad1, e1, hx1⟩ := int_at (G.out.c 0 rfl) j HJ0
                subst e1
                obtain ⟨ad2, e2, hx2⟩ := Kd.at_int (G.out.c 3 rfl) _ g1 g2
                subst e2
                obtain ⟨mi, hmi, hmi2, w1_, w2_, w3_, w4_, p3, q3, p1_, q1_, cj, cj2, s4, d1, d2, d3, hm0⟩ := og_next cy.length j HX.out HJ0
                obtain ⟨ad3, e3, hx3⟩ := int_at (G.out.c 0 rfl) _ hm0
                obtain rfl : ad1 = ad3 := by injection e3
                clear e3
                obtain ⟨ad4, e4, hx4⟩ := int_hd (G.out.c 0 rfl) HPOS.out
                obtain rfl : ad1 = ad4 := by injection e4
                clear e4
                rw [g3] at hx2
                have hx3' : wr.cell? (ad1.add mi.toNat) = some (.int .i64 (rd cy mi)) := by rw [hmi2, hmi]; exact hx3
                rw [← hmi] at hx2
                have hlt : decide (rd cy (j : Int) < rd cy 0) = false := decide_eq_false (by omega)
                have p2_ := eq_true g1
                have q2_ := eq_true g2
                clear hmi hmi2 hx3 g1 g2 g3 g4 hm0 HJ0
                go_wp2
                repeat (go_quiet (fail); try go_wp2)
                go_roundg k2_
                case measure => omega
                case rel => exact ⟨j + 1, (by first | exact HJS.out | rfl | (simp; done)), HJN, ⟨G.out.step (by repeat (first | exact Below.refl _ _ | apply pw_below_drewN | apply below_drew1))⟩⟩
  case rest =>
    rename_i aK
    exact aK _ _ (og_tail _ _ _ _ _ _ _ _ _ _ _ _ _ _ _ _ _ _ _ _ _ _ _ _ _ _ _ _ _ _ _ _ _ _ _ _ _ _ _ _ _ _ _ _ _ _ _ _ _ _ _ _ _ _ _ _ _ _ _ _ _ _ _ _ _ _ _ _ _ _ _ _ _ _ _ _ _ _ _ _ _ _ _ _ _ _ _ _ _ _ _ _ _ _ _ _ _ _ _ _ _ _ _ _ _ _ _ _ _ _ _ _ _ _ _ _ _ _ _ _ _ _ _ _ _ _ _ _ _ _ _ _ _ _ _ _ _ _ _ _ _ _ _ _ _ _ _ _ _ _ _ _ _ _ _ _ _ _ _ _ _ _ _ _ _ _ _ _ _ _ _ _ _ _ _ _ _ _ _ _ _ _ _ _ _ _ _ _ _ _ _ _ _ _ _ _ _ _ _ _ _ _ _ _ _ _ _ _ _ _ _ _ _ _ _ _ _ _ _ _ _ _ _ _ _ _ _ _ _ _ _ _ _ _ _ _ _ _ _ _ _ _ _ _ _ _ _ _ _ _ _ _ _ _ _ _ _ _ _ _ _ _ _ _ _ _ _ _ _ _ _ _ _ _ _ _ _ _ _ _ _ _ _ _ _ _ _ _ _ _ _ _ _ _ _ _ _ _ _ _ _ _ _ _ _ _ _ _ _ _ _ _ _ _ _ _ _ _ _ _ _ _ _ _ _ _ _ _ _ _ _ _ _ _ _ _ _ _ _ _ _ _ _ _ _ _ _ _ _ _ _ _ _ _ _ _ _ _ _ _ _ _ _ _ _ _ _ _ _ _ _ _ _ _ _ _ _ _ _ _ _ _ _ _ _ _ _ A1 c1 l1 w _ HR1 HC1 hcut HT)

end
end Go.Proofs.Ytaheijeojbimeaa.POg
