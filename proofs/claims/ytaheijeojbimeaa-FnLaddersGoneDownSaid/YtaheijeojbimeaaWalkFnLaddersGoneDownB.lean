-- Written for this claim by a program of this session (myprint.py) over the kit's printer.
import Derived.Test.YtaheijeojbimeaaWalkFnLaddersGoneDownA
import Derived.Test.YtaheijeojbimeaaPGdx0
import Derived.Deep.RegionHeld3
namespace Go.Proofs.Ytaheijeojbimeaa.PGd
noncomputable section
open Go.RowKit Go.Proofs.YtaheijeojbimeaaW.PrintWords Go.Proofs.YtaheijeojbimeaaW.PrintLast Go.Proofs.YtaheijeojbimeaaW.PrintMore
attribute [local go_sem] max2_int min2_int max_two min_two max_three min_three max_four min_four   -- for this text's walks alone
set_option linter.unusedVariables false
set_option linter.unusedSimpArgs false


set_option maxRecDepth 1000000 in
def gdFr (v : Value) (f : Nat → Value) : Act := ⟨#[f 0, v, f 2, f 3, f 4, f 5, f 6, f 7, f 8, f 9, f 10, f 11, f 12, f 13, f 14, f 15, f 16, f 17, f 18, f 19, f 20, f 21, f 22, f 23, f 24, f 25, f 26, f 27, f 28, f 29, f 30, f 31, f 32, f 33, f 34, f 35, f 36, f 37, f 38, f 39, f 40, f 41, f 42, f 43, f 44, f 45, f 46, f 47, f 48, f 49, f 50, f 51, f 52, f 53, f 54, f 55, f 56, f 57, f 58, f 59, f 60, f 61, f 62, f 63, f 64, f 65, f 66, f 67, f 68, f 69, f 70, f 71, f 72, f 73, f 74, f 75, f 76, f 77, f 78, f 79, f 80, f 81, f 82, f 83, f 84, f 85, f 86, f 87, f 88, f 89, f 90, f 91, f 92, f 93, f 94, f 95, f 96, f 97, f 98, f 99, f 100, f 101, f 102, f 103, f 104, f 105, f 106, f 107, f 108, f 109, f 110, f 111, f 112, f 113, f 114, f 115, f 116, f 117, f 118, f 119, f 120, f 121, f 122, f 123, f 124, f 125, f 126, f 127, f 128, f 129, f 130, f 131, f 132, f 133, f 134, f 135, f 136, f 137, f 138, f 139, f 140, f 141, f 142, f 143, f 144, f 145, f 146, f 147, f 148, f 149, f 150, f 151, f 152, f 153, f 154, f 155, f 156, f 157, f 158, f 159, f 160, f 161, f 162, f 163, f 164, f 165, f 166, f 167, f 168, f 169, f 170, f 171, f 172, f 173, f 174, f 175, f 176, f 177, f 178, f 179, f 180, f 181, f 182, f 183, f 184, f 185, f 186, f 187, f 188, f 189, f 190, f 191, f 192, f 193, f 194, f 195, f 196, f 197, f 198, f 199, f 200, f 201, f 202, f 203, f 204, f 205, f 206, f 207, f 208, f 209, f 210, f 211, f 212, f 213, f 214, f 215, f 216, f 217, f 218, f 219, f 220, f 221, f 222, f 223, f 224, f 225, f 226, f 227, f 228, f 229, f 230, f 231, f 232, f 233, f 234, f 235, f 236, f 237, f 238, f 239, f 240, f 241, f 242, f 243, f 244, f 245, f 246, f 247, f 248, f 249, f 250, f 251, f 252, f 253, f 254, f 255, f 256, f 257, f 258, f 259, f 260, f 261, f 262, f 263, f 264, f 265, f 266, f 267, f 268, f 269, f 270, f 271, f 272, f 273, f 274, f 275, f 276, f 277, f 278, f 279, f 280, f 281, f 282, f 283, f 284, f 285, f 286, f 287, f 288, f 289, f 290, f 291, f 292, f 293, f 294, f 295, f 296, f 297, f 298, f 299, f 300, f 301, f 302, f 303, f 304, f 305, f 306, f 307, f 308, f 309, f 310, f 311, f 312, f 313, f 314, f 315, f 316, f 317, f 318, f 319, f 320, f 321, f 322, f 323, f 324, f 325, f 326, f 327, f 328, f 329, f 330, f 331, f 332, f 333, f 334, f 335, f 336, f 337, f 338, f 339, f 340, f 341, f 342, f 343, f 344, f 345, f 346, f 347, f 348, f 349, f 350, f 351, f 352, f 353, f 354, f 355, f 356, f 357, f 358, f 359, f 360, f 361, f 362, f 363, f 364, f 365, f 366, f 367, f 368, f 369, f 370, f 371, f 372, f 373, f 374, f 375, f 376, f 377, f 378, f 379, f 380, f 381, f 382, f 383, f 384, f 385, f 386, f 387, f 388, f 389, f 390, f 391, f 392, f 393, f 394, f 395, f 396, f 397, f 398, f 399, f 400, f 401, f 402, f 403, f 404, f 405, f 406, f 407, f 408, f 409], []⟩
def GdR (A1 : Option Addr) (c1 : Nat) (l1 : List Int) (w : World) (a' : Act) (w' : World) : Prop := ∃ f : Nat → Value, Aside0 (Bag w w' []) ∧ a' = gdFr (.slice A1 l1.length c1) f
set_option maxRecDepth 1000000 in
theorem gdr_mk {A1 : Option Addr} {c1 : Nat} {l1 : List Int} {w w' : World} {L : List Value} (h : Bag w w' []) (e : (⟨L.toArray, []⟩ : Act) = gdFr (.slice A1 l1.length c1) (fun i => L.getD i .nilIface)) : GdR A1 c1 l1 w ⟨L.toArray, []⟩ w' := ⟨_, ⟨h⟩, e⟩
set_option maxHeartbeats 16000000 in
set_option maxRecDepth 1000000 in
theorem gd_first (s0 s2 s3 s4 s23 s24 s25 s26 s27 s28 s29 s30 s31 s32 s33 s34 s35 s36 s37 s38 s39 s40 s41 s42 s43 s44 s45 s46 s47 s48 s49 s50 s51 s52 s53 s54 s55 s56 s57 s58 s59 s60 s61 s62 s63 s64 s65 s66 s67 s68 s69 s70 s71 s72 s73 s74 s75 s76 s77 s78 s79 s80 s81 s82 s83 s84 s85 s86 s87 s88 s89 s90 s91 s92 s93 s94 s95 s96 s97 s98 s99 s100 s101 s102 s103 s104 s105 s106 s107 s108 s109 s110 s111 s112 s113 s114 s115 s116 s117 s118 s119 s120 s121 s122 s123 s124 s125 s126 s127 s128 s129 s130 s131 s132 s133 s134 s135 s136 s137 s138 s139 s140 s141 s142 s143 s144 s145 s146 s147 s148 s149 s150 s151 s152 s153 s154 s155 s156 s157 s158 s159 s160 s161 s162 s163 s164 s165 s166 s167 s168 s169 s170 s171 s172 s173 s175 s176 s177 s178 s179 s180 s181 s182 s183 s184 s185 s186 s187 s188 s189 s190 s191 s192 s193 s194 s195 s196 s197 s198 s199 s200 s201 s202 s203 s204 s205 s206 s207 s208 s209 s210 s211 s212 s213 s214 s215 s216 s217 s218 s219 s220 s221 s222 s223 s224 s225 s226 s227 s228 s229 s230 s231 s232 s233 s234 s235 s236 s237 s238 s239 s240 s241 s242 s243 s244 s245 s246 s247 s248 s249 s250 s251 s252 s253 s254 s255 s256 s257 s258 s259 s260 s261 s262 s263 s264 s265 s266 s267 s268 s269 s270 s271 s272 s273 s274 s275 s276 s277 s278 s279 s280 s281 s282 s283 s284 s285 s286 s287 s288 s289 s290 s291 s292 s293 s294 s295 s296 s297 s298 s299 s300 s301 s302 s303 s304 s305 s306 s307 s308 s309 s310 s311 s312 s313 s314 s315 s316 s317 s318 s319 s320 s321 s322 s323 s324 s325 s326 s327 s328 s329 s330 s331 s332 s333 s334 s335 s336 s337 s338 s339 s340 s341 s342 s343 s344 s345 s346 s347 s348 s349 s350 s351 s352 s353 s354 s355 s356 s357 s358 s359 s360 s361 s362 s363 s364 s365 s366 s367 s368 s369 s370 s371 s372 s373 s374 s375 s376 s377 s378 s379 s380 s381 s382 s383 s384 s385 s386 s387 s388 s389 s390 s391 s392 s393 s394 s395 s396 s397 s398 s399 s400 s401 s402 s403 s404 s405 s406 s407 s408 s409 : Value) (A1 : Option Addr) (c1 : Nat) (l1 : List Int) (g_B : Nat) (n : Int) (lr : List Int) (st : Int) (way : List Int) (en : Int) (us p : List Int) (five : Bool) (A_l : Option Addr) (c_l : Nat) (A_way : Option Addr) (c_way : Nat) (A_way2 : Option Addr) (c_way2 : Nat) (A_us : Option Addr) (c_us : Nat) (A_us2 : Option Addr) (c_us2 : Nat) (A_p : Option Addr) (c_p : Nat) (A_p2 : Option Addr) (c_p2 : Nat) (w wc : World) (J K : Act → World → Prop) (Q' : Exit → Act → World → Prop) (hJ : ∀ a' w', GdR A1 c1 l1 w a' w' → J a' w') (hK : ∀ a' w', Met J a' w' → K a' w') (HR1 : Aside0 (Kd.C (Kd.int .u8) w A1 l1.length l1)) (HC1 : Aside0 (l1.length ≤ c1)) (G : Aside0 (Bag w wc [Ent.of (Kd.int .i64) A_p2 c_p2 p, Ent.of (Kd.int .i64) A_p c_p p, Ent.of (Kd.int .i64) A_us2 c_us2 us, Ent.of (Kd.int .i64) A_us c_us us, Ent.of (Kd.int .i64) A_way2 c_way2 way, Ent.of (Kd.int .i64) A_way c_way way, Ent.blk g_B (.cells #[.int .i64 n, .slice A_l lr.length c_l] 40 (0, 0)), Ent.of (Kd.int .i64) A_l c_l lr])) (HB : Aside0 (true = true → GdBody n lr st way en us p)) :
    Code.wp Try.prog gd_if (Exit.then K Q') ⟨#[s0, .slice A1 l1.length c1, s2, s3, s4, .pointer (some ⟨g_B, 0, none⟩), .int .i64 st, .slice A_way way.length c_way, .bool true, .slice A_way2 way.length c_way2, .bool true, .int .i64 en, .bool true, .int .i64 en, .bool true, .slice A_us us.length c_us, .bool true, .slice A_us2 us.length c_us2, .bool true, .slice A_p p.length c_p, .bool five, .slice A_p2 p.length c_p2, .bool five, s23, s24, s25, s26, s27, s28, s29, s30, s31, s32, s33, s34, s35, s36, s37, s38, s39, s40, s41, s42, s43, s44, s45, s46, s47, s48, s49, s50, s51, s52, s53, s54, s55, s56, s57, s58, s59, s60, s61, s62, s63, s64, s65, s66, s67, s68, s69, s70, s71, s72, s73, s74, s75, s76, s77, s78, s79, s80, s81, s82, s83, s84, s85, s86, s87, s88, s89, s90, s91, s92, s93, s94, s95, s96, s97, s98, s99, s100, s101, s102, s103, s104, s105, s106, s107, s108, s109, s110, s111, s112, s113, s114, s115, s116, s117, s118, s119, s120, s121, s122, s123, s124, s125, s126, s127, s128, s129, s130, s131, s132, s133, s134, s135, s136, s137, s138, s139, s140, s141, s142, s143, s144, s145, s146, s147, s148, s149, s150, s151, s152, s153, s154, s155, s156, s157, s158, s159, s160, s161, s162, s163, s164, s165, s166, s167, s168, s169, s170, s171, s172, s173, .bool true, s175, s176, s177, s178, s179, s180, s181, s182, s183, s184, s185, s186, s187, s188, s189, s190, s191, s192, s193, s194, s195, s196, s197, s198, s199, s200, s201, s202, s203, s204, s205, s206, s207, s208, s209, s210, s211, s212, s213, s214, s215, s216, s217, s218, s219, s220, s221, s222, s223, s224, s225, s226, s227, s228, s229, s230, s231, s232, s233, s234, s235, s236, s237, s238, s239, s240, s241, s242, s243, s244, s245, s246, s247, s248, s249, s250, s251, s252, s253, s254, s255, s256, s257, s258, s259, s260, s261, s262, s263, s264, s265, s266, s267, s268, s269, s270, s271, s272, s273, s274, s275, s276, s277, s278, s279, s280, s281, s282, s283, s284, s285, s286, s287, s288, s289, s290, s291, s292, s293, s294, s295, s296, s297, s298, s299, s300, s301, s302, s303, s304, s305, s306, s307, s308, s309, s310, s311, s312, s313, s314, s315, s316, s317, s318, s319, s320, s321, s322, s323, s324, s325, s326, s327, s328, s329, s330, s331, s332, s333, s334, s335, s336, s337, s338, s339, s340, s341, s342, s343, s344, s345, s346, s347, s348, s349, s350, s351, s352, s353, s354, s355, s356, s357, s358, s359, s360, s361, s362, s363, s364, s365, s366, s367, s368, s369, s370, s371, s372, s373, s374, s375, s376, s377, s378, s379, s380, s381, s382, s383, s384, s385, s386, s387, s388, s389, s390, s391, s392, s393, s394, s395, s396, s397, s398, s399, s400, s401, s402, s403, s404, s405, s406, s407, s408, s409], []⟩ wc := by
  conv => arg 2; whnf
  have hu40 := Try.underlying40
  obtain ⟨nn, m, rfl, hnn, hwl, hll, hw0, hwe, hs0, hs1, hpe, hul, hpl, hst, hmt, hms, hio⟩ := HB.out rfl
  have Hnn := Aside0.mk hnn
  have Hwl := Aside0.mk hwl
  have Hll := Aside0.mk hll
  have Hul := Aside0.mk hul
  have Hpl := Aside0.mk hpl
  have Hst := Aside0.mk hst
  have Hmt := Aside0.mk hmt
  have Hms := Aside0.mk hms
  have Hio := Aside0.mk hio
  have G2 := Aside0.mk (show Bag w wc [Ent.of (Kd.int .i64) A_us c_us us, Ent.of (Kd.int .i64) A_p c_p p, Ent.of (Kd.int .i64) A_way c_way way, Ent.blk g_B (.cells #[.int .i64 ((nn : Nat) : Int), .slice A_l lr.length c_l] 40 (0, 0)), Ent.of (Kd.int .i64) A_l c_l lr] from G.out.pick [3, 1, 5, 6, 7])
  clear G HB
  have G := G2
  clear G2
  obtain ⟨f1, f2, f3, f4, f5, f6, f7, f8⟩ := gd_len way.length lr.length hll hwl
  obtain ⟨ad1, e1, hx1⟩ := int_hd (G.out.c 2 rfl) (of_eq_true f8)
  subst e1
  obtain ⟨ad2, e2, hx2⟩ := int_at (G.out.c 2 rfl) lr.length (of_eq_true f6)
  obtain rfl : ad1 = ad2 := by injection e2
  clear e2
  obtain ⟨ad3, e3, hx3⟩ := Kd.at_int (G.out.c 1 rfl) st hs0 hs1
  subst e3
  rw [hw0] at hx1
  rw [hwe] at hx2
  rw [hpe] at hx3
  have p3 := eq_true hs0
  have q3 := eq_true hs1
  clear hnn hwl hll hw0 hwe hs0 hs1 hpe hul hpl hst hmt hms hio
  (try clear hc_B0)
  have hc_B0 : wc.cell? ⟨g_B, 0, none⟩ = some (.int .i64 ((nn : Nat) : Int)) := blk_cell (G.out.k 3 rfl) 0
  (try clear hc_B1)
  have hc_B1 : wc.cell? ⟨g_B, 1, none⟩ = some (.slice A_l lr.length c_l) := blk_cell (G.out.k 3 rfl) 1
  go_wp2
  clear f1 f2 f3 f4 f5 f6 f7 f8 hx1 hx2 hx3 p3 q3
  clear hc_B0 hc_B1
  go_loopg [210] lr.length (fun kq v210 w' => ∃ k : Nat, v210 = .int .i64 (k : Int) ∧ Aside0 (k + kq = lr.length) ∧ Aside0 (Bag w w' [Ent.of (Kd.int .i64) A_us c_us us, Ent.of (Kd.int .i64) (some ad3) c_p p, Ent.of (Kd.int .i64) (some ad1) c_way way, Ent.blk g_B (.cells #[.int .i64 ((nn : Nat) : Int), .slice A_l lr.length c_l] 40 (0, 0)), Ent.of (Kd.int .i64) A_l c_l lr]))
  case atStart => exact ⟨0, rfl, ⟨by omega⟩, G⟩
  case round =>
    clear G
    obtain ⟨k, rfl, HI, G⟩ := hrel
    cases gk with
    | zero =>
      obtain ⟨ct, ct2⟩ := gd_end _ _ HI.out
      (try clear hc_B0)
      have hc_B0 : wr.cell? ⟨g_B, 0, none⟩ = some (.int .i64 ((nn : Nat) : Int)) := blk_cell (G.out.k 3 rfl) 0
      (try clear hc_B1)
      have hc_B1 : wr.cell? ⟨g_B, 1, none⟩ = some (.slice A_l lr.length c_l) := blk_cell (G.out.k 3 rfl) 1
      go_wp2
      clear hc_B0 hc_B1
      go_loopg [26, 27] nn (fun kq v26 v27 w' => ∃ b : Nat, v26 = .int .i64 (gd_m m st b) ∧ v27 = .int .i64 (b : Int) ∧ Aside0 (b + kq = nn) ∧ Aside0 (Bag w w' [Ent.of (Kd.int .i64) A_us c_us us, Ent.of (Kd.int .i64) (some ad3) c_p p, Ent.of (Kd.int .i64) (some ad1) c_way way, Ent.blk g_B (.cells #[.int .i64 ((nn : Nat) : Int), .slice A_l lr.length c_l] 40 (0, 0)), Ent.of (Kd.int .i64) A_l c_l lr]))
      case atStart => exact ⟨0, rfl, rfl, ⟨by omega⟩, G⟩
      case round =>
        clear G
        obtain ⟨b, rfl, rfl, HJ, G⟩ := hrel
        cases gk with
        | zero =>
          obtain ⟨cj, cj2⟩ := gd_end _ _ HJ.out
          have hb : b = nn := by have := HJ.out; omega
          have hg := Hms.out
          rw [← hb] at hg
          rw [hg]
          obtain ⟨k30, h30⟩ := Hio.out
          have H30 := Aside0.mk h30
          clear hb hg h30
          (try clear hc_B0)
          have hc_B0 : wr.cell? ⟨g_B, 0, none⟩ = some (.int .i64 ((nn : Nat) : Int)) := blk_cell (G.out.k 3 rfl) 0
          (try clear hc_B1)
          have hc_B1 : wr.cell? ⟨g_B, 1, none⟩ = some (.slice A_l lr.length c_l) := blk_cell (G.out.k 3 rfl) 1
          have tok0 := Aside0.mk True.intro
          go_wp2_with (first | (go_at_call 18; have tk_ := tok0; clear tk_ tok0; (with_reducible refine (impl_IsOrder.calls _ _ _ (p) _ _ ?sd0_ ?sd1_ H30.out).mono ?_); (case sd0_ => repeat (first | exact G.out.c 1 rfl | (with_reducible refine Kd.C_drewN ?_ _) | (with_reducible refine Kd.C_drew ?_))); (case sd1_ => exact G.out.l 1 rfl); rintro e w' ⟨rfl, hd⟩; replace G := Aside0.mk (G.out.step hd.below); clear hd; (try clear hc_B0); have hc_B0 : w'.cell? ⟨g_B, 0, none⟩ = some (.int .i64 ((nn : Nat) : Int)) := blk_cell (G.out.k 3 rfl) 0; (try clear hc_B1); have hc_B1 : w'.cell? ⟨g_B, 1, none⟩ = some (.slice A_l lr.length c_l) := blk_cell (G.out.k 3 rfl) 1; have tok1 := Aside0.mk True.intro))
          refine Met.intro (hJ _ _ (gdr_mk (G.out.pick []) (by kernel_rfl)))
        | succ k2_ =>
          obtain ⟨ji, hj1, hj2, hj3, w1_, w2_, HJN, hjn, cj, cj2, p1_, q1_, p2_⟩ := gd_step _ _ _ Hnn.out HJ.out
          have HJ1 := Aside0.mk hj1
          have HJN := Aside0.mk HJN
          (try clear hc_B0)
          have hc_B0 : wr.cell? ⟨g_B, 0, none⟩ = some (.int .i64 ((nn : Nat) : Int)) := blk_cell (G.out.k 3 rfl) 0
          (try clear hc_B1)
          have hc_B1 : wr.cell? ⟨g_B, 1, none⟩ = some (.slice A_l lr.length c_l) := blk_cell (G.out.k 3 rfl) 1
          by_cases hbs : (b : Int) = st
          case pos =>
            have d1 : ((b : Int) != st) = false := by rw [hbs]; simp
            have HEM := Aside0.mk (show gd_m m st (b + 1) = gd_m m st b from by rw [gd_m, if_pos hbs])
            clear hbs hj1 hj2 hj3 hjn
            go_wp2
            go_roundg k2_
            case measure => omega
            case rel => exact ⟨b + 1, by rw [HEM.out], by rw [← HJ1.out], HJN, G⟩
          case neg =>
            have d1 : ((b : Int) != st) = true := by rw [bne_iff_ne]; exact hbs
            have HEM := Aside0.mk (show gd_m m st (b + 1) = wrap64 (gd_m m st b + m b) from by rw [gd_m, if_neg hbs])
            obtain ⟨⟨k31, h31⟩, ⟨k32, h32⟩⟩ := Hmt.out b hjn hbs
            have H31 := Aside0.mk h31
            have H32 := Aside0.mk h32
            clear hbs hj1 hj2 hj3 hjn h31 h32
            have tok0 := Aside0.mk True.intro
            go_wp2_with (first | (go_at_call 37; have tk_ := tok0; clear tk_ tok0; (with_reducible refine (impl_MeetingsOf.calls _ (((nn : Nat) : Int)) _ _ (lr) (st) ((b : Int)) _ _ _ ?sd0_ ?sd1_ H31.out).mono ?_); (case sd0_ => repeat (first | exact G.out.c 4 rfl | (with_reducible refine Kd.C_drewN ?_ _) | (with_reducible refine Kd.C_drew ?_))); (case sd1_ => exact G.out.l 4 rfl); rintro e w' ⟨rfl, hb⟩; replace G := Aside0.mk (G.out.step hb); clear hb; (try clear hc_B0); have hc_B0 : w'.cell? ⟨g_B, 0, none⟩ = some (.int .i64 ((nn : Nat) : Int)) := blk_cell (G.out.k 3 rfl) 0; (try clear hc_B1); have hc_B1 : w'.cell? ⟨g_B, 1, none⟩ = some (.slice A_l lr.length c_l) := blk_cell (G.out.k 3 rfl) 1; have tok1 := Aside0.mk True.intro) | (go_at_call 37; have tk_ := tok1; clear tk_ tok1; (with_reducible refine (impl_MeetingsOf.calls _ (((nn : Nat) : Int)) _ _ (lr) ((b : Int)) (st) _ _ _ ?sd0_ ?sd1_ H32.out).mono ?_); (case sd0_ => repeat (first | exact G.out.c 4 rfl | (with_reducible refine Kd.C_drewN ?_ _) | (with_reducible refine Kd.C_drew ?_))); (case sd1_ => exact G.out.l 4 rfl); rintro e w' ⟨rfl, hb⟩; replace G := Aside0.mk (G.out.step hb); clear hb; (try clear hc_B0); have hc_B0 : w'.cell? ⟨g_B, 0, none⟩ = some (.int .i64 ((nn : Nat) : Int)) := blk_cell (G.out.k 3 rfl) 0; (try clear hc_B1); have hc_B1 : w'.cell? ⟨g_B, 1, none⟩ = some (.slice A_l lr.length c_l) := blk_cell (G.out.k 3 rfl) 1; have tok2 := Aside0.mk True.intro))
            go_roundg k2_
            case measure => omega
            case rel => exact ⟨b + 1, by rw [HEM.out], by rw [← HJ1.out], HJN, G⟩
    | succ k1_ =>
      obtain ⟨ji, hj1, hj2, hj3, w1_, w2_, HJN, hkn, cj, cj2, p1_, q1_, p2_⟩ := gd_step _ _ _ Hll.out HI.out
      have HJ1 := Aside0.mk hj1
      have HJN := Aside0.mk HJN
      obtain ⟨⟨ba0, ba1, bb0, bb1, br0, br1⟩, ⟨kq_, hh⟩, hy, hno⟩ := Hst.out k hkn
      obtain ⟨ad5, e5, hx5⟩ := int_at (G.out.c 4 rfl) k hkn
      subst e5
      obtain ⟨ad6, e6, hx6⟩ := int_at (G.out.c 2 rfl) k (by have := Hwl.out; omega)
      obtain rfl : ad1 = ad6 := by injection e6
      clear e6
      obtain ⟨ad7, e7, hx7⟩ := int_at (G.out.c 2 rfl) (k + 1) (by have := Hwl.out; omega)
      obtain rfl : ad1 = ad7 := by injection e7
      clear e7
      replace hx7 : wr.cell? (ad1.add ji.toNat) = some (.int .i64 (rd way ji)) := by rw [hj3, hj1]; exact hx7
      have HKW := Aside0.mk (show (ji < (way.length : Int)) = True ∧ ((k : Int) < (way.length : Int)) = True ∧ (k < way.length) = True from ⟨eq_true (by have := Hwl.out; omega), eq_true (by have := Hwl.out; omega), eq_true (by have := Hwl.out; omega)⟩)
      obtain ⟨kw1, kw2, kw3⟩ := HKW.out
      rw [← hj2] at hy hno bb0 bb1
      obtain ⟨a, ha⟩ : ∃ a_, a_ = rd way (k : Int) := ⟨_, rfl⟩
      obtain ⟨b, hb⟩ : ∃ a_, a_ = rd way ji := ⟨_, rfl⟩
      obtain ⟨r, hr⟩ : ∃ a_, a_ = rd lr (k : Int) := ⟨_, rfl⟩
      rw [← ha] at hx6 hh hy hno ba0 ba1
      rw [← hb] at hx7 hy hno bb0 bb1
      rw [← hr] at hx5 hh hy hno br0 br1
      clear ha hb hr hj2 hj3 HKW
      have HBD := Aside0.mk (And.intro (And.intro ba0 ba1) (And.intro (And.intro bb0 bb1) (And.intro br0 br1)))
      clear ba0 ba1 bb0 bb1 br0 br1
      have HY := Aside0.mk hy
      have HNO := Aside0.mk hno
      clear hy hno hkn hj1
      obtain ⟨z1_, z2_, z3_, z4_⟩ := gd_r1 r HBD.out.2.2.1 HBD.out.2.2.2
      by_cases h1 : a = r
      case pos =>
        subst h1
        rw [decide_eq_true (Or.inl rfl)] at hh
        have HOV := Aside0.mk (show a = a ∨ a = a + 1 from Or.inl rfl)
        have HH := Aside0.mk hh
        clear hh
        obtain ⟨sm, y1_, y2_, y3_, y4_, y5_, y6_⟩ := gd_sum _ _ _ HBD.out.1 HBD.out.2.1 HBD.out.2.2 (HY.out HOV.out)
        go_wp2
        repeat (go_quiet ((go_at_call 60; exact Calls.quiet_of ((laws_kHas.calls _ _ _ (us) ((k : Int)) _ _ (Kd.C_drewN (G.out.c 0 rfl) _) (G.out.l 0 rfl) HH.out).mono (fun _ _ h_ => ⟨h_.1, h_.2.out⟩)))); try go_wp2)
        go_roundg k1_
        case measure => omega
        case rel => exact ⟨k + 1, by rw [← HJ1.out], HJN, ⟨G.out.step (by repeat (first | exact Below.refl _ _ | apply pw_below_drewN | apply below_drew1))⟩⟩
      case neg =>
        by_cases h2 : a = r + 1
        case pos =>
          subst h2
          rw [decide_eq_true (Or.inr rfl)] at hh
          have HOV := Aside0.mk (show r + 1 = r ∨ r + 1 = r + 1 from Or.inr rfl)
          clear h1
          have HH := Aside0.mk hh
          clear hh
          obtain ⟨sm, y1_, y2_, y3_, y4_, y5_, y6_⟩ := gd_sum _ _ _ HBD.out.1 HBD.out.2.1 HBD.out.2.2 (HY.out HOV.out)
          go_wp2
          repeat (go_quiet ((go_at_call 60; exact Calls.quiet_of ((laws_kHas.calls _ _ _ (us) ((k : Int)) _ _ (Kd.C_drewN (G.out.c 0 rfl) _) (G.out.l 0 rfl) HH.out).mono (fun _ _ h_ => ⟨h_.1, h_.2.out⟩)))); try go_wp2)
          go_roundg k1_
          case measure => omega
          case rel => exact ⟨k + 1, by rw [← HJ1.out], HJN, ⟨G.out.step (by repeat (first | exact Below.refl _ _ | apply pw_below_drewN | apply below_drew1))⟩⟩
        case neg =>
          have hov : ¬ (a = r ∨ a = r + 1) := fun h_ => h_.elim h1 h2
          rw [decide_eq_false hov] at hh
          have v1_ : (a == r) = false := beq_eq_false_iff_ne.mpr h1
          have v2_ : (a == r + 1) = false := beq_eq_false_iff_ne.mpr h2
          have v3_ : decide (a = r) = false := decide_eq_false h1
          have v4_ : decide (a = r + 1) = false := decide_eq_false h2
          have HAB := Aside0.mk (HNO.out hov)
          rw [← HAB.out] at hx7
          clear h1 h2 hov
          have HH := Aside0.mk hh
          clear hh
          go_wp2
          repeat (go_quiet ((go_at_call 60; exact Calls.quiet_of ((laws_kHas.calls _ _ _ (us) ((k : Int)) _ _ (Kd.C_drewN (G.out.c 0 rfl) _) (G.out.l 0 rfl) HH.out).mono (fun _ _ h_ => ⟨h_.1, h_.2.out⟩)))); try go_wp2)
          go_roundg k1_
          case measure => omega
          case rel => exact ⟨k + 1, by rw [← HJ1.out], HJN, ⟨G.out.step (by repeat (first | exact Below.refl _ _ | apply pw_below_drewN | apply below_drew1))⟩⟩

end
end Go.Proofs.Ytaheijeojbimeaa.PGd
