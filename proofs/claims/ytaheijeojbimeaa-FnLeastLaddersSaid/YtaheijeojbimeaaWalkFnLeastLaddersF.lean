-- Written for this claim by a program of this session (myprint.py) over the kit's printer.
import Derived.Test.YtaheijeojbimeaaWalkFnLeastLaddersB
import Derived.Test.YtaheijeojbimeaaPLlx0
import Derived.Test.YtaheijeojbimeaaPLlx1
import Derived.Test.YtaheijeojbimeaaPLlx3
import Derived.Test.YtaheijeojbimeaaPLlx4
import Derived.Test.YtaheijeojbimeaaPLlx5
import Derived.Deep.RegionHeld3
namespace Go.Proofs.Ytaheijeojbimeaa.PLl
noncomputable section
open Go.RowKit Go.Proofs.YtaheijeojbimeaaW.PrintWords Go.Proofs.YtaheijeojbimeaaW.PrintLast Go.Proofs.YtaheijeojbimeaaW.PrintMore
attribute [local go_sem] max2_int min2_int max_two min_two max_three min_three max_four min_four   -- for this text's walks alone
set_option linter.unusedVariables false
set_option linter.unusedSimpArgs false


def LlOne (p : List Int) (inv : Int) (P : List (List Int)) : Prop := inv = ((P.length : Nat) : Int) ∧ P.length ≤ 1000 ∧ p.length ≤ 1000 ∧ ∀ i : Nat, i < P.length → ∃ a b : Nat, P.getD i [] = [(a : Int), (b : Int)] ∧ a < b ∧ b < p.length ∧ rd p (b : Int) < rd p (a : Int) ∧ (0 < i → (∃ k, laws_kLess.f k (P.getD (i - 1) []) [(a : Int), (b : Int)] = some true))
def LlOk (p : List Int) (ln : Int) (ll : List Int) (inv : Int) (P : List (List Int)) (D : List Int) : Prop := (∃ k, impl_IsLeast.f k ln ll = some (true, true)) ∧ (∃ k, laws_kResult.f k ln ll = some p) ∧ (∃ k, laws_kSame.f k p p = some true) ∧ inv = ((ll.length : Nat) : Int) ∧ ll.length ≤ 1000 ∧ P.length ≤ 1000 ∧ (0 < ll.length → 0 < D.length ∧ rd ll 0 = rd D 0) ∧ ∀ i : Nat, i < P.length → ∃ a b : Int, P.getD i [] = [a, b] ∧ (∃ k, impl_MeetingsOf.f k ln ll a b = some (1, true))
theorem ll_rd {w : World} {ad : Addr} {n : Nat} {xs : List Int} {x : Int} (h : Kd.C (Kd.int .i64) w (some ad) n xs) (hx : 0 < n ∧ rd xs 0 = x) : w.cell? ad = some (.int .i64 x) := by
  rw [← hx.2]
  exact ll_c0 h hx.1
theorem ll_end (n j : Nat) (hj : j + 0 = n) : decide ((j : Int) < (n : Int)) = false ∧ decide (j < n) = false := ⟨decide_eq_false (by omega), decide_eq_false (by omega)⟩
theorem ll_step (i n k : Nat) (hn : n ≤ 1000) (h : i + (k + 1) = n) : ∃ ji : Int, ji = ((i + 1 : Nat) : Int) ∧ wrap64 ((i : Int) + 1) = ji ∧ IntKind.i64.wrap ((i : Int) + 1) = ji ∧ i + 1 + k = n ∧ i < n ∧ decide ((i : Int) < (n : Int)) = true ∧ decide (i < n) = true ∧ ((0 : Int) ≤ (i : Int)) = True ∧ ((i : Int) < (n : Int)) = True ∧ ((0 : Int) ≤ ji) = True :=
  ⟨_, rfl, by unfold wrap64; omega, by rw [IntKind.wrap_i64]; omega, by omega, by omega, decide_eq_true (by omega), decide_eq_true (by omega), eq_true (by omega), eq_true (by omega), eq_true (by omega)⟩
theorem ll_prev (i n : Nat) (hn : n ≤ 1000) (h0 : ¬ i = 0) (h : i < n) : ∃ jp : Int, jp = ((i - 1 : Nat) : Int) ∧ jp.toNat = i - 1 ∧ wrap64 ((i : Int) - 1) = jp ∧ IntKind.i64.wrap ((i : Int) - 1) = jp ∧ ((0 : Int) ≤ jp) = True ∧ (jp < (n : Int)) = True ∧ decide ((0 : Int) < (i : Int)) = true ∧ decide (0 < i) = true ∧ decide ((i : Int) > 0) = true :=
  ⟨_, rfl, by omega, by unfold wrap64; omega, by rw [IntKind.wrap_i64]; omega, eq_true (by omega), eq_true (by omega), decide_eq_true (by omega), decide_eq_true (by omega), decide_eq_true (by omega)⟩
theorem ll_pair (a b m : Nat) (x y : Int) (h : a < b) (hb : b < m) (hxy : y < x) : ((0 : Int) ≤ (a : Int)) = True ∧ ((a : Int) < (m : Int)) = True ∧ ((0 : Int) ≤ (b : Int)) = True ∧ ((b : Int) < (m : Int)) = True ∧ (a < m) = True ∧ (b < m) = True ∧ decide ((a : Int) ≥ (b : Int)) = false ∧ decide ((b : Int) ≤ (a : Int)) = false ∧ decide (b ≤ a) = false ∧ decide (x ≤ y) = false :=
  ⟨eq_true (by omega), eq_true (by omega), eq_true (by omega), eq_true (by omega), eq_true (by omega), eq_true (by omega), decide_eq_false (by omega), decide_eq_false (by omega), decide_eq_false (by omega), decide_eq_false (by omega)⟩
set_option maxRecDepth 1000000 in
def LlH1Fr (A1 : Option Addr) (c1 : Nat) (l1 : List Int) (g_BL : Nat) (ln : Int) (ll : List Int) (ok : Bool) (inv : Int) (p : List Int) (P : List (List Int)) (D : List Int) (A_p : Option Addr) (c_p : Nat) (A_l : Option Addr) (c_l : Nat) (A_P : Option Addr) (c_P : Nat) (A_D : Option Addr) (c_D : Nat) (w : World) (f : Nat → Value) : Act := ⟨#[f 0, .slice A1 l1.length c1, f 2, f 3, f 4, .slice A_p p.length c_p, .pointer (some ⟨g_BL, 0, none⟩), .bool ok, f 8, f 9, .int .i64 inv, f 11, f 12, f 13, .slice A_P P.length c_P, f 15, f 16, f 17, .slice A_D D.length c_D, f 19, f 20, f 21, f 22, f 23, f 24, f 25, f 26, f 27, f 28, f 29, f 30, f 31, f 32, f 33, f 34, f 35, f 36, f 37, f 38, f 39, f 40, f 41, f 42, f 43, f 44, f 45, f 46, f 47, f 48, f 49, f 50, f 51, f 52, f 53, f 54, f 55, f 56, f 57, f 58, f 59, f 60, f 61, f 62, f 63, f 64, f 65, f 66, f 67, f 68, f 69, f 70, f 71, f 72, f 73, f 74, f 75, f 76, f 77, f 78, f 79, f 80, f 81, f 82, f 83, f 84, f 85, f 86, f 87, f 88, f 89, f 90, f 91, f 92, f 93, f 94, f 95, f 96, f 97, f 98, f 99, f 100, f 101, f 102, f 103, f 104, f 105, f 106, f 107, f 108, f 109, f 110, f 111, f 112, f 113, f 114, f 115, f 116, f 117, f 118, f 119, f 120, f 121, f 122, f 123, f 124, f 125, f 126, f 127, f 128, f 129, f 130, f 131, f 132, f 133, f 134, f 135, f 136, f 137, f 138, f 139, f 140, f 141, f 142, f 143, f 144, f 145, f 146, f 147, f 148, f 149, f 150, f 151, f 152, f 153, f 154, f 155, f 156, f 157, f 158, f 159, f 160, f 161, f 162, f 163, f 164, f 165, f 166, f 167, f 168, f 169, f 170, f 171, f 172, f 173, f 174, f 175, f 176, f 177, f 178, f 179, f 180, f 181, f 182, f 183, f 184, f 185, f 186, f 187, f 188, f 189, f 190, f 191, f 192, f 193, f 194, f 195, f 196, f 197, f 198, f 199, f 200, f 201, f 202, f 203, f 204, f 205, f 206, f 207, f 208, f 209, f 210, f 211, f 212, f 213, f 214, f 215, f 216, f 217, f 218, f 219, f 220, f 221, f 222, f 223, f 224, f 225, f 226, f 227, f 228, f 229, f 230, f 231, f 232, f 233, f 234, f 235, f 236, f 237, f 238, f 239, f 240, f 241, f 242, f 243, f 244, f 245, f 246, f 247, f 248, f 249, f 250, f 251, f 252, f 253, f 254, f 255, f 256, f 257, f 258, f 259, f 260, f 261, f 262, f 263, f 264, f 265, f 266, f 267, f 268, f 269, f 270, f 271, f 272, f 273, f 274, f 275, f 276, f 277, f 278, f 279, f 280, f 281, f 282, f 283, f 284, f 285, f 286, f 287, f 288, f 289, f 290, f 291, f 292, f 293, f 294, f 295, f 296, f 297, f 298, f 299, f 300, f 301, f 302, f 303, f 304, f 305, f 306, f 307, f 308, f 309, f 310, f 311, f 312, f 313, f 314, f 315, f 316, f 317, f 318, f 319, f 320, f 321, f 322, f 323, f 324, f 325, f 326, f 327, f 328, f 329, f 330, f 331, f 332, f 333, f 334, f 335, f 336, f 337, f 338, f 339, f 340, f 341, f 342, f 343, f 344, f 345, f 346, f 347, f 348, f 349, f 350, f 351, f 352, f 353, f 354, f 355, f 356, f 357, f 358, f 359, f 360, f 361, f 362, f 363, f 364, f 365, f 366, f 367, f 368, f 369, f 370, f 371, f 372, f 373, f 374, f 375, f 376, f 377, f 378, f 379, f 380, f 381, f 382, f 383, f 384, f 385, f 386, f 387, f 388, f 389, f 390, f 391, f 392, f 393, f 394, f 395, f 396, f 397, f 398, f 399, f 400, f 401, f 402, f 403, f 404, f 405, f 406, f 407, f 408, f 409, f 410, f 411, f 412, f 413, f 414, f 415, f 416, f 417, f 418, f 419, f 420, f 421, f 422, f 423, f 424, f 425, f 426, f 427, f 428, f 429, f 430, f 431, f 432, f 433, f 434, f 435, f 436, f 437, f 438, f 439, f 440, f 441, f 442, f 443, f 444, f 445, f 446, f 447, f 448, f 449, f 450, f 451, f 452, f 453, f 454, f 455, f 456, f 457, f 458, f 459, f 460, f 461, f 462, f 463, f 464, f 465, f 466, f 467, f 468, f 469, f 470, f 471, f 472, f 473, f 474, f 475, f 476, f 477, f 478, f 479, f 480, f 481, f 482, f 483, f 484, f 485, f 486, f 487, f 488, f 489, f 490], []⟩
def LlH1 (A1 : Option Addr) (c1 : Nat) (l1 : List Int) (g_BL : Nat) (ln : Int) (ll : List Int) (ok : Bool) (inv : Int) (p : List Int) (P : List (List Int)) (D : List Int) (A_p : Option Addr) (c_p : Nat) (A_l : Option Addr) (c_l : Nat) (A_P : Option Addr) (c_P : Nat) (A_D : Option Addr) (c_D : Nat) (w : World) (a' : Act) (w' : World) : Prop := ∃ f : Nat → Value, Aside0 (Bag w w' [Ent.of (Kd.int .i64) A_D c_D D, Ent.of (Kd.slice 3 (Kd.int .i64)) A_P c_P P, Ent.blk g_BL (.cells #[.int .i64 ln, .slice A_l ll.length c_l] 40 (0, 0)), Ent.of (Kd.int .i64) A_l c_l ll, Ent.of (Kd.int .i64) A_p c_p p]) ∧ a' = LlH1Fr A1 c1 l1 g_BL ln ll ok inv p P D A_p c_p A_l c_l A_P c_P A_D c_D w f
set_option maxRecDepth 1000000 in
theorem LlH1.mk (A1 : Option Addr) (c1 : Nat) (l1 : List Int) (g_BL : Nat) (ln : Int) (ll : List Int) (ok : Bool) (inv : Int) (p : List Int) (P : List (List Int)) (D : List Int) (A_p : Option Addr) (c_p : Nat) (A_l : Option Addr) (c_l : Nat) (A_P : Option Addr) (c_P : Nat) (A_D : Option Addr) (c_D : Nat) (w : World) {w' : World} {L : List Value} (h : Bag w w' [Ent.of (Kd.int .i64) A_D c_D D, Ent.of (Kd.slice 3 (Kd.int .i64)) A_P c_P P, Ent.blk g_BL (.cells #[.int .i64 ln, .slice A_l ll.length c_l] 40 (0, 0)), Ent.of (Kd.int .i64) A_l c_l ll, Ent.of (Kd.int .i64) A_p c_p p]) (e : (⟨L.toArray, []⟩ : Act) = LlH1Fr A1 c1 l1 g_BL ln ll ok inv p P D A_p c_p A_l c_l A_P c_P A_D c_D w (fun i => L.getD i .nilIface)) : LlH1 A1 c1 l1 g_BL ln ll ok inv p P D A_p c_p A_l c_l A_P c_P A_D c_D w ⟨L.toArray, []⟩ w' := ⟨_, ⟨h⟩, e⟩
set_option maxHeartbeats 16000000 in
set_option maxRecDepth 1000000 in
theorem ll_c166 (s0 s2 s3 s4 s8 s9 s11 s12 s13 s15 s16 s17 s19 s20 s21 s22 s23 s24 s25 s26 s27 s28 s29 s30 s31 s32 s33 s34 s35 s36 s37 s38 s39 s40 s41 s42 s43 s44 s45 s46 s47 s48 s49 s50 s51 s52 s53 s54 s55 s56 s57 s58 s59 s60 s61 s62 s63 s64 s65 s66 s67 s68 s69 s70 s71 s72 s73 s74 s75 s76 s77 s78 s79 s80 s81 s82 s83 s84 s85 s86 s87 s88 s89 s90 s91 s92 s93 s94 s95 s96 s97 s98 s99 s100 s101 s102 s103 s104 s105 s106 s107 s108 s109 s110 s111 s112 s113 s114 s115 s116 s117 s118 s119 s120 s121 s122 s123 s124 s125 s126 s127 s128 s129 s130 s131 s132 s133 s134 s135 s136 s137 s138 s139 s140 s141 s142 s143 s144 s145 s146 s147 s148 s149 s150 s151 s152 s153 s154 s155 s156 s157 s158 s159 s160 s161 s162 s163 s164 s165 s167 s168 s169 s170 s171 s172 s173 s174 s175 s176 s177 s178 s179 s180 s181 s182 s183 s184 s185 s186 s187 s188 s189 s190 s191 s192 s193 s194 s195 s196 s197 s198 s199 s200 s201 s202 s203 s204 s205 s206 s207 s208 s209 s210 s211 s212 s213 s214 s215 s216 s217 s218 s219 s220 s221 s222 s223 s224 s225 s226 s227 s228 s229 s230 s231 s232 s233 s234 s235 s236 s237 s238 s239 s240 s241 s242 s243 s244 s245 s246 s247 s248 s249 s250 s251 s252 s253 s254 s255 s256 s257 s258 s259 s260 s261 s262 s263 s264 s265 s266 s267 s268 s269 s270 s271 s272 s273 s274 s275 s276 s277 s278 s279 s280 s281 s282 s283 s284 s285 s286 s287 s288 s289 s290 s291 s292 s293 s294 s295 s296 s297 s298 s299 s300 s301 s302 s303 s304 s305 s306 s307 s308 s309 s310 s311 s312 s313 s314 s315 s316 s317 s318 s319 s320 s321 s322 s323 s324 s325 s326 s327 s328 s329 s330 s331 s332 s333 s334 s335 s336 s337 s338 s339 s340 s341 s342 s343 s344 s345 s346 s347 s348 s349 s350 s351 s352 s353 s354 s355 s356 s357 s358 s359 s360 s361 s362 s363 s364 s365 s366 s367 s368 s369 s370 s371 s372 s373 s374 s375 s376 s377 s378 s379 s380 s381 s382 s383 s384 s385 s386 s387 s388 s389 s390 s391 s392 s393 s394 s395 s396 s397 s398 s399 s400 s401 s402 s403 s404 s405 s406 s407 s408 s409 s410 s411 s412 s413 s414 s415 s416 s417 s418 s419 s420 s421 s422 s423 s424 s425 s426 s427 s428 s429 s430 s431 s432 s433 s434 s435 s436 s437 s438 s439 s440 s441 s442 s443 s444 s445 s446 s447 s448 s449 s450 s451 s452 s453 s454 s455 s456 s457 s458 s459 s460 s461 s462 s463 s464 s465 s466 s467 s468 s469 s470 s471 s472 s473 s474 s475 s476 s477 s478 s479 s480 s481 s482 s483 s484 s485 s486 s487 s488 s489 s490 : Value) (A1 : Option Addr) (c1 : Nat) (l1 : List Int) (g_BL : Nat) (ln : Int) (ll : List Int) (ok : Bool) (inv : Int) (p : List Int) (P : List (List Int)) (D : List Int) (A_p : Option Addr) (c_p : Nat) (A_l : Option Addr) (c_l : Nat) (A_P : Option Addr) (c_P : Nat) (A_D : Option Addr) (c_D : Nat) (w : World) (wc : World) (J K : Act → World → Prop) (Q' : Exit → Act → World → Prop) (hJ : ∀ a' w', LlH1 A1 c1 l1 g_BL ln ll ok inv p P D A_p c_p A_l c_l A_P c_P A_D c_D w a' w' → J a' w') (hK : ∀ a' w', Met J a' w' → K a' w') (G : Aside0 (Bag w wc [Ent.of (Kd.int .i64) A_D c_D D, Ent.of (Kd.slice 3 (Kd.int .i64)) A_P c_P P, Ent.blk g_BL (.cells #[.int .i64 ln, .slice A_l ll.length c_l] 40 (0, 0)), Ent.of (Kd.int .i64) A_l c_l ll, Ent.of (Kd.int .i64) A_p c_p p])) (HO : Aside0 (LlOne p inv P)) :
    Code.wp Try.prog ll_if166 (Exit.then K Q') ⟨#[s0, .slice A1 l1.length c1, s2, s3, s4, .slice A_p p.length c_p, .pointer (some ⟨g_BL, 0, none⟩), .bool ok, s8, s9, .int .i64 inv, s11, s12, s13, .slice A_P P.length c_P, s15, s16, s17, .slice A_D D.length c_D, s19, s20, s21, s22, s23, s24, s25, s26, s27, s28, s29, s30, s31, s32, s33, s34, s35, s36, s37, s38, s39, s40, s41, s42, s43, s44, s45, s46, s47, s48, s49, s50, s51, s52, s53, s54, s55, s56, s57, s58, s59, s60, s61, s62, s63, s64, s65, s66, s67, s68, s69, s70, s71, s72, s73, s74, s75, s76, s77, s78, s79, s80, s81, s82, s83, s84, s85, s86, s87, s88, s89, s90, s91, s92, s93, s94, s95, s96, s97, s98, s99, s100, s101, s102, s103, s104, s105, s106, s107, s108, s109, s110, s111, s112, s113, s114, s115, s116, s117, s118, s119, s120, s121, s122, s123, s124, s125, s126, s127, s128, s129, s130, s131, s132, s133, s134, s135, s136, s137, s138, s139, s140, s141, s142, s143, s144, s145, s146, s147, s148, s149, s150, s151, s152, s153, s154, s155, s156, s157, s158, s159, s160, s161, s162, s163, s164, s165, .bool true, s167, s168, s169, s170, s171, s172, s173, s174, s175, s176, s177, s178, s179, s180, s181, s182, s183, s184, s185, s186, s187, s188, s189, s190, s191, s192, s193, s194, s195, s196, s197, s198, s199, s200, s201, s202, s203, s204, s205, s206, s207, s208, s209, s210, s211, s212, s213, s214, s215, s216, s217, s218, s219, s220, s221, s222, s223, s224, s225, s226, s227, s228, s229, s230, s231, s232, s233, s234, s235, s236, s237, s238, s239, s240, s241, s242, s243, s244, s245, s246, s247, s248, s249, s250, s251, s252, s253, s254, s255, s256, s257, s258, s259, s260, s261, s262, s263, s264, s265, s266, s267, s268, s269, s270, s271, s272, s273, s274, s275, s276, s277, s278, s279, s280, s281, s282, s283, s284, s285, s286, s287, s288, s289, s290, s291, s292, s293, s294, s295, s296, s297, s298, s299, s300, s301, s302, s303, s304, s305, s306, s307, s308, s309, s310, s311, s312, s313, s314, s315, s316, s317, s318, s319, s320, s321, s322, s323, s324, s325, s326, s327, s328, s329, s330, s331, s332, s333, s334, s335, s336, s337, s338, s339, s340, s341, s342, s343, s344, s345, s346, s347, s348, s349, s350, s351, s352, s353, s354, s355, s356, s357, s358, s359, s360, s361, s362, s363, s364, s365, s366, s367, s368, s369, s370, s371, s372, s373, s374, s375, s376, s377, s378, s379, s380, s381, s382, s383, s384, s385, s386, s387, s388, s389, s390, s391, s392, s393, s394, s395, s396, s397, s398, s399, s400, s401, s402, s403, s404, s405, s406, s407, s408, s409, s410, s411, s412, s413, s414, s415, s416, s417, s418, s419, s420, s421, s422, s423, s424, s425, s426, s427, s428, s429, s430, s431, s432, s433, s434, s435, s436, s437, s438, s439, s440, s441, s442, s443, s444, s445, s446, s447, s448, s449, s450, s451, s452, s453, s454, s455, s456, s457, s458, s459, s460, s461, s462, s463, s464, s465, s466, s467, s468, s469, s470, s471, s472, s473, s474, s475, s476, s477, s478, s479, s480, s481, s482, s483, s484, s485, s486, s487, s488, s489, s490], []⟩ wc := by
  conv => arg 2; whnf
  have hu40 := Try.underlying40
  have tok0 := Aside0.mk True.intro
  obtain ⟨rfl, hPl, hpl, hst⟩ := HO.out
  have HPL := Aside0.mk hPl
  have HST := Aside0.mk hst
  clear HO hPl hpl hst
  have z0_ : (((P.length : Nat) : Int) != ((P.length : Nat) : Int)) = false := by simp
  go_wp2
  clear z0_
  go_loopg [173] P.length (fun kq v173 w' => ∃ i : Nat, v173 = .int .i64 (i : Int) ∧ Aside0 (i + kq = P.length) ∧ Aside0 (Bag w w' [Ent.of (Kd.int .i64) A_D c_D D, Ent.of (Kd.slice 3 (Kd.int .i64)) A_P c_P P, Ent.blk g_BL (.cells #[.int .i64 ln, .slice A_l ll.length c_l] 40 (0, 0)), Ent.of (Kd.int .i64) A_l c_l ll, Ent.of (Kd.int .i64) A_p c_p p]))
  case atStart => exact ⟨0, rfl, ⟨by omega⟩, G⟩
  case round =>
    clear G
    obtain ⟨i, rfl, HI, G⟩ := hrel
    cases gk with
    | zero =>
      obtain ⟨ct, ct2⟩ := ll_end _ _ HI.out
      go_wp2
      refine Met.intro (hJ _ _ (LlH1.mk A1 c1 l1 g_BL ln ll ok ((P.length : Nat) : Int) p P D A_p c_p A_l c_l A_P c_P A_D c_D w (by first | exact G.out.pick [0, 1, 2, 3, 4] | exact (G.out.step (below_drew1 (Below.refl _ _))).pick [0, 1, 2, 3, 4]) (by kernel_rfl)))
    | succ k1_ =>
      obtain ⟨ji, hj1, w1_, w2_, HJN, hin, ct, ct2, p1_, q1_, p2_⟩ := ll_step _ _ _ HPL.out HI.out
      have HJ1 := Aside0.mk hj1
      have HJN := Aside0.mk HJN
      have HIN := Aside0.mk hin
      obtain ⟨ad, A9, c9, e9, hx9, hl9, hC9⟩ := rows_at (G.out.c 1 rfl) i hin
      obtain ⟨a, b, hq, hab, hbp, hpp, hle⟩ := HST.out i hin
      subst e9
      rw [hq] at hx9 hl9 hC9
      have HLE := Aside0.mk hle
      have G2 := Aside0.mk (G.out.has hC9 hl9)
      clear G
      have G := G2
      clear G2 hj1 hin hle hq hC9 hl9
      obtain ⟨adq, e8, hq0⟩ := int_hd (G.out.c 0 rfl) (show 0 < [(a : Int), (b : Int)].length from by simp)
      subst e8
      replace hq0 : wr.cell? adq = some (.int .i64 (a : Int)) := hq0
      have hq1 : wr.cell? ⟨adq.block, adq.off + 1, none⟩ = some (.int .i64 (b : Int)) := ll_c1 (G.out.c 0 rfl) (by simp)
      obtain ⟨adp, e7, hpa⟩ := int_at (G.out.c 5 rfl) a (by omega)
      subst e7
      obtain ⟨adp2, e6, hpb⟩ := int_at (G.out.c 5 rfl) b hbp
      obtain rfl : adp = adp2 := by injection e6
      clear e6
      obtain ⟨y1_, y2_, y3_, y4_, y5_, y6_, y7_, y8_, y9_, y10_⟩ := ll_pair a b p.length _ _ hab hbp hpp
      clear hab hbp hpp
      by_cases hi0 : i = 0
      case pos =>
        have cz : decide ((0 : Int) < (i : Int)) = false := decide_eq_false (by omega)
        have cz2 : decide (0 < i) = false := decide_eq_false (by omega)
        have cz3 : decide ((i : Int) > 0) = false := decide_eq_false (by omega)
        clear hi0
        go_wp2
        repeat (go_quiet (fail); try go_wp2)
        go_roundg k1_
        case measure => omega
        case rel => exact ⟨i + 1, by rw [← HJ1.out], HJN, ⟨(G.out.step (by repeat (first | exact Below.refl _ _ | apply pw_below_drewN | apply below_drew1))).pick [1, 2, 3, 4, 5]⟩⟩
      case neg =>
        obtain ⟨k9, h9⟩ := HLE.out (by omega)
        have H9 := Aside0.mk h9
        obtain ⟨ad5, A5, c5, e5, hx5, hl5, hC5⟩ := rows_at (G.out.c 2 rfl) (i - 1) (by have := HIN.out; omega)
        obtain rfl : ad = ad5 := by injection e5
        obtain ⟨jp, hp1, hp2, w3_, w4_, p3_, q3_, cz, cz2, cz3⟩ := ll_prev i P.length HPL.out hi0 HIN.out
        have hx5' : wr.cell? (ad.add jp.toNat) = some (.slice A5 (P.getD (i - 1) []).length c5) := by rw [hp2]; exact hx5
        have G2 := Aside0.mk (G.out.has hC5 hl5)
        clear G
        have G := G2
        clear G2 h9 e5 hx5 hC5 hl5 hp1 hp2 hi0
        go_wp2
        repeat (go_quiet ((go_at_call 34; exact Calls.quiet_of ((laws_kLess.calls _ _ _ ((P.getD (i - 1) [])) _ _ ([(a : Int), (b : Int)]) _ _ (Kd.C_drewN (G.out.c 0 rfl) _) (G.out.l 0 rfl) (Kd.C_drewN (G.out.c 1 rfl) _) (G.out.l 1 rfl) H9.out).mono (fun _ _ h_ => ⟨h_.1, h_.2.out⟩)))); try go_wp2)
        go_roundg k1_
        case measure => omega
        case rel => exact ⟨i + 1, by rw [← HJ1.out], HJN, ⟨(G.out.step (by repeat (first | exact Below.refl _ _ | apply pw_below_drewN | apply below_drew1))).pick [2, 3, 4, 5, 6]⟩⟩

end
end Go.Proofs.Ytaheijeojbimeaa.PLl
