-- Written for this claim by a program of this session (myprint.py) over the kit's printer.
import Derived.Test.YtdeoeogdnagibaaWalkFnLeastListedD
import Derived.Test.YtdeoeogdnagibaaPLix0
import Derived.Deep.RegionHeld3
namespace Go.Proofs.Ytdeoeogdnagibaa.PLi
noncomputable section
open Go.RowKit Go.Proofs.YtdeoeogdnagibaaW.PrintWords Go.Proofs.YtdeoeogdnagibaaW.PrintLast Go.Proofs.YtdeoeogdnagibaaW.PrintMore
attribute [local go_sem] max2_int min2_int max_two min_two max_three min_three max_four min_four   -- for this text's walks alone
set_option linter.unusedVariables false
set_option linter.unusedSimpArgs false


set_option maxHeartbeats 16000000 in
set_option maxRecDepth 1000000 in
theorem laws_FnLeastListed.calls (A0 : Option Addr) (c0 : Nat) (l0 : List Int) (A1 : Option Addr) (c1 : Nat) (l1 : List Int) (w : World) (hr0 : Kd.C (Kd.int .u8) w A0 l0.length l0) (hc0 : l0.length ≤ c0) (hr1 : Kd.C (Kd.int .u8) w A1 l1.length l1) (hc1 : l1.length ≤ c1) (h : laws_FnLeastListed.Ok l0 l1) :
    Calls Try.prog 3 #[.slice A0 l0.length c0, .slice A1 l1.length c1] w fun e w' => e = .returned (.bool true) ∧ Below w.heap.size w w' := by
  have HR0 := Aside0.mk hr0
  have HC0 := Aside0.mk hc0
  have HR1 := Aside0.mk hr1
  have HC1 := Aside0.mk hc1
  clear hr0 hc0 hr1 hc1
  rcases h with h | ⟨h, hH, hT⟩
  · have HBG := Aside0.mk h
    clear h
    have G := Aside0.mk (Bag.start w)
    have tok0 := Aside0.mk True.intro
    go_enter Try.func3, Try.ntmps3
    go_wp2_with (first | (go_at_call 4; have tk_ := tok0; clear tk_ tok0; (with_reducible refine (laws_big.calls _ _ (l0) _ _ (l1) _ _ ?sd0_ ?sd1_ ?sd2_ ?sd3_ HBG.out).mono ?_); (case sd0_ => repeat (first | exact Kd.C_below HR0.out G.out.b | (with_reducible refine Kd.C_drewN ?_ _) | (with_reducible refine Kd.C_drew ?_))); (case sd1_ => exact HC0.out); (case sd2_ => repeat (first | exact Kd.C_below HR1.out G.out.b | (with_reducible refine Kd.C_drewN ?_ _) | (with_reducible refine Kd.C_drew ?_))); (case sd3_ => exact HC1.out); rintro e w' ⟨rfl, hd⟩; replace G := Aside0.mk (G.out.step hd.below); clear hd; have tok1 := Aside0.mk True.intro))
    go_ret
    exact ⟨rfl, G.out.b⟩
  · obtain ⟨p, al, ok, cnt, one, h0, h1, h2, h3, h4, h5, h6, h7, h8⟩ := hH
    have HBG := Aside0.mk h
    have HT := Aside0.mk hT
    have E5 := Aside0.mk h5
    have H6 := Aside0.mk h6
    have H7 := Aside0.mk h7
    have H8 := Aside0.mk h8
    clear h hT h5 h6 h7 h8
    have G := Aside0.mk (Bag.start w)
    have tok0 := Aside0.mk True.intro
    obtain ⟨k0, h0⟩ := h0
    obtain ⟨k2, h2⟩ := h2
    have H0 := Aside0.mk h0
    have H1 := Aside0.mk h1
    have H2 := Aside0.mk h2
    have H3 := Aside0.mk h3
    have H4 := Aside0.mk h4
    clear h0 h1 h2 h3 h4
    have hu40 := Try.underlying34
    go_enter Try.func3, Try.ntmps3
    go_upto_region 8 with (first | (go_at_call 4; have tk_ := tok0; clear tk_ tok0; (with_reducible refine (laws_big.calls _ _ (l0) _ _ (l1) _ _ ?sd0_ ?sd1_ ?sd2_ ?sd3_ HBG.out).mono ?_); (case sd0_ => repeat (first | exact Kd.C_below HR0.out G.out.b | (with_reducible refine Kd.C_drewN ?_ _) | (with_reducible refine Kd.C_drew ?_))); (case sd1_ => exact HC0.out); (case sd2_ => repeat (first | exact Kd.C_below HR1.out G.out.b | (with_reducible refine Kd.C_drewN ?_ _) | (with_reducible refine Kd.C_drew ?_))); (case sd3_ => exact HC1.out); rintro e w' ⟨rfl, hd⟩; replace G := Aside0.mk (G.out.step hd.below); clear hd; have tok1 := Aside0.mk True.intro) | (go_at_call 5; have tk_ := tok1; clear tk_ tok1; (with_reducible refine (spec_DrawAllLeast.calls _ _ _ (l0) _ _ ?sd0_ ?sd1_ H0.out).mono ?_); (case sd0_ => repeat (first | exact Kd.C_below HR0.out G.out.b | (with_reducible refine Kd.C_drewN ?_ _) | (with_reducible refine Kd.C_drew ?_))); (case sd1_ => exact HC0.out); rintro e w' ⟨v0_, rfl, ho0, hb⟩; obtain ⟨A_p, c_p, e_⟩ := Kd.R_slice ho0; subst e_; replace G := Aside0.mk (G.out.addR hb ho0); clear ho0 hb; have tok2 := Aside0.mk True.intro) | (go_at_call 6; have tk_ := tok2; clear tk_ tok2; (with_reducible refine (impl_AllLeast.calls _ _ (p) _ _ _ ?sd0_ ?sd1_ H1.out).mono ?_); (case sd0_ => repeat (first | exact G.out.c 0 rfl | (with_reducible refine Kd.C_drewN ?_ _) | (with_reducible refine Kd.C_drew ?_))); (case sd1_ => exact G.out.l 0 rfl); rintro e w' ⟨v0_, rfl, ho0, hb⟩; obtain ⟨A_a, c_a, e_⟩ := Kd.S_slice ho0; subst e_; replace G := Aside0.mk (G.out.addS hb ho0); clear ho0 hb; have tok3 := Aside0.mk True.intro) | (go_at_call 7; have tk_ := tok3; clear tk_ tok3; (with_reducible refine (spec_AllLeast.calls _ _ _ (p) _ _ _ ?sd0_ ?sd1_ H2.out).mono ?_); (case sd0_ => repeat (first | exact G.out.c 1 rfl | (with_reducible refine Kd.C_drewN ?_ _) | (with_reducible refine Kd.C_drew ?_))); (case sd1_ => exact G.out.l 1 rfl); rintro e w' ⟨v0_, rfl, ho0, hb⟩; obtain ⟨A_a2, c_a2, e_⟩ := Kd.N_slice ho0; subst e_; replace G := Aside0.mk (G.out.addN hb ho0); clear ho0 hb; have tok4 := Aside0.mk True.intro) | (go_at_call 8; have tk_ := tok4; clear tk_ tok4; (with_reducible refine (impl_CountLeast.calls _ _ (p) _ _ _ ?sd0_ ?sd1_ H3.out).mono ?_); (case sd0_ => repeat (first | exact G.out.c 2 rfl | (with_reducible refine Kd.C_drewN ?_ _) | (with_reducible refine Kd.C_drew ?_))); (case sd1_ => exact G.out.l 2 rfl); rintro e w' ⟨rfl, hb⟩; replace G := Aside0.mk (G.out.step hb); clear hb; have tok5 := Aside0.mk True.intro) | (go_at_call 9; have tk_ := tok5; clear tk_ tok5; (with_reducible refine (spec_CountLeast.calls _ _ (p) _ _ _ ?sd0_ ?sd1_ H4.out).mono ?_); (case sd0_ => repeat (first | exact G.out.c 2 rfl | (with_reducible refine Kd.C_drewN ?_ _) | (with_reducible refine Kd.C_drew ?_))); (case sd1_ => exact G.out.l 2 rfl); rintro e w' ⟨rfl, hb⟩; replace G := Aside0.mk (G.out.step hb); clear hb; have tok6 := Aside0.mk True.intro))
    refine wp_cut (FlS A1 c1 l1 cnt ok one p A_p c_p al A_a c_a w) ?_ ?_
    · intro a' w' h
      clear G
      obtain ⟨f, G, rfl⟩ := h
      rename ∀ (a : Act) (w : World), Code.wp _ _ _ a w → _ => aK
      refine aK _ _ ?_
      clear aK
      dsimp only [FlSFr]
      go_upto_if 118 with (fail)
      refine wp_cut (FlR A1 c1 l1 w) ?_ ?_
      · intro a' w' h
        obtain ⟨f2, hcut2, rfl⟩ := h
        rename ∀ (a : Act) (w : World), Code.wp _ _ _ a w → _ => aK
        exact aK _ _ (fl_tail (f2 0) (f2 2) (f2 3) (f2 4) (f2 5) (f2 6) (f2 7) (f2 8) (f2 9) (f2 10) (f2 11) (f2 12) (f2 13) (f2 14) (f2 15) (f2 16) (f2 17) (f2 18) (f2 19) (f2 20) (f2 21) (f2 22) (f2 23) (f2 24) (f2 25) (f2 26) (f2 27) (f2 28) (f2 29) (f2 30) (f2 31) (f2 32) (f2 33) (f2 34) (f2 35) (f2 36) (f2 37) (f2 38) (f2 39) (f2 40) (f2 41) (f2 42) (f2 43) (f2 44) (f2 45) (f2 46) (f2 47) (f2 48) (f2 49) (f2 50) (f2 51) (f2 52) (f2 53) (f2 54) (f2 55) (f2 56) (f2 57) (f2 58) (f2 59) (f2 60) (f2 61) (f2 62) (f2 63) (f2 64) (f2 65) (f2 66) (f2 67) (f2 68) (f2 69) (f2 70) (f2 71) (f2 72) (f2 73) (f2 74) (f2 75) (f2 76) (f2 77) (f2 78) (f2 79) (f2 80) (f2 81) (f2 82) (f2 83) (f2 84) (f2 85) (f2 86) (f2 87) (f2 88) (f2 89) (f2 90) (f2 91) (f2 92) (f2 93) (f2 94) (f2 95) (f2 96) (f2 97) (f2 98) (f2 99) (f2 100) (f2 101) (f2 102) (f2 103) (f2 104) (f2 105) (f2 106) (f2 107) (f2 108) (f2 109) (f2 110) (f2 111) (f2 112) (f2 113) (f2 114) (f2 115) (f2 116) (f2 117) (f2 118) (f2 119) (f2 120) (f2 121) (f2 122) (f2 123) (f2 124) (f2 125) (f2 126) (f2 127) (f2 128) (f2 129) (f2 130) (f2 131) (f2 132) (f2 133) (f2 134) (f2 135) (f2 136) (f2 137) (f2 138) (f2 139) (f2 140) (f2 141) (f2 142) (f2 143) (f2 144) (f2 145) (f2 146) (f2 147) (f2 148) (f2 149) (f2 150) (f2 151) (f2 152) (f2 153) (f2 154) (f2 155) (f2 156) (f2 157) (f2 158) (f2 159) (f2 160) (f2 161) (f2 162) (f2 163) (f2 164) (f2 165) (f2 166) (f2 167) (f2 168) (f2 169) (f2 170) (f2 171) (f2 172) (f2 173) (f2 174) (f2 175) (f2 176) (f2 177) (f2 178) (f2 179) (f2 180) (f2 181) (f2 182) (f2 183) (f2 184) (f2 185) (f2 186) (f2 187) (f2 188) (f2 189) (f2 190) (f2 191) (f2 192) (f2 193) (f2 194) (f2 195) (f2 196) (f2 197) (f2 198) (f2 199) (f2 200) (f2 201) (f2 202) (f2 203) (f2 204) (f2 205) (f2 206) (f2 207) (f2 208) (f2 209) (f2 210) (f2 211) (f2 212) (f2 213) (f2 214) (f2 215) (f2 216) (f2 217) (f2 218) (f2 219) (f2 220) (f2 221) (f2 222) (f2 223) (f2 224) (f2 225) (f2 226) (f2 227) (f2 228) (f2 229) (f2 230) (f2 231) (f2 232) (f2 233) (f2 234) (f2 235) (f2 236) (f2 237) (f2 238) (f2 239) (f2 240) (f2 241) (f2 242) (f2 243) (f2 244) (f2 245) (f2 246) (f2 247) (f2 248) (f2 249) (f2 250) (f2 251) (f2 252) (f2 253) (f2 254) (f2 255) (f2 256) (f2 257) (f2 258) (f2 259) (f2 260) (f2 261) (f2 262) (f2 263) (f2 264) (f2 265) (f2 266) (f2 267) (f2 268) (f2 269) (f2 270) (f2 271) (f2 272) (f2 273) (f2 274) (f2 275) (f2 276) (f2 277) (f2 278) (f2 279) (f2 280) (f2 281) (f2 282) (f2 283) (f2 284) (f2 285) (f2 286) (f2 287) (f2 288) (f2 289) (f2 290) (f2 291) (f2 292) (f2 293) (f2 294) (f2 295) (f2 296) (f2 297) (f2 298) (f2 299) (f2 300) (f2 301) (f2 302) (f2 303) (f2 304) (f2 305) (f2 306) (f2 307) (f2 308) (f2 309) (f2 310) (f2 311) (f2 312) (f2 313) (f2 314) (f2 315) (f2 316) (f2 317) (f2 318) (f2 319) (f2 320) (f2 321) (f2 322) (f2 323) (f2 324) (f2 325) (f2 326) (f2 327) (f2 328) (f2 329) (f2 330) (f2 331) (f2 332) (f2 333) (f2 334) (f2 335) (f2 336) (f2 337) (f2 338) (f2 339) (f2 340) (f2 341) (f2 342) (f2 343) (f2 344) (f2 345) (f2 346) (f2 347) (f2 348) (f2 349) (f2 350) (f2 351) (f2 352) (f2 353) (f2 354) (f2 355) (f2 356) (f2 357) (f2 358) (f2 359) (f2 360) (f2 361) (f2 362) (f2 363) (f2 364) (f2 365) (f2 366) (f2 367) (f2 368) (f2 369) (f2 370) (f2 371) (f2 372) (f2 373) (f2 374) (f2 375) (f2 376) (f2 377) (f2 378) (f2 379) (f2 380) (f2 381) (f2 382) (f2 383) (f2 384) (f2 385) (f2 386) (f2 387) (f2 388) (f2 389) (f2 390) (f2 391) (f2 392) (f2 393) (f2 394) (f2 395) (f2 396) A1 c1 l1 w _ HR1 HC1 hcut2 HT)
      · intro J K hJ hK
        cases one with
        | false =>
          go_wp2
          refine Met.intro (hJ _ _ (FlR.mk A1 c1 l1 w (by first | exact G.out.pick [] | exact (G.out.step (by repeat (first | exact Below.refl _ _ | apply pw_below_drewN | apply below_drew1 | apply below_alloc))).pick []) (by kernel_rfl)))
        | true => exact fl_c118 _ _ _ _ _ _ _ _ _ _ _ _ _ _ _ _ _ _ _ _ _ _ _ _ _ _ _ _ _ _ _ _ _ _ _ _ _ _ _ _ _ _ _ _ _ _ _ _ _ _ _ _ _ _ _ _ _ _ _ _ _ _ _ _ _ _ _ _ _ _ _ _ _ _ _ _ _ _ _ _ _ _ _ _ _ _ _ _ _ _ _ _ _ _ _ _ _ _ _ _ _ _ _ _ _ _ _ _ _ _ _ _ _ _ _ _ _ _ _ _ _ _ _ _ _ _ _ _ _ _ _ _ _ _ _ _ _ _ _ _ _ _ _ _ _ _ _ _ _ _ _ _ _ _ _ _ _ _ _ _ _ _ _ _ _ _ _ _ _ _ _ _ _ _ _ _ _ _ _ _ _ _ _ _ _ _ _ _ _ _ _ _ _ _ _ _ _ _ _ _ _ _ _ _ _ _ _ _ _ _ _ _ _ _ _ _ _ _ _ _ _ _ _ _ _ _ _ _ _ _ _ _ _ _ _ _ _ _ _ _ _ _ _ _ _ _ _ _ _ _ _ _ _ _ _ _ _ _ _ _ _ _ _ _ _ _ _ _ _ _ _ _ _ _ _ _ _ _ _ _ _ _ _ _ _ _ _ _ _ _ _ _ _ _ _ _ _ _ _ _ _ _ _ _ _ _ _ _ _ _ _ _ _ _ _ _ _ _ _ _ _ _ _ _ _ _ _ _ _ _ _ _ _ _ _ _ _ _ _ _ _ _ _ _ _ _ _ _ _ _ _ _ _ _ _ _ _ _ _ _ _ _ _ _ _ _ _ _ _ _ _ _ _ _ _ _ _ _ _ _ _ _ _ _ _ _ _ _ _ _ _ A1 c1 l1 cnt p A_p c_p w _ al A_a c_a ok J K _ (fun a' w' h_ => hJ a' w' h_) hK G ⟨H8.out rfl⟩
    · intro J K hJ hK
      cases one with
      | false =>
        cases ok with
        | false => exact fl_reg_false_false _ _ _ _ _ _ _ _ _ _ _ _ _ _ _ _ _ _ _ _ _ _ _ _ _ _ _ _ _ _ _ _ _ _ _ _ _ _ _ _ _ _ _ _ _ _ _ _ _ _ _ _ _ _ _ _ _ _ _ _ _ _ _ _ _ _ _ _ _ _ _ _ _ _ _ _ _ _ _ _ _ _ _ _ _ _ _ _ _ _ _ _ _ _ _ _ _ _ _ _ _ _ _ _ _ _ _ _ _ _ _ _ _ _ _ _ _ _ _ _ _ _ _ _ _ _ _ _ _ _ _ _ _ _ _ _ _ _ _ _ _ _ _ _ _ _ _ _ _ _ _ _ _ _ _ _ _ _ _ _ _ _ _ _ _ _ _ _ _ _ _ _ _ _ _ _ _ _ _ _ _ _ _ _ _ _ _ _ _ _ _ _ _ _ _ _ _ _ _ _ _ _ _ _ _ _ _ _ _ _ _ _ _ _ _ _ _ _ _ _ _ _ _ _ _ _ _ _ _ _ _ _ _ _ _ _ _ _ _ _ _ _ _ _ _ _ _ _ _ _ _ _ _ _ _ _ _ _ _ _ _ _ _ _ _ _ _ _ _ _ _ _ _ _ _ _ _ _ _ _ _ _ _ _ _ _ _ _ _ _ _ _ _ _ _ _ _ _ _ _ _ _ _ _ _ _ _ _ _ _ _ _ _ _ _ _ _ _ _ _ _ _ _ _ _ _ _ _ _ _ _ _ _ _ _ _ _ _ _ _ _ _ _ _ _ _ _ _ _ _ _ _ _ _ _ _ _ _ _ _ _ _ _ _ _ _ _ _ _ _ _ _ _ _ _ _ _ _ _ _ _ _ _ _ _ _ _ A1 c1 l1 cnt p A_p c_p al A_a c_a w _ A_a2 c_a2 J K _ (fun a' w' h_ => hJ a' w' h_) hK G E5
        | true => exact absurd (H6.out rfl) (by simp)
      | true =>
        cases ok with
        | false => exact fl_reg_true_false _ _ _ _ _ _ _ _ _ _ _ _ _ _ _ _ _ _ _ _ _ _ _ _ _ _ _ _ _ _ _ _ _ _ _ _ _ _ _ _ _ _ _ _ _ _ _ _ _ _ _ _ _ _ _ _ _ _ _ _ _ _ _ _ _ _ _ _ _ _ _ _ _ _ _ _ _ _ _ _ _ _ _ _ _ _ _ _ _ _ _ _ _ _ _ _ _ _ _ _ _ _ _ _ _ _ _ _ _ _ _ _ _ _ _ _ _ _ _ _ _ _ _ _ _ _ _ _ _ _ _ _ _ _ _ _ _ _ _ _ _ _ _ _ _ _ _ _ _ _ _ _ _ _ _ _ _ _ _ _ _ _ _ _ _ _ _ _ _ _ _ _ _ _ _ _ _ _ _ _ _ _ _ _ _ _ _ _ _ _ _ _ _ _ _ _ _ _ _ _ _ _ _ _ _ _ _ _ _ _ _ _ _ _ _ _ _ _ _ _ _ _ _ _ _ _ _ _ _ _ _ _ _ _ _ _ _ _ _ _ _ _ _ _ _ _ _ _ _ _ _ _ _ _ _ _ _ _ _ _ _ _ _ _ _ _ _ _ _ _ _ _ _ _ _ _ _ _ _ _ _ _ _ _ _ _ _ _ _ _ _ _ _ _ _ _ _ _ _ _ _ _ _ _ _ _ _ _ _ _ _ _ _ _ _ _ _ _ _ _ _ _ _ _ _ _ _ _ _ _ _ _ _ _ _ _ _ _ _ _ _ _ _ _ _ _ _ _ _ _ _ _ _ _ _ _ _ _ _ _ _ _ _ _ _ _ _ _ _ _ _ _ _ _ _ _ _ _ _ _ _ _ _ _ _ _ _ A1 c1 l1 cnt p A_p c_p al A_a c_a w _ A_a2 c_a2 J K _ (fun a' w' h_ => hJ a' w' h_) hK G ⟨H7.out rfl⟩ E5
        | true => exact fl_reg_true_true _ _ _ _ _ _ _ _ _ _ _ _ _ _ _ _ _ _ _ _ _ _ _ _ _ _ _ _ _ _ _ _ _ _ _ _ _ _ _ _ _ _ _ _ _ _ _ _ _ _ _ _ _ _ _ _ _ _ _ _ _ _ _ _ _ _ _ _ _ _ _ _ _ _ _ _ _ _ _ _ _ _ _ _ _ _ _ _ _ _ _ _ _ _ _ _ _ _ _ _ _ _ _ _ _ _ _ _ _ _ _ _ _ _ _ _ _ _ _ _ _ _ _ _ _ _ _ _ _ _ _ _ _ _ _ _ _ _ _ _ _ _ _ _ _ _ _ _ _ _ _ _ _ _ _ _ _ _ _ _ _ _ _ _ _ _ _ _ _ _ _ _ _ _ _ _ _ _ _ _ _ _ _ _ _ _ _ _ _ _ _ _ _ _ _ _ _ _ _ _ _ _ _ _ _ _ _ _ _ _ _ _ _ _ _ _ _ _ _ _ _ _ _ _ _ _ _ _ _ _ _ _ _ _ _ _ _ _ _ _ _ _ _ _ _ _ _ _ _ _ _ _ _ _ _ _ _ _ _ _ _ _ _ _ _ _ _ _ _ _ _ _ _ _ _ _ _ _ _ _ _ _ _ _ _ _ _ _ _ _ _ _ _ _ _ _ _ _ _ _ _ _ _ _ _ _ _ _ _ _ _ _ _ _ _ _ _ _ _ _ _ _ _ _ _ _ _ _ _ _ _ _ _ _ _ _ _ _ _ _ _ _ _ _ _ _ _ _ _ _ _ _ _ _ _ _ _ _ _ _ _ _ _ _ _ _ _ _ _ _ _ _ _ _ _ _ _ _ _ _ _ _ _ _ _ _ _ A1 c1 l1 cnt p A_p c_p al A_a c_a w _ A_a2 c_a2 J K _ (fun a' w' h_ => hJ a' w' h_) hK G ⟨H7.out rfl⟩ E5
theorem laws_FnLeastListed.walk (P : laws_FnLeastListed.Pure) (a0 : Option Addr) (len0 cap0 : Nat) (z0 : List Int) (a1 : Option Addr) (len1 cap1 : Nat) (z1 : List Int) (w : World) (w0 : (a0 = none ∧ len0 = 0 ∧ cap0 = 0 ∧ z0 = []) ∨ ∃ x, a0 = some x ∧ len0 ≤ cap0 ∧ cap0 ≤ maxLen ∧ z0.length = cap0 ∧ (∀ i, i < z0.length → w.cell? (x.add i) = some (.int .u8 (z0.getD i 0))) ∧ ∀ n ∈ z0, (Lit.int .u8 n).wf = true) (y0 : len0 * 1 ≤ 140737488351232) (w1 : (a1 = none ∧ len1 = 0 ∧ cap1 = 0 ∧ z1 = []) ∨ ∃ x, a1 = some x ∧ len1 ≤ cap1 ∧ cap1 ≤ maxLen ∧ z1.length = cap1 ∧ (∀ i, i < z1.length → w.cell? (x.add i) = some (.int .u8 (z1.getD i 0))) ∧ ∀ n ∈ z1, (Lit.int .u8 n).wf = true) (y1 : len1 * 1 ≤ 140737488351232) :
    Calls Try.prog 3 #[.slice a0 len0 cap0, .slice a1 len1 cap1] w fun e w' => e = .returned (.bool true) ∧ Below w.heap.size w w' := by
  obtain ⟨l0, rfl, hr0, hm0, hw0, hc0⟩ := ReadsInt.ofRowC w0
  obtain ⟨l1, rfl, hr1, hm1, hw1, hc1⟩ := ReadsInt.ofRowC w1
  exact laws_FnLeastListed.calls _ _ l0 _ _ l1 w (Kd.C_of_reads (d := (0 : Int)) (h1 := fun _ => rfl) hr0) hc0 (Kd.C_of_reads (d := (0 : Int)) (h1 := fun _ => rfl) hr1) hc1 (P l0 l1 hm0 y0 hw0 hm1 y1 hw1)


end
end Go.Proofs.Ytdeoeogdnagibaa.PLi
