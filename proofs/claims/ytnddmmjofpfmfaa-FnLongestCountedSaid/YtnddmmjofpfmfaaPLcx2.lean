-- Written for this claim by a program of this session (myprint.py) over the kit's printer.
import Derived.Test.YtnddmmjofpfmfaaPLcx0
import Derived.Test.YtnddmmjofpfmfaaPLcx1
namespace Go.Proofs.Ytnddmmjofpfmfaa.PLc
noncomputable section
open Go.RowKit Go.Proofs.YtnddmmjofpfmfaaW.PrintWords Go.Proofs.YtnddmmjofpfmfaaW.PrintLast Go.Proofs.YtnddmmjofpfmfaaW.PrintMore
attribute [local go_sem] max2_int min2_int max_two min_two max_three min_three max_four min_four   -- for this text's walks alone
set_option linter.unusedVariables false
set_option linter.unusedSimpArgs false

/-! ### spec_CountByLength: function 12 -/
open Classical in
noncomputable def spec_CountByLength.ev {α : Type} (g : Nat → Option α) : Option α := if h : ∃ k r, g k = some r then g h.choose else none
theorem spec_CountByLength.ev_some {α : Type} {g : Nat → Option α} {r : α} (h : spec_CountByLength.ev g = some r) : ∃ k, g k = some r := by
  unfold spec_CountByLength.ev at h
  split at h
  · exact ⟨_, h⟩
  · cases h
noncomputable def spec_CountByLength.lp (N n : Nat) (ps : List (List Int)) : Nat → Nat → List Int → Option (List Int)
  | 0, _, xs => some xs
  | m + 1, i, xs => (spec_CountByLength.ev fun k => spec_lsInversions.f k (ps.getD i [])).bind fun iv => if iv.length < xs.length then (spec_alCounter_count.g N n 16 (ps.getD i [])).bind fun r => spec_CountByLength.lp N n ps m (i + 1) (xs.set iv.length (wrap64 (rd xs (iv.length : Int) + r))) else none
noncomputable def spec_CountByLength.f (n : Int) : Option (List Int × Bool) := if 2 ≤ n ∧ n ≤ 6 then (spec_CountByLength.ev fun k => spec_alOrders.f k n).bind fun ps => if ps.length ≤ 100000 then (spec_CountByLength.lp (spec_alNew.fc n.toNat) n.toNat ps ps.length 0 (List.replicate (n * (n - 1) / 2 + 1).toNat 0)).bind fun xs => some (xs, true) else none else some ([], false)
def spec_CountByLength.T12 : Bool × List (List Nat × List Nat) := (true, [([], []), ([], []), ([1], [1]), ([2], [2]), ([0, 3], [0, 3]), ([4], [4]), ([], []), ([], []), ([6, 7, 2], [6, 7]), ([5, 8], [5, 8]), ([0, 3, 0, 1, 2, 3, 4, 5, 6, 7, 8, 9], [0, 3]), ([10, 9, 8, 0, 1, 2, 3, 4, 5, 6, 7, 8, 9], [9, 10])])
def spec_CountByLength.B12 : List Nat := [0, 0, 2, 6, 15, 31, 0, 0, 198, 511, 1023, 2047]
theorem spec_CountByLength.tab12 : rtab .any (opsOf Try.f12 8) = spec_CountByLength.T12 := by kernel_rfl
theorem spec_CountByLength.bits12 : waitsOk spec_CountByLength.T12.2 spec_CountByLength.B12 = true := by kernel_rfl
set_option maxHeartbeats 8000000 in
set_option maxRecDepth 100000 in
theorem spec_CountByLength.calls_2 (ps : List (List Int)) (kp : Nat) (res : List Int) (w : World) (hp : spec_alOrders.f kp 2 = some ps) (hpl : ps.length ≤ 100000) (hl : spec_CountByLength.lp (spec_alNew.fc ((2 : Int)).toNat) ((2 : Int)).toNat ps ps.length 0 (List.replicate ((2 : Int) * (2 - 1) / 2 + 1).toNat 0) = some res) :
    Calls Try.prog 12 #[.int .i64 2] w fun e w' => ∃ v0_ : Value, e = .returned (.tuple #[v0_, .bool true]) ∧ Kd.R (Kd.int .i64) 3 w' w.heap.size (fun _ => True) v0_ res ∧ Below w.heap.size w w' := by
  have HI := Aside0.mk hp
  have HPL := Aside0.mk hpl
  have HL := Aside0.mk (show spec_CountByLength.lp (spec_alNew.fc 2) 2 ps ps.length 0 (List.replicate 2 0) = some res from hl)
  have HBT := Aside0.mk (show spec_l1In.f 2 2 6 = some true from rfl)
  have HB := Aside0.mk (Below.refl w.heap.size w)
  clear hp hl hpl
  go_enter Try.func12, Try.ntmps12
  go_wp2_with (first | (go_at_call 55; (with_reducible refine (spec_l1In.calls 2 2 6 true _ HBT.out).mono ?_); rintro e w' ⟨rfl, ⟨nd, rfl⟩⟩) | ((with_reducible refine gate_dst (N := 17) rfl ?_); refine Kd.R_make (Kd.int .i64) (w0 := w) w.heap.size 3 rfl (N := 17) rfl 25 _ _ rfl (2 : Int) rfl rfl Try.underlying25 (.int .i64 0) 8 info3 rfl (by decide) (by omega) 0 (ok := fun _ => True) (okp := fun _ => True) rfl (fun _ hk => hk) trivial (by decide) (by decide) ?hbm ?hsz ?_; (case hbm => exact pw_below_drewN HB.out nd); (case hsz => exact Nat.le_refl _); intro v16 w4 ho5 hb hg_ hnew_; obtain ⟨go, C, eG, hGb, hGl, _⟩ := Kd.R_form ho5 (by decide); subst eG; have HR := Aside0.mk (show Kd.R (Kd.int .i64) 3 w4 w.heap.size (fun k_ => k_ = go) (.slice (some ⟨go, 0, none⟩) 2 C) (List.replicate 2 0) from Kd.R_mono (Kd.R_tight rfl ho5) (fun k_ e_ => by simpa [Value.ownBlock] using e_)); have HB4 := Aside0.mk hb; have HGL := Aside0.mk hGl; clear hg_ hnew_ hb ho5 hGb hGl HB) | (go_at_call 56; (refine (spec_alNew.calls 2 (by decide) _).mono ?_); rintro e w5 ⟨v5, rfl, hm, hb⟩; obtain ⟨B, G, rfl, hBw, hGw, hM⟩ := spec_alCounter_count.Mem.made hm; have HM := Aside0.mk (hM.lower HB4.out.size); have HNE := Aside0.mk (show B ≠ go ∧ G ≠ go ∧ B ≠ G from ⟨by have h_ := HGL.out; omega, by have h_ := HGL.out; omega, hM.out.2.1⟩); have HB5 := Aside0.mk (below_step HB4.out hb); have HR5 := Aside0.mk (Kd.R_below HR.out hb); have HLT5 := Aside0.mk (show go < w5.heap.size ∧ G < w5.heap.size from ⟨Kd.R_lt (Kd.R_below HR.out hb) go rfl, (hM.lt (by decide)).2⟩); clear hm hb hM hBw hGw HB4 HR) | (go_at_call 57; (refine (spec_alOrders.calls kp 2 ps _ HI.out).mono ?_); rintro e w6 ⟨v6, rfl, hs, hb⟩; have HO := Aside0.mk (Kd.S_mono (ok' := fun k_ => k_ ≠ go ∧ k_ ≠ G) (Kd.S_bound hs) (fun k_ h_ => by have h1_ := h_.2.1; have h2_ := HLT5.out; exact ⟨by omega, by omega⟩)); obtain ⟨A6, c6, e6⟩ := Kd.S_slice hs; subst e6; have HB6 := Aside0.mk (below_step HB5.out hb); have HR6 := Aside0.mk (Kd.R_below HR5.out hb); have HM6 := Aside0.mk (HM.out.below hb); have HSB := Aside0.mk (Nat.le_trans HB5.out.size (Nat.le_refl _)); clear hs hb HB5 HR5 HM))
  go_loopg [23] ps.length (fun kq v23 w' => ∃ (i : Nat) (xs : List Int), v23 = .int .i64 (i : Int) ∧ Aside0 (i + kq = ps.length) ∧ Aside0 (xs.length = 2) ∧ Aside0 (spec_CountByLength.lp (spec_alNew.fc 2) 2 ps kq i xs = some res) ∧ Aside0 (Kd.R (Kd.int .i64) 3 w' w.heap.size (fun k_ => k_ = go) (.slice (some ⟨go, 0, none⟩) 2 C) xs) ∧ Aside0 (spec_alCounter_count.Mem w.heap.size w' B G (spec_alNew.fc 2) 2) ∧ Aside0 (Kd.S (Kd.slice 3 (Kd.int .i64)) 25 w' w5.heap.size (fun k_ => k_ ≠ go ∧ k_ ≠ G) (.slice A6 ps.length c6) ps) ∧ Aside0 (Below w.heap.size w w'))
  case atStart => exact ⟨0, List.replicate 2 0, rfl, ⟨by omega⟩, ⟨List.length_replicate⟩, HL, HR6, HM6, HO, HB6⟩
  case round =>
    clear HR6 HM6 HO HB6 HL
    obtain ⟨i, xs, rfl, HI, HXL, HA, HR, HM, HO, HB⟩ := hrel
    cases gk with
    | zero =>
      have H := HA.out
      simp only [spec_CountByLength.lp, Option.some.injEq] at H
      have HE := Aside0.mk H
      have HI0 := HI.out
      have ct : decide ((i : Int) < (ps.length : Int)) = false := decide_eq_false (by omega)
      clear H
      go_wp2
      go_ret2
      exact ⟨_, rfl, by rw [← HE.out]; exact Kd.R_mono HR.out (fun _ _ => trivial), HB.out⟩
    | succ k1 =>
      have H := HA.out
      simp only [spec_CountByLength.lp] at H
      obtain ⟨iv, hiv, H⟩ := Option.bind_eq_some_iff.1 H
      obtain ⟨ki, hiv⟩ := spec_CountByLength.ev_some hiv
      by_cases hc1 : iv.length < xs.length
      case neg => rw [if_neg hc1] at H; cases H
      rw [if_pos hc1] at H
      obtain ⟨r, hr, H⟩ := Option.bind_eq_some_iff.1 H
      have HI0 := HI.out
      have p9 : (0 : Int) ≤ (i : Int) := by omega
      have q9 : (i : Int) < ps.length := by omega
      have ct : decide ((i : Int) < (ps.length : Int)) = true := decide_eq_true q9
      obtain ⟨g6, cap6, e6, _, _, _⟩ := Kd.S_form HO.out (by omega)
      obtain ⟨rfl, rfl⟩ : A6 = some ⟨g6, 0, none⟩ ∧ c6 = cap6 := by cases e6; exact ⟨rfl, rfl⟩
      clear e6
      obtain ⟨cs, hcl, hMe, hcc⟩ := Kd.S_get HO.out [] (i : Int) p9 (by omega)
      obtain ⟨ve, rfl, ge⟩ := hMe
      have hx9 := hcc 0 _ rfl
      rw [Nat.add_zero, show ((Kd.slice 3 (Kd.int .i64))).sz = 1 from rfl, Nat.mul_one] at hx9
      simp only [Int.toNat_natCast] at hx9 ge
      rw [add_at, Nat.zero_add] at hx9
      obtain ⟨p, hp⟩ : ∃ p, p = ps.getD i [] := ⟨_, rfl⟩
      rw [← hp] at hiv hr ge
      obtain ⟨Ap, cp, ep⟩ := Kd.R_slice ge
      subst ep
      have HF := Aside0.mk (Kd.F_mono (ok' := fun k_ => k_ ≠ go ∧ k_ ≠ G) (Kd.R_F ge) (fun _ h_ => h_.1))
      have HC := Aside0.mk (Kd.R_reads' ge).2.1
      obtain ⟨x, hx⟩ : ∃ x, x = rd xs (iv.length : Int) := ⟨_, rfl⟩
      rw [← hx] at H
      have HX := Aside0.mk hx
      have HIV := Aside0.mk hiv
      have HRR := Aside0.mk hr
      have HT := Aside0.mk H
      have HC1 := Aside0.mk hc1
      have p30 : ((0 : Int) ≤ (iv.length : Int)) = True := eq_true (by omega)
      have q30 : ((iv.length : Int) < (2 : Int)) = True := eq_true (by have h_ := HXL.out; omega)
      have q31 : (iv.length < 2) = True := eq_true (by have h_ := HXL.out; omega)
      have hcell : ∀ W, Kd.R (Kd.int .i64) 3 W w.heap.size (fun k_ => k_ = go) (.slice (some ⟨go, 0, none⟩) 2 C) xs → W.cell? ⟨go, iv.length, none⟩ = some (.int .i64 x) := fun W hW => by
        obtain ⟨ad, e, hc_⟩ := Kd.at_int (Kd.R_reads' hW).2.2 (iv.length : Int) (by omega) (by omega)
        cases e
        rw [hx]
        rw [add_at, Nat.zero_add, Int.toNat_natCast] at hc_
        exact hc_
      have HCL := Aside0.mk hcell
      replace p9 := eq_true p9
      replace q9 := eq_true q9
      clear hiv hr H hc1 hx hp hcc hcl ge hcell
      go_wp2
      clear hx9
      have n0_ := Aside0.mk (Kd.F_drew HF.out)
      have n1_ := Aside0.mk (Kd.R_drew HR.out)
      have n2_ := Aside0.mk (below_drew1 HB.out)
      have n3_ := Aside0.mk (HM.out.below (below_drew1 (Below.refl _ _)))
      have n4_ := Aside0.mk (Kd.S_drew HO.out)
      clear HF HR HB HM HO
      have HF := n0_
      have HR := n1_
      have HB := n2_
      have HM := n3_
      have HO := n4_
      clear n0_ n1_ n2_ n3_ n4_
      refine start_ (n := 12) (S := fun w' => w'.cell? ⟨go, iv.length, none⟩ = some (.int .i64 x)) (ds := [11]) #[false, false, false, false, false, false, false, false, false, false, false, false] (by kernel_rfl) rfl rfl (HCL.out _ HR.out) (fun hHeld => ?_)
      refine with_tabW spec_CountByLength.tab12 spec_CountByLength.bits12 (fun HT_ HW_ => ?_)
      generalize wr.drew = w1 at HF HR HB HM HO hHeld ⊢
      refine pure_ (i := 0) (N := some 27) (v := ?_) (a' := ?_) #[true, false, false, false, false, false, false, false, false, false, false, false] rfl rfl (any_of HT_.out (by kernel_rfl)) (fun _ _ _ h => h) (Or.inl ⟨by rfl, ?_⟩) ?_ ?_
      rotate_left
      · intro w'
        go_simp
        with_reducible rfl
      rotate_left
      · simp only [Act.put, List.setIfInBounds_toArray, List.set_cons_zero, List.set_cons_succ, i64_w, i32_w]
        rfl
      refine pure_ (i := 1) (N := some 28) (v := ?_) (a' := ?_) #[true, true, false, false, false, false, false, false, false, false, false, false] rfl rfl (any_of HT_.out (by kernel_rfl)) (fun _ _ _ h => h) (Or.inl ⟨by rfl, ?_⟩) ?_ ?_
      rotate_left
      · intro w'
        go_simp
        with_reducible rfl
      rotate_left
      · simp only [Act.put, List.setIfInBounds_toArray, List.set_cons_zero, List.set_cons_succ, i64_w, i32_w]
        rfl
      refine pure_ (i := 6) (N := some 33) (v := ?_) (a' := ?_) #[true, true, false, false, false, false, true, false, false, false, false, false] rfl rfl (any_of HT_.out (by kernel_rfl)) (fun _ _ _ h => h) (Or.inl ⟨by rfl, ?_⟩) ?_ ?_
      rotate_left
      · intro w'
        go_simp
        with_reducible rfl
      rotate_left
      · simp only [Act.put, List.setIfInBounds_toArray, List.set_cons_zero, List.set_cons_succ, i64_w, i32_w]
        rfl
      refine pure_ (i := 7) (N := some 34) (v := ?_) (a' := ?_) #[true, true, false, false, false, false, true, true, false, false, false, false] rfl rfl (any_of HT_.out (by kernel_rfl)) (fun _ _ _ h => h) (Or.inl ⟨by rfl, ?_⟩) ?_ ?_
      rotate_left
      · intro w'
        go_simp
        with_reducible rfl
      rotate_left
      · simp only [Act.put, List.setIfInBounds_toArray, List.set_cons_zero, List.set_cons_succ, i64_w, i32_w]
        rfl
      refine one_ (i := 2) (N := some 29) #[true, true, true, false, false, false, true, true, false, false, false, false] rfl rfl (one_of HT_.out (by kernel_rfl)) (by decide) (fun K hK => ?_)
      refine goes_ Try.func58 (by kernel_rfl) rfl #[.slice Ap p.length cp] (by rfl) rfl rfl (by (try simp only [List.map_toArray, List.map_cons, List.map_nil]); first | done | rfl) ?_
      refine (spec_lsInversions.calls ki Ap cp p iv _ (Kd.F_now HF.out) HC.out HIV.out).mono ?_
      rintro e w3 ⟨v3, rfl, hs3, hb⟩
      refine ⟨_, rfl, ?_⟩
      obtain ⟨A3, c3, e3⟩ := Kd.S_slice hs3
      subst e3
      have n0_ := Aside0.mk (Kd.F_below HF.out hb)
      have n1_ := Aside0.mk (Kd.R_below HR.out hb)
      have n2_ := Aside0.mk (below_step HB.out hb)
      have n3_ := Aside0.mk (HM.out.below hb)
      have n4_ := Aside0.mk (Kd.S_below HO.out hb)
      clear HF HR HB HM HO hs3 hb hHeld
      have HF := n0_
      have HR := n1_
      have HB := n2_
      have HM := n3_
      have HO := n4_
      clear n0_ n1_ n2_ n3_ n4_
      refine hK.out _ _ (HCL.out _ HR.out) (fun hHeld => ?_)
      clear hK K
      refine norm_ (a' := ?_) ?_ ?_
      rotate_left
      · show Act.put _ (some 29) _ = _
        simp only [Act.put, List.setIfInBounds_toArray, List.set_cons_zero, List.set_cons_succ, i64_w, i32_w]
        rfl
      refine pure_ (i := 3) (N := some 30) (v := ?_) (a' := ?_) #[true, true, true, true, false, false, true, true, false, false, false, false] rfl rfl (any_of HT_.out (by kernel_rfl)) (fun _ _ _ h => h) (Or.inl ⟨by rfl, ?_⟩) ?_ ?_
      rotate_left
      · intro w'
        go_simp
        with_reducible rfl
      rotate_left
      · simp only [Act.put, List.setIfInBounds_toArray, List.set_cons_zero, List.set_cons_succ, i64_w, i32_w]
        rfl
      refine pure_ (i := 4) (N := some 31) (v := ?_) (a' := ?_) #[true, true, true, true, true, false, true, true, false, false, false, false] rfl rfl (any_of HT_.out (by kernel_rfl)) (fun _ _ _ h => h) (Or.inl ⟨by rfl, ?_⟩) ?_ ?_
      rotate_left
      · intro w'
        go_simp
        with_reducible rfl
      rotate_left
      · simp only [Act.put, List.setIfInBounds_toArray, List.set_cons_zero, List.set_cons_succ, i64_w, i32_w]
        rfl
      refine take_ (i := 5) (N := some 32) (v := ?_) (a' := ?_) #[true, true, true, true, true, true, true, true, false, false, false, false] rfl rfl (take_ofW HT_.out HW_.out (by kernel_rfl)) (fun _ _ _ h => h) (Or.inl ⟨by rfl, ?_⟩) hHeld ?_ ?_
      rotate_left
      · rintro w' s0
        go_simp
        with_reducible rfl
      rotate_left
      · simp only [Act.put, List.setIfInBounds_toArray, List.set_cons_zero, List.set_cons_succ, i64_w, i32_w]
        rfl
      refine one_ (i := 8) (N := some 35) #[true, true, true, true, true, true, true, true, true, false, false, false] rfl rfl (one_of HT_.out (by kernel_rfl)) (by decide) (fun K hK => ?_)
      refine goes_ Try.func59 (by kernel_rfl) rfl #[.pointer (some ⟨B, 0, none⟩), .slice Ap p.length cp] (by rfl) rfl rfl (by (try simp only [List.map_toArray, List.map_cons, List.map_nil]); first | done | rfl) ?_
      refine (spec_alCounter_count.calls_g (spec_alNew.fc 2) 2 16 B G Ap cp p r w _ HB.out HM.out (fun W' hk_ => Kd.F_now (Kd.F_kept HF.out hk_ (fun k_ h_ => h_.2))) HC.out HRR.out).mono ?_
      rintro e w4_ ⟨rfl, hm4, hb4, hk4⟩
      refine ⟨_, rfl, ?_⟩
      have n0_ := Aside0.mk (Kd.R_step HR.out (fun k_ e_ hlt => hk4.2 k_ hlt (fun x_ => HNE.out.2.1 (by rw [← x_, e_]))))
      have n1_ := Aside0.mk hb4
      have n2_ := Aside0.mk hm4
      have n3_ := Aside0.mk (Kd.S_step HO.out (fun k_ e_ hlt => hk4.2 k_ hlt e_.2))
      clear HF HR HB HM HO hm4 hb4 hk4 hHeld
      have HR := n0_
      have HB := n1_
      have HM := n2_
      have HO := n3_
      clear n0_ n1_ n2_ n3_
      refine hK.out _ _ (HCL.out _ HR.out) (fun hHeld => ?_)
      clear hK K
      refine norm_ (a' := ?_) ?_ ?_
      rotate_left
      · show Act.put _ (some 35) _ = _
        simp only [Act.put, List.setIfInBounds_toArray, List.set_cons_zero, List.set_cons_succ, i64_w, i32_w]
        rfl
      refine pure_ (i := 9) (N := some 36) (v := ?_) (a' := ?_) #[true, true, true, true, true, true, true, true, true, true, false, false] rfl rfl (any_of HT_.out (by kernel_rfl)) (fun _ _ _ h => h) (Or.inl ⟨by rfl, ?_⟩) ?_ ?_
      rotate_left
      · intro w'
        go_simp
        with_reducible rfl
      rotate_left
      · simp only [Act.put, List.setIfInBounds_toArray, List.set_cons_zero, List.set_cons_succ, i64_w, i32_w]
        rfl
      refine pure_ (i := 10) (N := some 37) (v := ?_) (a' := ?_) #[true, true, true, true, true, true, true, true, true, true, true, false] rfl rfl (any_of HT_.out (by kernel_rfl)) (fun _ _ _ h => h) (Or.inl ⟨by rfl, ?_⟩) ?_ ?_
      rotate_left
      · intro w'
        go_simp
        with_reducible rfl
      rotate_left
      · simp only [Act.put, List.setIfInBounds_toArray, List.set_cons_zero, List.set_cons_succ, i64_w, i32_w]
        rfl
      refine last_ (i := 11) (N := none) #[true, true, true, true, true, true, true, true, true, true, true, true] rfl rfl (one_of HT_.out (by kernel_rfl)) (by decide) (fun K hK => ?_)
      have hs_ := HCL.out _ HR.out
      obtain ⟨cells, hcs⟩ := Kd.R_typed HR.out go rfl
      have hf_ := blk_frozen hcs iv.length
      clear hcs
      refine skip_ (w1 := ?_) (by rfl) rfl ?_ ?_
      rotate_left
      · go_simp
        rfl
      refine hK.out _ _ ?_
      clear hK K
      refine done_ (done_of HT_.out (by kernel_rfl)) ?_
      have hp_ := Kd.R_putg HR.out (iv.length : Int) (wrap64 (x + r))
      rw [Int.toNat_natCast] at hp_
      have hk_ := Kept.of_grown (S := fun k_ => k_ = go) hp_.2 (Kept.refl _ _) (fun k_ e_ => .inl (by cases e_; rfl))
      have n0_ := Aside0.mk hp_.1
      have n1_ := Aside0.mk (HB.out.grown hp_.2 HB.out.size (fun k_ e_ => by cases e_; exact Kd.R_base HR.out _ rfl))
      have n2_ := Aside0.mk (HM.out.kept hk_ HNE.out.2.1 HNE.out.1)
      have n3_ := Aside0.mk (Kd.S_step HO.out (fun k_ e_ hlt => hk_.2 k_ hlt e_.1))
      clear hp_ hk_ hs_ hf_
      try go_wp2
      go_roundg k1
      case measure => omega
      case rel => exact ⟨i + 1, _, (by have h_ := HPL.out; first | rfl | (simp; done) | (simp [wrap64]; omega)), ⟨by omega⟩, ⟨by rw [List.length_set]; exact HXL.out⟩, HT, n0_, n2_, n3_, n1_⟩
set_option maxHeartbeats 8000000 in
set_option maxRecDepth 100000 in
theorem spec_CountByLength.calls_3 (ps : List (List Int)) (kp : Nat) (res : List Int) (w : World) (hp : spec_alOrders.f kp 3 = some ps) (hpl : ps.length ≤ 100000) (hl : spec_CountByLength.lp (spec_alNew.fc ((3 : Int)).toNat) ((3 : Int)).toNat ps ps.length 0 (List.replicate ((3 : Int) * (3 - 1) / 2 + 1).toNat 0) = some res) :
    Calls Try.prog 12 #[.int .i64 3] w fun e w' => ∃ v0_ : Value, e = .returned (.tuple #[v0_, .bool true]) ∧ Kd.R (Kd.int .i64) 3 w' w.heap.size (fun _ => True) v0_ res ∧ Below w.heap.size w w' := by
  have HI := Aside0.mk hp
  have HPL := Aside0.mk hpl
  have HL := Aside0.mk (show spec_CountByLength.lp (spec_alNew.fc 3) 3 ps ps.length 0 (List.replicate 4 0) = some res from hl)
  have HBT := Aside0.mk (show spec_l1In.f 3 2 6 = some true from rfl)
  have HB := Aside0.mk (Below.refl w.heap.size w)
  clear hp hl hpl
  go_enter Try.func12, Try.ntmps12
  go_wp2_with (first | (go_at_call 55; (with_reducible refine (spec_l1In.calls 3 2 6 true _ HBT.out).mono ?_); rintro e w' ⟨rfl, ⟨nd, rfl⟩⟩) | ((with_reducible refine gate_dst (N := 17) rfl ?_); refine Kd.R_make (Kd.int .i64) (w0 := w) w.heap.size 3 rfl (N := 17) rfl 25 _ _ rfl (4 : Int) rfl rfl Try.underlying25 (.int .i64 0) 8 info3 rfl (by decide) (by omega) 0 (ok := fun _ => True) (okp := fun _ => True) rfl (fun _ hk => hk) trivial (by decide) (by decide) ?hbm ?hsz ?_; (case hbm => exact pw_below_drewN HB.out nd); (case hsz => exact Nat.le_refl _); intro v16 w4 ho5 hb hg_ hnew_; obtain ⟨go, C, eG, hGb, hGl, _⟩ := Kd.R_form ho5 (by decide); subst eG; have HR := Aside0.mk (show Kd.R (Kd.int .i64) 3 w4 w.heap.size (fun k_ => k_ = go) (.slice (some ⟨go, 0, none⟩) 4 C) (List.replicate 4 0) from Kd.R_mono (Kd.R_tight rfl ho5) (fun k_ e_ => by simpa [Value.ownBlock] using e_)); have HB4 := Aside0.mk hb; have HGL := Aside0.mk hGl; clear hg_ hnew_ hb ho5 hGb hGl HB) | (go_at_call 56; (refine (spec_alNew.calls 3 (by decide) _).mono ?_); rintro e w5 ⟨v5, rfl, hm, hb⟩; obtain ⟨B, G, rfl, hBw, hGw, hM⟩ := spec_alCounter_count.Mem.made hm; have HM := Aside0.mk (hM.lower HB4.out.size); have HNE := Aside0.mk (show B ≠ go ∧ G ≠ go ∧ B ≠ G from ⟨by have h_ := HGL.out; omega, by have h_ := HGL.out; omega, hM.out.2.1⟩); have HB5 := Aside0.mk (below_step HB4.out hb); have HR5 := Aside0.mk (Kd.R_below HR.out hb); have HLT5 := Aside0.mk (show go < w5.heap.size ∧ G < w5.heap.size from ⟨Kd.R_lt (Kd.R_below HR.out hb) go rfl, (hM.lt (by decide)).2⟩); clear hm hb hM hBw hGw HB4 HR) | (go_at_call 57; (refine (spec_alOrders.calls kp 3 ps _ HI.out).mono ?_); rintro e w6 ⟨v6, rfl, hs, hb⟩; have HO := Aside0.mk (Kd.S_mono (ok' := fun k_ => k_ ≠ go ∧ k_ ≠ G) (Kd.S_bound hs) (fun k_ h_ => by have h1_ := h_.2.1; have h2_ := HLT5.out; exact ⟨by omega, by omega⟩)); obtain ⟨A6, c6, e6⟩ := Kd.S_slice hs; subst e6; have HB6 := Aside0.mk (below_step HB5.out hb); have HR6 := Aside0.mk (Kd.R_below HR5.out hb); have HM6 := Aside0.mk (HM.out.below hb); have HSB := Aside0.mk (Nat.le_trans HB5.out.size (Nat.le_refl _)); clear hs hb HB5 HR5 HM))
  go_loopg [23] ps.length (fun kq v23 w' => ∃ (i : Nat) (xs : List Int), v23 = .int .i64 (i : Int) ∧ Aside0 (i + kq = ps.length) ∧ Aside0 (xs.length = 4) ∧ Aside0 (spec_CountByLength.lp (spec_alNew.fc 3) 3 ps kq i xs = some res) ∧ Aside0 (Kd.R (Kd.int .i64) 3 w' w.heap.size (fun k_ => k_ = go) (.slice (some ⟨go, 0, none⟩) 4 C) xs) ∧ Aside0 (spec_alCounter_count.Mem w.heap.size w' B G (spec_alNew.fc 3) 3) ∧ Aside0 (Kd.S (Kd.slice 3 (Kd.int .i64)) 25 w' w5.heap.size (fun k_ => k_ ≠ go ∧ k_ ≠ G) (.slice A6 ps.length c6) ps) ∧ Aside0 (Below w.heap.size w w'))
  case atStart => exact ⟨0, List.replicate 4 0, rfl, ⟨by omega⟩, ⟨List.length_replicate⟩, HL, HR6, HM6, HO, HB6⟩
  case round =>
    clear HR6 HM6 HO HB6 HL
    obtain ⟨i, xs, rfl, HI, HXL, HA, HR, HM, HO, HB⟩ := hrel
    cases gk with
    | zero =>
      have H := HA.out
      simp only [spec_CountByLength.lp, Option.some.injEq] at H
      have HE := Aside0.mk H
      have HI0 := HI.out
      have ct : decide ((i : Int) < (ps.length : Int)) = false := decide_eq_false (by omega)
      clear H
      go_wp2
      go_ret2
      exact ⟨_, rfl, by rw [← HE.out]; exact Kd.R_mono HR.out (fun _ _ => trivial), HB.out⟩
    | succ k1 =>
      have H := HA.out
      simp only [spec_CountByLength.lp] at H
      obtain ⟨iv, hiv, H⟩ := Option.bind_eq_some_iff.1 H
      obtain ⟨ki, hiv⟩ := spec_CountByLength.ev_some hiv
      by_cases hc1 : iv.length < xs.length
      case neg => rw [if_neg hc1] at H; cases H
      rw [if_pos hc1] at H
      obtain ⟨r, hr, H⟩ := Option.bind_eq_some_iff.1 H
      have HI0 := HI.out
      have p9 : (0 : Int) ≤ (i : Int) := by omega
      have q9 : (i : Int) < ps.length := by omega
      have ct : decide ((i : Int) < (ps.length : Int)) = true := decide_eq_true q9
      obtain ⟨g6, cap6, e6, _, _, _⟩ := Kd.S_form HO.out (by omega)
      obtain ⟨rfl, rfl⟩ : A6 = some ⟨g6, 0, none⟩ ∧ c6 = cap6 := by cases e6; exact ⟨rfl, rfl⟩
      clear e6
      obtain ⟨cs, hcl, hMe, hcc⟩ := Kd.S_get HO.out [] (i : Int) p9 (by omega)
      obtain ⟨ve, rfl, ge⟩ := hMe
      have hx9 := hcc 0 _ rfl
      rw [Nat.add_zero, show ((Kd.slice 3 (Kd.int .i64))).sz = 1 from rfl, Nat.mul_one] at hx9
      simp only [Int.toNat_natCast] at hx9 ge
      rw [add_at, Nat.zero_add] at hx9
      obtain ⟨p, hp⟩ : ∃ p, p = ps.getD i [] := ⟨_, rfl⟩
      rw [← hp] at hiv hr ge
      obtain ⟨Ap, cp, ep⟩ := Kd.R_slice ge
      subst ep
      have HF := Aside0.mk (Kd.F_mono (ok' := fun k_ => k_ ≠ go ∧ k_ ≠ G) (Kd.R_F ge) (fun _ h_ => h_.1))
      have HC := Aside0.mk (Kd.R_reads' ge).2.1
      obtain ⟨x, hx⟩ : ∃ x, x = rd xs (iv.length : Int) := ⟨_, rfl⟩
      rw [← hx] at H
      have HX := Aside0.mk hx
      have HIV := Aside0.mk hiv
      have HRR := Aside0.mk hr
      have HT := Aside0.mk H
      have HC1 := Aside0.mk hc1
      have p30 : ((0 : Int) ≤ (iv.length : Int)) = True := eq_true (by omega)
      have q30 : ((iv.length : Int) < (4 : Int)) = True := eq_true (by have h_ := HXL.out; omega)
      have q31 : (iv.length < 4) = True := eq_true (by have h_ := HXL.out; omega)
      have hcell : ∀ W, Kd.R (Kd.int .i64) 3 W w.heap.size (fun k_ => k_ = go) (.slice (some ⟨go, 0, none⟩) 4 C) xs → W.cell? ⟨go, iv.length, none⟩ = some (.int .i64 x) := fun W hW => by
        obtain ⟨ad, e, hc_⟩ := Kd.at_int (Kd.R_reads' hW).2.2 (iv.length : Int) (by omega) (by omega)
        cases e
        rw [hx]
        rw [add_at, Nat.zero_add, Int.toNat_natCast] at hc_
        exact hc_
      have HCL := Aside0.mk hcell
      replace p9 := eq_true p9
      replace q9 := eq_true q9
      clear hiv hr H hc1 hx hp hcc hcl ge hcell
      go_wp2
      clear hx9
      have n0_ := Aside0.mk (Kd.F_drew HF.out)
      have n1_ := Aside0.mk (Kd.R_drew HR.out)
      have n2_ := Aside0.mk (below_drew1 HB.out)
      have n3_ := Aside0.mk (HM.out.below (below_drew1 (Below.refl _ _)))
      have n4_ := Aside0.mk (Kd.S_drew HO.out)
      clear HF HR HB HM HO
      have HF := n0_
      have HR := n1_
      have HB := n2_
      have HM := n3_
      have HO := n4_
      clear n0_ n1_ n2_ n3_ n4_
      refine start_ (n := 12) (S := fun w' => w'.cell? ⟨go, iv.length, none⟩ = some (.int .i64 x)) (ds := [11]) #[false, false, false, false, false, false, false, false, false, false, false, false] (by kernel_rfl) rfl rfl (HCL.out _ HR.out) (fun hHeld => ?_)
      refine with_tabW spec_CountByLength.tab12 spec_CountByLength.bits12 (fun HT_ HW_ => ?_)
      generalize wr.drew = w1 at HF HR HB HM HO hHeld ⊢
      refine pure_ (i := 0) (N := some 27) (v := ?_) (a' := ?_) #[true, false, false, false, false, false, false, false, false, false, false, false] rfl rfl (any_of HT_.out (by kernel_rfl)) (fun _ _ _ h => h) (Or.inl ⟨by rfl, ?_⟩) ?_ ?_
      rotate_left
      · intro w'
        go_simp
        with_reducible rfl
      rotate_left
      · simp only [Act.put, List.setIfInBounds_toArray, List.set_cons_zero, List.set_cons_succ, i64_w, i32_w]
        rfl
      refine pure_ (i := 1) (N := some 28) (v := ?_) (a' := ?_) #[true, true, false, false, false, false, false, false, false, false, false, false] rfl rfl (any_of HT_.out (by kernel_rfl)) (fun _ _ _ h => h) (Or.inl ⟨by rfl, ?_⟩) ?_ ?_
      rotate_left
      · intro w'
        go_simp
        with_reducible rfl
      rotate_left
      · simp only [Act.put, List.setIfInBounds_toArray, List.set_cons_zero, List.set_cons_succ, i64_w, i32_w]
        rfl
      refine pure_ (i := 6) (N := some 33) (v := ?_) (a' := ?_) #[true, true, false, false, false, false, true, false, false, false, false, false] rfl rfl (any_of HT_.out (by kernel_rfl)) (fun _ _ _ h => h) (Or.inl ⟨by rfl, ?_⟩) ?_ ?_
      rotate_left
      · intro w'
        go_simp
        with_reducible rfl
      rotate_left
      · simp only [Act.put, List.setIfInBounds_toArray, List.set_cons_zero, List.set_cons_succ, i64_w, i32_w]
        rfl
      refine pure_ (i := 7) (N := some 34) (v := ?_) (a' := ?_) #[true, true, false, false, false, false, true, true, false, false, false, false] rfl rfl (any_of HT_.out (by kernel_rfl)) (fun _ _ _ h => h) (Or.inl ⟨by rfl, ?_⟩) ?_ ?_
      rotate_left
      · intro w'
        go_simp
        with_reducible rfl
      rotate_left
      · simp only [Act.put, List.setIfInBounds_toArray, List.set_cons_zero, List.set_cons_succ, i64_w, i32_w]
        rfl
      refine one_ (i := 2) (N := some 29) #[true, true, true, false, false, false, true, true, false, false, false, false] rfl rfl (one_of HT_.out (by kernel_rfl)) (by decide) (fun K hK => ?_)
      refine goes_ Try.func58 (by kernel_rfl) rfl #[.slice Ap p.length cp] (by rfl) rfl rfl (by (try simp only [List.map_toArray, List.map_cons, List.map_nil]); first | done | rfl) ?_
      refine (spec_lsInversions.calls ki Ap cp p iv _ (Kd.F_now HF.out) HC.out HIV.out).mono ?_
      rintro e w3 ⟨v3, rfl, hs3, hb⟩
      refine ⟨_, rfl, ?_⟩
      obtain ⟨A3, c3, e3⟩ := Kd.S_slice hs3
      subst e3
      have n0_ := Aside0.mk (Kd.F_below HF.out hb)
      have n1_ := Aside0.mk (Kd.R_below HR.out hb)
      have n2_ := Aside0.mk (below_step HB.out hb)
      have n3_ := Aside0.mk (HM.out.below hb)
      have n4_ := Aside0.mk (Kd.S_below HO.out hb)
      clear HF HR HB HM HO hs3 hb hHeld
      have HF := n0_
      have HR := n1_
      have HB := n2_
      have HM := n3_
      have HO := n4_
      clear n0_ n1_ n2_ n3_ n4_
      refine hK.out _ _ (HCL.out _ HR.out) (fun hHeld => ?_)
      clear hK K
      refine norm_ (a' := ?_) ?_ ?_
      rotate_left
      · show Act.put _ (some 29) _ = _
        simp only [Act.put, List.setIfInBounds_toArray, List.set_cons_zero, List.set_cons_succ, i64_w, i32_w]
        rfl
      refine pure_ (i := 3) (N := some 30) (v := ?_) (a' := ?_) #[true, true, true, true, false, false, true, true, false, false, false, false] rfl rfl (any_of HT_.out (by kernel_rfl)) (fun _ _ _ h => h) (Or.inl ⟨by rfl, ?_⟩) ?_ ?_
      rotate_left
      · intro w'
        go_simp
        with_reducible rfl
      rotate_left
      · simp only [Act.put, List.setIfInBounds_toArray, List.set_cons_zero, List.set_cons_succ, i64_w, i32_w]
        rfl
      refine pure_ (i := 4) (N := some 31) (v := ?_) (a' := ?_) #[true, true, true, true, true, false, true, true, false, false, false, false] rfl rfl (any_of HT_.out (by kernel_rfl)) (fun _ _ _ h => h) (Or.inl ⟨by rfl, ?_⟩) ?_ ?_
      rotate_left
      · intro w'
        go_simp
        with_reducible rfl
      rotate_left
      · simp only [Act.put, List.setIfInBounds_toArray, List.set_cons_zero, List.set_cons_succ, i64_w, i32_w]
        rfl
      refine take_ (i := 5) (N := some 32) (v := ?_) (a' := ?_) #[true, true, true, true, true, true, true, true, false, false, false, false] rfl rfl (take_ofW HT_.out HW_.out (by kernel_rfl)) (fun _ _ _ h => h) (Or.inl ⟨by rfl, ?_⟩) hHeld ?_ ?_
      rotate_left
      · rintro w' s0
        go_simp
        with_reducible rfl
      rotate_left
      · simp only [Act.put, List.setIfInBounds_toArray, List.set_cons_zero, List.set_cons_succ, i64_w, i32_w]
        rfl
      refine one_ (i := 8) (N := some 35) #[true, true, true, true, true, true, true, true, true, false, false, false] rfl rfl (one_of HT_.out (by kernel_rfl)) (by decide) (fun K hK => ?_)
      refine goes_ Try.func59 (by kernel_rfl) rfl #[.pointer (some ⟨B, 0, none⟩), .slice Ap p.length cp] (by rfl) rfl rfl (by (try simp only [List.map_toArray, List.map_cons, List.map_nil]); first | done | rfl) ?_
      refine (spec_alCounter_count.calls_g (spec_alNew.fc 3) 3 16 B G Ap cp p r w _ HB.out HM.out (fun W' hk_ => Kd.F_now (Kd.F_kept HF.out hk_ (fun k_ h_ => h_.2))) HC.out HRR.out).mono ?_
      rintro e w4_ ⟨rfl, hm4, hb4, hk4⟩
      refine ⟨_, rfl, ?_⟩
      have n0_ := Aside0.mk (Kd.R_step HR.out (fun k_ e_ hlt => hk4.2 k_ hlt (fun x_ => HNE.out.2.1 (by rw [← x_, e_]))))
      have n1_ := Aside0.mk hb4
      have n2_ := Aside0.mk hm4
      have n3_ := Aside0.mk (Kd.S_step HO.out (fun k_ e_ hlt => hk4.2 k_ hlt e_.2))
      clear HF HR HB HM HO hm4 hb4 hk4 hHeld
      have HR := n0_
      have HB := n1_
      have HM := n2_
      have HO := n3_
      clear n0_ n1_ n2_ n3_
      refine hK.out _ _ (HCL.out _ HR.out) (fun hHeld => ?_)
      clear hK K
      refine norm_ (a' := ?_) ?_ ?_
      rotate_left
      · show Act.put _ (some 35) _ = _
        simp only [Act.put, List.setIfInBounds_toArray, List.set_cons_zero, List.set_cons_succ, i64_w, i32_w]
        rfl
      refine pure_ (i := 9) (N := some 36) (v := ?_) (a' := ?_) #[true, true, true, true, true, true, true, true, true, true, false, false] rfl rfl (any_of HT_.out (by kernel_rfl)) (fun _ _ _ h => h) (Or.inl ⟨by rfl, ?_⟩) ?_ ?_
      rotate_left
      · intro w'
        go_simp
        with_reducible rfl
      rotate_left
      · simp only [Act.put, List.setIfInBounds_toArray, List.set_cons_zero, List.set_cons_succ, i64_w, i32_w]
        rfl
      refine pure_ (i := 10) (N := some 37) (v := ?_) (a' := ?_) #[true, true, true, true, true, true, true, true, true, true, true, false] rfl rfl (any_of HT_.out (by kernel_rfl)) (fun _ _ _ h => h) (Or.inl ⟨by rfl, ?_⟩) ?_ ?_
      rotate_left
      · intro w'
        go_simp
        with_reducible rfl
      rotate_left
      · simp only [Act.put, List.setIfInBounds_toArray, List.set_cons_zero, List.set_cons_succ, i64_w, i32_w]
        rfl
      refine last_ (i := 11) (N := none) #[true, true, true, true, true, true, true, true, true, true, true, true] rfl rfl (one_of HT_.out (by kernel_rfl)) (by decide) (fun K hK => ?_)
      have hs_ := HCL.out _ HR.out
      obtain ⟨cells, hcs⟩ := Kd.R_typed HR.out go rfl
      have hf_ := blk_frozen hcs iv.length
      clear hcs
      refine skip_ (w1 := ?_) (by rfl) rfl ?_ ?_
      rotate_left
      · go_simp
        rfl
      refine hK.out _ _ ?_
      clear hK K
      refine done_ (done_of HT_.out (by kernel_rfl)) ?_
      have hp_ := Kd.R_putg HR.out (iv.length : Int) (wrap64 (x + r))
      rw [Int.toNat_natCast] at hp_
      have hk_ := Kept.of_grown (S := fun k_ => k_ = go) hp_.2 (Kept.refl _ _) (fun k_ e_ => .inl (by cases e_; rfl))
      have n0_ := Aside0.mk hp_.1
      have n1_ := Aside0.mk (HB.out.grown hp_.2 HB.out.size (fun k_ e_ => by cases e_; exact Kd.R_base HR.out _ rfl))
      have n2_ := Aside0.mk (HM.out.kept hk_ HNE.out.2.1 HNE.out.1)
      have n3_ := Aside0.mk (Kd.S_step HO.out (fun k_ e_ hlt => hk_.2 k_ hlt e_.1))
      clear hp_ hk_ hs_ hf_
      try go_wp2
      go_roundg k1
      case measure => omega
      case rel => exact ⟨i + 1, _, (by have h_ := HPL.out; first | rfl | (simp; done) | (simp [wrap64]; omega)), ⟨by omega⟩, ⟨by rw [List.length_set]; exact HXL.out⟩, HT, n0_, n2_, n3_, n1_⟩
set_option maxHeartbeats 8000000 in
set_option maxRecDepth 100000 in
theorem spec_CountByLength.calls_4 (ps : List (List Int)) (kp : Nat) (res : List Int) (w : World) (hp : spec_alOrders.f kp 4 = some ps) (hpl : ps.length ≤ 100000) (hl : spec_CountByLength.lp (spec_alNew.fc ((4 : Int)).toNat) ((4 : Int)).toNat ps ps.length 0 (List.replicate ((4 : Int) * (4 - 1) / 2 + 1).toNat 0) = some res) :
    Calls Try.prog 12 #[.int .i64 4] w fun e w' => ∃ v0_ : Value, e = .returned (.tuple #[v0_, .bool true]) ∧ Kd.R (Kd.int .i64) 3 w' w.heap.size (fun _ => True) v0_ res ∧ Below w.heap.size w w' := by
  have HI := Aside0.mk hp
  have HPL := Aside0.mk hpl
  have HL := Aside0.mk (show spec_CountByLength.lp (spec_alNew.fc 4) 4 ps ps.length 0 (List.replicate 7 0) = some res from hl)
  have HBT := Aside0.mk (show spec_l1In.f 4 2 6 = some true from rfl)
  have HB := Aside0.mk (Below.refl w.heap.size w)
  clear hp hl hpl
  go_enter Try.func12, Try.ntmps12
  go_wp2_with (first | (go_at_call 55; (with_reducible refine (spec_l1In.calls 4 2 6 true _ HBT.out).mono ?_); rintro e w' ⟨rfl, ⟨nd, rfl⟩⟩) | ((with_reducible refine gate_dst (N := 17) rfl ?_); refine Kd.R_make (Kd.int .i64) (w0 := w) w.heap.size 3 rfl (N := 17) rfl 25 _ _ rfl (7 : Int) rfl rfl Try.underlying25 (.int .i64 0) 8 info3 rfl (by decide) (by omega) 0 (ok := fun _ => True) (okp := fun _ => True) rfl (fun _ hk => hk) trivial (by decide) (by decide) ?hbm ?hsz ?_; (case hbm => exact pw_below_drewN HB.out nd); (case hsz => exact Nat.le_refl _); intro v16 w4 ho5 hb hg_ hnew_; obtain ⟨go, C, eG, hGb, hGl, _⟩ := Kd.R_form ho5 (by decide); subst eG; have HR := Aside0.mk (show Kd.R (Kd.int .i64) 3 w4 w.heap.size (fun k_ => k_ = go) (.slice (some ⟨go, 0, none⟩) 7 C) (List.replicate 7 0) from Kd.R_mono (Kd.R_tight rfl ho5) (fun k_ e_ => by simpa [Value.ownBlock] using e_)); have HB4 := Aside0.mk hb; have HGL := Aside0.mk hGl; clear hg_ hnew_ hb ho5 hGb hGl HB) | (go_at_call 56; (refine (spec_alNew.calls 4 (by decide) _).mono ?_); rintro e w5 ⟨v5, rfl, hm, hb⟩; obtain ⟨B, G, rfl, hBw, hGw, hM⟩ := spec_alCounter_count.Mem.made hm; have HM := Aside0.mk (hM.lower HB4.out.size); have HNE := Aside0.mk (show B ≠ go ∧ G ≠ go ∧ B ≠ G from ⟨by have h_ := HGL.out; omega, by have h_ := HGL.out; omega, hM.out.2.1⟩); have HB5 := Aside0.mk (below_step HB4.out hb); have HR5 := Aside0.mk (Kd.R_below HR.out hb); have HLT5 := Aside0.mk (show go < w5.heap.size ∧ G < w5.heap.size from ⟨Kd.R_lt (Kd.R_below HR.out hb) go rfl, (hM.lt (by decide)).2⟩); clear hm hb hM hBw hGw HB4 HR) | (go_at_call 57; (refine (spec_alOrders.calls kp 4 ps _ HI.out).mono ?_); rintro e w6 ⟨v6, rfl, hs, hb⟩; have HO := Aside0.mk (Kd.S_mono (ok' := fun k_ => k_ ≠ go ∧ k_ ≠ G) (Kd.S_bound hs) (fun k_ h_ => by have h1_ := h_.2.1; have h2_ := HLT5.out; exact ⟨by omega, by omega⟩)); obtain ⟨A6, c6, e6⟩ := Kd.S_slice hs; subst e6; have HB6 := Aside0.mk (below_step HB5.out hb); have HR6 := Aside0.mk (Kd.R_below HR5.out hb); have HM6 := Aside0.mk (HM.out.below hb); have HSB := Aside0.mk (Nat.le_trans HB5.out.size (Nat.le_refl _)); clear hs hb HB5 HR5 HM))
  go_loopg [23] ps.length (fun kq v23 w' => ∃ (i : Nat) (xs : List Int), v23 = .int .i64 (i : Int) ∧ Aside0 (i + kq = ps.length) ∧ Aside0 (xs.length = 7) ∧ Aside0 (spec_CountByLength.lp (spec_alNew.fc 4) 4 ps kq i xs = some res) ∧ Aside0 (Kd.R (Kd.int .i64) 3 w' w.heap.size (fun k_ => k_ = go) (.slice (some ⟨go, 0, none⟩) 7 C) xs) ∧ Aside0 (spec_alCounter_count.Mem w.heap.size w' B G (spec_alNew.fc 4) 4) ∧ Aside0 (Kd.S (Kd.slice 3 (Kd.int .i64)) 25 w' w5.heap.size (fun k_ => k_ ≠ go ∧ k_ ≠ G) (.slice A6 ps.length c6) ps) ∧ Aside0 (Below w.heap.size w w'))
  case atStart => exact ⟨0, List.replicate 7 0, rfl, ⟨by omega⟩, ⟨List.length_replicate⟩, HL, HR6, HM6, HO, HB6⟩
  case round =>
    clear HR6 HM6 HO HB6 HL
    obtain ⟨i, xs, rfl, HI, HXL, HA, HR, HM, HO, HB⟩ := hrel
    cases gk with
    | zero =>
      have H := HA.out
      simp only [spec_CountByLength.lp, Option.some.injEq] at H
      have HE := Aside0.mk H
      have HI0 := HI.out
      have ct : decide ((i : Int) < (ps.length : Int)) = false := decide_eq_false (by omega)
      clear H
      go_wp2
      go_ret2
      exact ⟨_, rfl, by rw [← HE.out]; exact Kd.R_mono HR.out (fun _ _ => trivial), HB.out⟩
    | succ k1 =>
      have H := HA.out
      simp only [spec_CountByLength.lp] at H
      obtain ⟨iv, hiv, H⟩ := Option.bind_eq_some_iff.1 H
      obtain ⟨ki, hiv⟩ := spec_CountByLength.ev_some hiv
      by_cases hc1 : iv.length < xs.length
      case neg => rw [if_neg hc1] at H; cases H
      rw [if_pos hc1] at H
      obtain ⟨r, hr, H⟩ := Option.bind_eq_some_iff.1 H
      have HI0 := HI.out
      have p9 : (0 : Int) ≤ (i : Int) := by omega
      have q9 : (i : Int) < ps.length := by omega
      have ct : decide ((i : Int) < (ps.length : Int)) = true := decide_eq_true q9
      obtain ⟨g6, cap6, e6, _, _, _⟩ := Kd.S_form HO.out (by omega)
      obtain ⟨rfl, rfl⟩ : A6 = some ⟨g6, 0, none⟩ ∧ c6 = cap6 := by cases e6; exact ⟨rfl, rfl⟩
      clear e6
      obtain ⟨cs, hcl, hMe, hcc⟩ := Kd.S_get HO.out [] (i : Int) p9 (by omega)
      obtain ⟨ve, rfl, ge⟩ := hMe
      have hx9 := hcc 0 _ rfl
      rw [Nat.add_zero, show ((Kd.slice 3 (Kd.int .i64))).sz = 1 from rfl, Nat.mul_one] at hx9
      simp only [Int.toNat_natCast] at hx9 ge
      rw [add_at, Nat.zero_add] at hx9
      obtain ⟨p, hp⟩ : ∃ p, p = ps.getD i [] := ⟨_, rfl⟩
      rw [← hp] at hiv hr ge
      obtain ⟨Ap, cp, ep⟩ := Kd.R_slice ge
      subst ep
      have HF := Aside0.mk (Kd.F_mono (ok' := fun k_ => k_ ≠ go ∧ k_ ≠ G) (Kd.R_F ge) (fun _ h_ => h_.1))
      have HC := Aside0.mk (Kd.R_reads' ge).2.1
      obtain ⟨x, hx⟩ : ∃ x, x = rd xs (iv.length : Int) := ⟨_, rfl⟩
      rw [← hx] at H
      have HX := Aside0.mk hx
      have HIV := Aside0.mk hiv
      have HRR := Aside0.mk hr
      have HT := Aside0.mk H
      have HC1 := Aside0.mk hc1
      have p30 : ((0 : Int) ≤ (iv.length : Int)) = True := eq_true (by omega)
      have q30 : ((iv.length : Int) < (7 : Int)) = True := eq_true (by have h_ := HXL.out; omega)
      have q31 : (iv.length < 7) = True := eq_true (by have h_ := HXL.out; omega)
      have hcell : ∀ W, Kd.R (Kd.int .i64) 3 W w.heap.size (fun k_ => k_ = go) (.slice (some ⟨go, 0, none⟩) 7 C) xs → W.cell? ⟨go, iv.length, none⟩ = some (.int .i64 x) := fun W hW => by
        obtain ⟨ad, e, hc_⟩ := Kd.at_int (Kd.R_reads' hW).2.2 (iv.length : Int) (by omega) (by omega)
        cases e
        rw [hx]
        rw [add_at, Nat.zero_add, Int.toNat_natCast] at hc_
        exact hc_
      have HCL := Aside0.mk hcell
      replace p9 := eq_true p9
      replace q9 := eq_true q9
      clear hiv hr H hc1 hx hp hcc hcl ge hcell
      go_wp2
      clear hx9
      have n0_ := Aside0.mk (Kd.F_drew HF.out)
      have n1_ := Aside0.mk (Kd.R_drew HR.out)
      have n2_ := Aside0.mk (below_drew1 HB.out)
      have n3_ := Aside0.mk (HM.out.below (below_drew1 (Below.refl _ _)))
      have n4_ := Aside0.mk (Kd.S_drew HO.out)
      clear HF HR HB HM HO
      have HF := n0_
      have HR := n1_
      have HB := n2_
      have HM := n3_
      have HO := n4_
      clear n0_ n1_ n2_ n3_ n4_
      refine start_ (n := 12) (S := fun w' => w'.cell? ⟨go, iv.length, none⟩ = some (.int .i64 x)) (ds := [11]) #[false, false, false, false, false, false, false, false, false, false, false, false] (by kernel_rfl) rfl rfl (HCL.out _ HR.out) (fun hHeld => ?_)
      refine with_tabW spec_CountByLength.tab12 spec_CountByLength.bits12 (fun HT_ HW_ => ?_)
      generalize wr.drew = w1 at HF HR HB HM HO hHeld ⊢
      refine pure_ (i := 0) (N := some 27) (v := ?_) (a' := ?_) #[true, false, false, false, false, false, false, false, false, false, false, false] rfl rfl (any_of HT_.out (by kernel_rfl)) (fun _ _ _ h => h) (Or.inl ⟨by rfl, ?_⟩) ?_ ?_
      rotate_left
      · intro w'
        go_simp
        with_reducible rfl
      rotate_left
      · simp only [Act.put, List.setIfInBounds_toArray, List.set_cons_zero, List.set_cons_succ, i64_w, i32_w]
        rfl
      refine pure_ (i := 1) (N := some 28) (v := ?_) (a' := ?_) #[true, true, false, false, false, false, false, false, false, false, false, false] rfl rfl (any_of HT_.out (by kernel_rfl)) (fun _ _ _ h => h) (Or.inl ⟨by rfl, ?_⟩) ?_ ?_
      rotate_left
      · intro w'
        go_simp
        with_reducible rfl
      rotate_left
      · simp only [Act.put, List.setIfInBounds_toArray, List.set_cons_zero, List.set_cons_succ, i64_w, i32_w]
        rfl
      refine pure_ (i := 6) (N := some 33) (v := ?_) (a' := ?_) #[true, true, false, false, false, false, true, false, false, false, false, false] rfl rfl (any_of HT_.out (by kernel_rfl)) (fun _ _ _ h => h) (Or.inl ⟨by rfl, ?_⟩) ?_ ?_
      rotate_left
      · intro w'
        go_simp
        with_reducible rfl
      rotate_left
      · simp only [Act.put, List.setIfInBounds_toArray, List.set_cons_zero, List.set_cons_succ, i64_w, i32_w]
        rfl
      refine pure_ (i := 7) (N := some 34) (v := ?_) (a' := ?_) #[true, true, false, false, false, false, true, true, false, false, false, false] rfl rfl (any_of HT_.out (by kernel_rfl)) (fun _ _ _ h => h) (Or.inl ⟨by rfl, ?_⟩) ?_ ?_
      rotate_left
      · intro w'
        go_simp
        with_reducible rfl
      rotate_left
      · simp only [Act.put, List.setIfInBounds_toArray, List.set_cons_zero, List.set_cons_succ, i64_w, i32_w]
        rfl
      refine one_ (i := 2) (N := some 29) #[true, true, true, false, false, false, true, true, false, false, false, false] rfl rfl (one_of HT_.out (by kernel_rfl)) (by decide) (fun K hK => ?_)
      refine goes_ Try.func58 (by kernel_rfl) rfl #[.slice Ap p.length cp] (by rfl) rfl rfl (by (try simp only [List.map_toArray, List.map_cons, List.map_nil]); first | done | rfl) ?_
      refine (spec_lsInversions.calls ki Ap cp p iv _ (Kd.F_now HF.out) HC.out HIV.out).mono ?_
      rintro e w3 ⟨v3, rfl, hs3, hb⟩
      refine ⟨_, rfl, ?_⟩
      obtain ⟨A3, c3, e3⟩ := Kd.S_slice hs3
      subst e3
      have n0_ := Aside0.mk (Kd.F_below HF.out hb)
      have n1_ := Aside0.mk (Kd.R_below HR.out hb)
      have n2_ := Aside0.mk (below_step HB.out hb)
      have n3_ := Aside0.mk (HM.out.below hb)
      have n4_ := Aside0.mk (Kd.S_below HO.out hb)
      clear HF HR HB HM HO hs3 hb hHeld
      have HF := n0_
      have HR := n1_
      have HB := n2_
      have HM := n3_
      have HO := n4_
      clear n0_ n1_ n2_ n3_ n4_
      refine hK.out _ _ (HCL.out _ HR.out) (fun hHeld => ?_)
      clear hK K
      refine norm_ (a' := ?_) ?_ ?_
      rotate_left
      · show Act.put _ (some 29) _ = _
        simp only [Act.put, List.setIfInBounds_toArray, List.set_cons_zero, List.set_cons_succ, i64_w, i32_w]
        rfl
      refine pure_ (i := 3) (N := some 30) (v := ?_) (a' := ?_) #[true, true, true, true, false, false, true, true, false, false, false, false] rfl rfl (any_of HT_.out (by kernel_rfl)) (fun _ _ _ h => h) (Or.inl ⟨by rfl, ?_⟩) ?_ ?_
      rotate_left
      · intro w'
        go_simp
        with_reducible rfl
      rotate_left
      · simp only [Act.put, List.setIfInBounds_toArray, List.set_cons_zero, List.set_cons_succ, i64_w, i32_w]
        rfl
      refine pure_ (i := 4) (N := some 31) (v := ?_) (a' := ?_) #[true, true, true, true, true, false, true, true, false, false, false, false] rfl rfl (any_of HT_.out (by kernel_rfl)) (fun _ _ _ h => h) (Or.inl ⟨by rfl, ?_⟩) ?_ ?_
      rotate_left
      · intro w'
        go_simp
        with_reducible rfl
      rotate_left
      · simp only [Act.put, List.setIfInBounds_toArray, List.set_cons_zero, List.set_cons_succ, i64_w, i32_w]
        rfl
      refine take_ (i := 5) (N := some 32) (v := ?_) (a' := ?_) #[true, true, true, true, true, true, true, true, false, false, false, false] rfl rfl (take_ofW HT_.out HW_.out (by kernel_rfl)) (fun _ _ _ h => h) (Or.inl ⟨by rfl, ?_⟩) hHeld ?_ ?_
      rotate_left
      · rintro w' s0
        go_simp
        with_reducible rfl
      rotate_left
      · simp only [Act.put, List.setIfInBounds_toArray, List.set_cons_zero, List.set_cons_succ, i64_w, i32_w]
        rfl
      refine one_ (i := 8) (N := some 35) #[true, true, true, true, true, true, true, true, true, false, false, false] rfl rfl (one_of HT_.out (by kernel_rfl)) (by decide) (fun K hK => ?_)
      refine goes_ Try.func59 (by kernel_rfl) rfl #[.pointer (some ⟨B, 0, none⟩), .slice Ap p.length cp] (by rfl) rfl rfl (by (try simp only [List.map_toArray, List.map_cons, List.map_nil]); first | done | rfl) ?_
      refine (spec_alCounter_count.calls_g (spec_alNew.fc 4) 4 16 B G Ap cp p r w _ HB.out HM.out (fun W' hk_ => Kd.F_now (Kd.F_kept HF.out hk_ (fun k_ h_ => h_.2))) HC.out HRR.out).mono ?_
      rintro e w4_ ⟨rfl, hm4, hb4, hk4⟩
      refine ⟨_, rfl, ?_⟩
      have n0_ := Aside0.mk (Kd.R_step HR.out (fun k_ e_ hlt => hk4.2 k_ hlt (fun x_ => HNE.out.2.1 (by rw [← x_, e_]))))
      have n1_ := Aside0.mk hb4
      have n2_ := Aside0.mk hm4
      have n3_ := Aside0.mk (Kd.S_step HO.out (fun k_ e_ hlt => hk4.2 k_ hlt e_.2))
      clear HF HR HB HM HO hm4 hb4 hk4 hHeld
      have HR := n0_
      have HB := n1_
      have HM := n2_
      have HO := n3_
      clear n0_ n1_ n2_ n3_
      refine hK.out _ _ (HCL.out _ HR.out) (fun hHeld => ?_)
      clear hK K
      refine norm_ (a' := ?_) ?_ ?_
      rotate_left
      · show Act.put _ (some 35) _ = _
        simp only [Act.put, List.setIfInBounds_toArray, List.set_cons_zero, List.set_cons_succ, i64_w, i32_w]
        rfl
      refine pure_ (i := 9) (N := some 36) (v := ?_) (a' := ?_) #[true, true, true, true, true, true, true, true, true, true, false, false] rfl rfl (any_of HT_.out (by kernel_rfl)) (fun _ _ _ h => h) (Or.inl ⟨by rfl, ?_⟩) ?_ ?_
      rotate_left
      · intro w'
        go_simp
        with_reducible rfl
      rotate_left
      · simp only [Act.put, List.setIfInBounds_toArray, List.set_cons_zero, List.set_cons_succ, i64_w, i32_w]
        rfl
      refine pure_ (i := 10) (N := some 37) (v := ?_) (a' := ?_) #[true, true, true, true, true, true, true, true, true, true, true, false] rfl rfl (any_of HT_.out (by kernel_rfl)) (fun _ _ _ h => h) (Or.inl ⟨by rfl, ?_⟩) ?_ ?_
      rotate_left
      · intro w'
        go_simp
        with_reducible rfl
      rotate_left
      · simp only [Act.put, List.setIfInBounds_toArray, List.set_cons_zero, List.set_cons_succ, i64_w, i32_w]
        rfl
      refine last_ (i := 11) (N := none) #[true, true, true, true, true, true, true, true, true, true, true, true] rfl rfl (one_of HT_.out (by kernel_rfl)) (by decide) (fun K hK => ?_)
      have hs_ := HCL.out _ HR.out
      obtain ⟨cells, hcs⟩ := Kd.R_typed HR.out go rfl
      have hf_ := blk_frozen hcs iv.length
      clear hcs
      refine skip_ (w1 := ?_) (by rfl) rfl ?_ ?_
      rotate_left
      · go_simp
        rfl
      refine hK.out _ _ ?_
      clear hK K
      refine done_ (done_of HT_.out (by kernel_rfl)) ?_
      have hp_ := Kd.R_putg HR.out (iv.length : Int) (wrap64 (x + r))
      rw [Int.toNat_natCast] at hp_
      have hk_ := Kept.of_grown (S := fun k_ => k_ = go) hp_.2 (Kept.refl _ _) (fun k_ e_ => .inl (by cases e_; rfl))
      have n0_ := Aside0.mk hp_.1
      have n1_ := Aside0.mk (HB.out.grown hp_.2 HB.out.size (fun k_ e_ => by cases e_; exact Kd.R_base HR.out _ rfl))
      have n2_ := Aside0.mk (HM.out.kept hk_ HNE.out.2.1 HNE.out.1)
      have n3_ := Aside0.mk (Kd.S_step HO.out (fun k_ e_ hlt => hk_.2 k_ hlt e_.1))
      clear hp_ hk_ hs_ hf_
      try go_wp2
      go_roundg k1
      case measure => omega
      case rel => exact ⟨i + 1, _, (by have h_ := HPL.out; first | rfl | (simp; done) | (simp [wrap64]; omega)), ⟨by omega⟩, ⟨by rw [List.length_set]; exact HXL.out⟩, HT, n0_, n2_, n3_, n1_⟩
set_option maxHeartbeats 8000000 in
set_option maxRecDepth 100000 in
theorem spec_CountByLength.calls_5 (ps : List (List Int)) (kp : Nat) (res : List Int) (w : World) (hp : spec_alOrders.f kp 5 = some ps) (hpl : ps.length ≤ 100000) (hl : spec_CountByLength.lp (spec_alNew.fc ((5 : Int)).toNat) ((5 : Int)).toNat ps ps.length 0 (List.replicate ((5 : Int) * (5 - 1) / 2 + 1).toNat 0) = some res) :
    Calls Try.prog 12 #[.int .i64 5] w fun e w' => ∃ v0_ : Value, e = .returned (.tuple #[v0_, .bool true]) ∧ Kd.R (Kd.int .i64) 3 w' w.heap.size (fun _ => True) v0_ res ∧ Below w.heap.size w w' := by
  have HI := Aside0.mk hp
  have HPL := Aside0.mk hpl
  have HL := Aside0.mk (show spec_CountByLength.lp (spec_alNew.fc 5) 5 ps ps.length 0 (List.replicate 11 0) = some res from hl)
  have HBT := Aside0.mk (show spec_l1In.f 5 2 6 = some true from rfl)
  have HB := Aside0.mk (Below.refl w.heap.size w)
  clear hp hl hpl
  go_enter Try.func12, Try.ntmps12
  go_wp2_with (first | (go_at_call 55; (with_reducible refine (spec_l1In.calls 5 2 6 true _ HBT.out).mono ?_); rintro e w' ⟨rfl, ⟨nd, rfl⟩⟩) | ((with_reducible refine gate_dst (N := 17) rfl ?_); refine Kd.R_make (Kd.int .i64) (w0 := w) w.heap.size 3 rfl (N := 17) rfl 25 _ _ rfl (11 : Int) rfl rfl Try.underlying25 (.int .i64 0) 8 info3 rfl (by decide) (by omega) 0 (ok := fun _ => True) (okp := fun _ => True) rfl (fun _ hk => hk) trivial (by decide) (by decide) ?hbm ?hsz ?_; (case hbm => exact pw_below_drewN HB.out nd); (case hsz => exact Nat.le_refl _); intro v16 w4 ho5 hb hg_ hnew_; obtain ⟨go, C, eG, hGb, hGl, _⟩ := Kd.R_form ho5 (by decide); subst eG; have HR := Aside0.mk (show Kd.R (Kd.int .i64) 3 w4 w.heap.size (fun k_ => k_ = go) (.slice (some ⟨go, 0, none⟩) 11 C) (List.replicate 11 0) from Kd.R_mono (Kd.R_tight rfl ho5) (fun k_ e_ => by simpa [Value.ownBlock] using e_)); have HB4 := Aside0.mk hb; have HGL := Aside0.mk hGl; clear hg_ hnew_ hb ho5 hGb hGl HB) | (go_at_call 56; (refine (spec_alNew.calls 5 (by decide) _).mono ?_); rintro e w5 ⟨v5, rfl, hm, hb⟩; obtain ⟨B, G, rfl, hBw, hGw, hM⟩ := spec_alCounter_count.Mem.made hm; have HM := Aside0.mk (hM.lower HB4.out.size); have HNE := Aside0.mk (show B ≠ go ∧ G ≠ go ∧ B ≠ G from ⟨by have h_ := HGL.out; omega, by have h_ := HGL.out; omega, hM.out.2.1⟩); have HB5 := Aside0.mk (below_step HB4.out hb); have HR5 := Aside0.mk (Kd.R_below HR.out hb); have HLT5 := Aside0.mk (show go < w5.heap.size ∧ G < w5.heap.size from ⟨Kd.R_lt (Kd.R_below HR.out hb) go rfl, (hM.lt (by decide)).2⟩); clear hm hb hM hBw hGw HB4 HR) | (go_at_call 57; (refine (spec_alOrders.calls kp 5 ps _ HI.out).mono ?_); rintro e w6 ⟨v6, rfl, hs, hb⟩; have HO := Aside0.mk (Kd.S_mono (ok' := fun k_ => k_ ≠ go ∧ k_ ≠ G) (Kd.S_bound hs) (fun k_ h_ => by have h1_ := h_.2.1; have h2_ := HLT5.out; exact ⟨by omega, by omega⟩)); obtain ⟨A6, c6, e6⟩ := Kd.S_slice hs; subst e6; have HB6 := Aside0.mk (below_step HB5.out hb); have HR6 := Aside0.mk (Kd.R_below HR5.out hb); have HM6 := Aside0.mk (HM.out.below hb); have HSB := Aside0.mk (Nat.le_trans HB5.out.size (Nat.le_refl _)); clear hs hb HB5 HR5 HM))
  go_loopg [23] ps.length (fun kq v23 w' => ∃ (i : Nat) (xs : List Int), v23 = .int .i64 (i : Int) ∧ Aside0 (i + kq = ps.length) ∧ Aside0 (xs.length = 11) ∧ Aside0 (spec_CountByLength.lp (spec_alNew.fc 5) 5 ps kq i xs = some res) ∧ Aside0 (Kd.R (Kd.int .i64) 3 w' w.heap.size (fun k_ => k_ = go) (.slice (some ⟨go, 0, none⟩) 11 C) xs) ∧ Aside0 (spec_alCounter_count.Mem w.heap.size w' B G (spec_alNew.fc 5) 5) ∧ Aside0 (Kd.S (Kd.slice 3 (Kd.int .i64)) 25 w' w5.heap.size (fun k_ => k_ ≠ go ∧ k_ ≠ G) (.slice A6 ps.length c6) ps) ∧ Aside0 (Below w.heap.size w w'))
  case atStart => exact ⟨0, List.replicate 11 0, rfl, ⟨by omega⟩, ⟨List.length_replicate⟩, HL, HR6, HM6, HO, HB6⟩
  case round =>
    clear HR6 HM6 HO HB6 HL
    obtain ⟨i, xs, rfl, HI, HXL, HA, HR, HM, HO, HB⟩ := hrel
    cases gk with
    | zero =>
      have H := HA.out
      simp only [spec_CountByLength.lp, Option.some.injEq] at H
      have HE := Aside0.mk H
      have HI0 := HI.out
      have ct : decide ((i : Int) < (ps.length : Int)) = false := decide_eq_false (by omega)
      clear H
      go_wp2
      go_ret2
      exact ⟨_, rfl, by rw [← HE.out]; exact Kd.R_mono HR.out (fun _ _ => trivial), HB.out⟩
    | succ k1 =>
      have H := HA.out
      simp only [spec_CountByLength.lp] at H
      obtain ⟨iv, hiv, H⟩ := Option.bind_eq_some_iff.1 H
      obtain ⟨ki, hiv⟩ := spec_CountByLength.ev_some hiv
      by_cases hc1 : iv.length < xs.length
      case neg => rw [if_neg hc1] at H; cases H
      rw [if_pos hc1] at H
      obtain ⟨r, hr, H⟩ := Option.bind_eq_some_iff.1 H
      have HI0 := HI.out
      have p9 : (0 : Int) ≤ (i : Int) := by omega
      have q9 : (i : Int) < ps.length := by omega
      have ct : decide ((i : Int) < (ps.length : Int)) = true := decide_eq_true q9
      obtain ⟨g6, cap6, e6, _, _, _⟩ := Kd.S_form HO.out (by omega)
      obtain ⟨rfl, rfl⟩ : A6 = some ⟨g6, 0, none⟩ ∧ c6 = cap6 := by cases e6; exact ⟨rfl, rfl⟩
      clear e6
      obtain ⟨cs, hcl, hMe, hcc⟩ := Kd.S_get HO.out [] (i : Int) p9 (by omega)
      obtain ⟨ve, rfl, ge⟩ := hMe
      have hx9 := hcc 0 _ rfl
      rw [Nat.add_zero, show ((Kd.slice 3 (Kd.int .i64))).sz = 1 from rfl, Nat.mul_one] at hx9
      simp only [Int.toNat_natCast] at hx9 ge
      rw [add_at, Nat.zero_add] at hx9
      obtain ⟨p, hp⟩ : ∃ p, p = ps.getD i [] := ⟨_, rfl⟩
      rw [← hp] at hiv hr ge
      obtain ⟨Ap, cp, ep⟩ := Kd.R_slice ge
      subst ep
      have HF := Aside0.mk (Kd.F_mono (ok' := fun k_ => k_ ≠ go ∧ k_ ≠ G) (Kd.R_F ge) (fun _ h_ => h_.1))
      have HC := Aside0.mk (Kd.R_reads' ge).2.1
      obtain ⟨x, hx⟩ : ∃ x, x = rd xs (iv.length : Int) := ⟨_, rfl⟩
      rw [← hx] at H
      have HX := Aside0.mk hx
      have HIV := Aside0.mk hiv
      have HRR := Aside0.mk hr
      have HT := Aside0.mk H
      have HC1 := Aside0.mk hc1
      have p30 : ((0 : Int) ≤ (iv.length : Int)) = True := eq_true (by omega)
      have q30 : ((iv.length : Int) < (11 : Int)) = True := eq_true (by have h_ := HXL.out; omega)
      have q31 : (iv.length < 11) = True := eq_true (by have h_ := HXL.out; omega)
      have hcell : ∀ W, Kd.R (Kd.int .i64) 3 W w.heap.size (fun k_ => k_ = go) (.slice (some ⟨go, 0, none⟩) 11 C) xs → W.cell? ⟨go, iv.length, none⟩ = some (.int .i64 x) := fun W hW => by
        obtain ⟨ad, e, hc_⟩ := Kd.at_int (Kd.R_reads' hW).2.2 (iv.length : Int) (by omega) (by omega)
        cases e
        rw [hx]
        rw [add_at, Nat.zero_add, Int.toNat_natCast] at hc_
        exact hc_
      have HCL := Aside0.mk hcell
      replace p9 := eq_true p9
      replace q9 := eq_true q9
      clear hiv hr H hc1 hx hp hcc hcl ge hcell
      go_wp2
      clear hx9
      have n0_ := Aside0.mk (Kd.F_drew HF.out)
      have n1_ := Aside0.mk (Kd.R_drew HR.out)
      have n2_ := Aside0.mk (below_drew1 HB.out)
      have n3_ := Aside0.mk (HM.out.below (below_drew1 (Below.refl _ _)))
      have n4_ := Aside0.mk (Kd.S_drew HO.out)
      clear HF HR HB HM HO
      have HF := n0_
      have HR := n1_
      have HB := n2_
      have HM := n3_
      have HO := n4_
      clear n0_ n1_ n2_ n3_ n4_
      refine start_ (n := 12) (S := fun w' => w'.cell? ⟨go, iv.length, none⟩ = some (.int .i64 x)) (ds := [11]) #[false, false, false, false, false, false, false, false, false, false, false, false] (by kernel_rfl) rfl rfl (HCL.out _ HR.out) (fun hHeld => ?_)
      refine with_tabW spec_CountByLength.tab12 spec_CountByLength.bits12 (fun HT_ HW_ => ?_)
      generalize wr.drew = w1 at HF HR HB HM HO hHeld ⊢
      refine pure_ (i := 0) (N := some 27) (v := ?_) (a' := ?_) #[true, false, false, false, false, false, false, false, false, false, false, false] rfl rfl (any_of HT_.out (by kernel_rfl)) (fun _ _ _ h => h) (Or.inl ⟨by rfl, ?_⟩) ?_ ?_
      rotate_left
      · intro w'
        go_simp
        with_reducible rfl
      rotate_left
      · simp only [Act.put, List.setIfInBounds_toArray, List.set_cons_zero, List.set_cons_succ, i64_w, i32_w]
        rfl
      refine pure_ (i := 1) (N := some 28) (v := ?_) (a' := ?_) #[true, true, false, false, false, false, false, false, false, false, false, false] rfl rfl (any_of HT_.out (by kernel_rfl)) (fun _ _ _ h => h) (Or.inl ⟨by rfl, ?_⟩) ?_ ?_
      rotate_left
      · intro w'
        go_simp
        with_reducible rfl
      rotate_left
      · simp only [Act.put, List.setIfInBounds_toArray, List.set_cons_zero, List.set_cons_succ, i64_w, i32_w]
        rfl
      refine pure_ (i := 6) (N := some 33) (v := ?_) (a' := ?_) #[true, true, false, false, false, false, true, false, false, false, false, false] rfl rfl (any_of HT_.out (by kernel_rfl)) (fun _ _ _ h => h) (Or.inl ⟨by rfl, ?_⟩) ?_ ?_
      rotate_left
      · intro w'
        go_simp
        with_reducible rfl
      rotate_left
      · simp only [Act.put, List.setIfInBounds_toArray, List.set_cons_zero, List.set_cons_succ, i64_w, i32_w]
        rfl
      refine pure_ (i := 7) (N := some 34) (v := ?_) (a' := ?_) #[true, true, false, false, false, false, true, true, false, false, false, false] rfl rfl (any_of HT_.out (by kernel_rfl)) (fun _ _ _ h => h) (Or.inl ⟨by rfl, ?_⟩) ?_ ?_
      rotate_left
      · intro w'
        go_simp
        with_reducible rfl
      rotate_left
      · simp only [Act.put, List.setIfInBounds_toArray, List.set_cons_zero, List.set_cons_succ, i64_w, i32_w]
        rfl
      refine one_ (i := 2) (N := some 29) #[true, true, true, false, false, false, true, true, false, false, false, false] rfl rfl (one_of HT_.out (by kernel_rfl)) (by decide) (fun K hK => ?_)
      refine goes_ Try.func58 (by kernel_rfl) rfl #[.slice Ap p.length cp] (by rfl) rfl rfl (by (try simp only [List.map_toArray, List.map_cons, List.map_nil]); first | done | rfl) ?_
      refine (spec_lsInversions.calls ki Ap cp p iv _ (Kd.F_now HF.out) HC.out HIV.out).mono ?_
      rintro e w3 ⟨v3, rfl, hs3, hb⟩
      refine ⟨_, rfl, ?_⟩
      obtain ⟨A3, c3, e3⟩ := Kd.S_slice hs3
      subst e3
      have n0_ := Aside0.mk (Kd.F_below HF.out hb)
      have n1_ := Aside0.mk (Kd.R_below HR.out hb)
      have n2_ := Aside0.mk (below_step HB.out hb)
      have n3_ := Aside0.mk (HM.out.below hb)
      have n4_ := Aside0.mk (Kd.S_below HO.out hb)
      clear HF HR HB HM HO hs3 hb hHeld
      have HF := n0_
      have HR := n1_
      have HB := n2_
      have HM := n3_
      have HO := n4_
      clear n0_ n1_ n2_ n3_ n4_
      refine hK.out _ _ (HCL.out _ HR.out) (fun hHeld => ?_)
      clear hK K
      refine norm_ (a' := ?_) ?_ ?_
      rotate_left
      · show Act.put _ (some 29) _ = _
        simp only [Act.put, List.setIfInBounds_toArray, List.set_cons_zero, List.set_cons_succ, i64_w, i32_w]
        rfl
      refine pure_ (i := 3) (N := some 30) (v := ?_) (a' := ?_) #[true, true, true, true, false, false, true, true, false, false, false, false] rfl rfl (any_of HT_.out (by kernel_rfl)) (fun _ _ _ h => h) (Or.inl ⟨by rfl, ?_⟩) ?_ ?_
      rotate_left
      · intro w'
        go_simp
        with_reducible rfl
      rotate_left
      · simp only [Act.put, List.setIfInBounds_toArray, List.set_cons_zero, List.set_cons_succ, i64_w, i32_w]
        rfl
      refine pure_ (i := 4) (N := some 31) (v := ?_) (a' := ?_) #[true, true, true, true, true, false, true, true, false, false, false, false] rfl rfl (any_of HT_.out (by kernel_rfl)) (fun _ _ _ h => h) (Or.inl ⟨by rfl, ?_⟩) ?_ ?_
      rotate_left
      · intro w'
        go_simp
        with_reducible rfl
      rotate_left
      · simp only [Act.put, List.setIfInBounds_toArray, List.set_cons_zero, List.set_cons_succ, i64_w, i32_w]
        rfl
      refine take_ (i := 5) (N := some 32) (v := ?_) (a' := ?_) #[true, true, true, true, true, true, true, true, false, false, false, false] rfl rfl (take_ofW HT_.out HW_.out (by kernel_rfl)) (fun _ _ _ h => h) (Or.inl ⟨by rfl, ?_⟩) hHeld ?_ ?_
      rotate_left
      · rintro w' s0
        go_simp
        with_reducible rfl
      rotate_left
      · simp only [Act.put, List.setIfInBounds_toArray, List.set_cons_zero, List.set_cons_succ, i64_w, i32_w]
        rfl
      refine one_ (i := 8) (N := some 35) #[true, true, true, true, true, true, true, true, true, false, false, false] rfl rfl (one_of HT_.out (by kernel_rfl)) (by decide) (fun K hK => ?_)
      refine goes_ Try.func59 (by kernel_rfl) rfl #[.pointer (some ⟨B, 0, none⟩), .slice Ap p.length cp] (by rfl) rfl rfl (by (try simp only [List.map_toArray, List.map_cons, List.map_nil]); first | done | rfl) ?_
      refine (spec_alCounter_count.calls_g (spec_alNew.fc 5) 5 16 B G Ap cp p r w _ HB.out HM.out (fun W' hk_ => Kd.F_now (Kd.F_kept HF.out hk_ (fun k_ h_ => h_.2))) HC.out HRR.out).mono ?_
      rintro e w4_ ⟨rfl, hm4, hb4, hk4⟩
      refine ⟨_, rfl, ?_⟩
      have n0_ := Aside0.mk (Kd.R_step HR.out (fun k_ e_ hlt => hk4.2 k_ hlt (fun x_ => HNE.out.2.1 (by rw [← x_, e_]))))
      have n1_ := Aside0.mk hb4
      have n2_ := Aside0.mk hm4
      have n3_ := Aside0.mk (Kd.S_step HO.out (fun k_ e_ hlt => hk4.2 k_ hlt e_.2))
      clear HF HR HB HM HO hm4 hb4 hk4 hHeld
      have HR := n0_
      have HB := n1_
      have HM := n2_
      have HO := n3_
      clear n0_ n1_ n2_ n3_
      refine hK.out _ _ (HCL.out _ HR.out) (fun hHeld => ?_)
      clear hK K
      refine norm_ (a' := ?_) ?_ ?_
      rotate_left
      · show Act.put _ (some 35) _ = _
        simp only [Act.put, List.setIfInBounds_toArray, List.set_cons_zero, List.set_cons_succ, i64_w, i32_w]
        rfl
      refine pure_ (i := 9) (N := some 36) (v := ?_) (a' := ?_) #[true, true, true, true, true, true, true, true, true, true, false, false] rfl rfl (any_of HT_.out (by kernel_rfl)) (fun _ _ _ h => h) (Or.inl ⟨by rfl, ?_⟩) ?_ ?_
      rotate_left
      · intro w'
        go_simp
        with_reducible rfl
      rotate_left
      · simp only [Act.put, List.setIfInBounds_toArray, List.set_cons_zero, List.set_cons_succ, i64_w, i32_w]
        rfl
      refine pure_ (i := 10) (N := some 37) (v := ?_) (a' := ?_) #[true, true, true, true, true, true, true, true, true, true, true, false] rfl rfl (any_of HT_.out (by kernel_rfl)) (fun _ _ _ h => h) (Or.inl ⟨by rfl, ?_⟩) ?_ ?_
      rotate_left
      · intro w'
        go_simp
        with_reducible rfl
      rotate_left
      · simp only [Act.put, List.setIfInBounds_toArray, List.set_cons_zero, List.set_cons_succ, i64_w, i32_w]
        rfl
      refine last_ (i := 11) (N := none) #[true, true, true, true, true, true, true, true, true, true, true, true] rfl rfl (one_of HT_.out (by kernel_rfl)) (by decide) (fun K hK => ?_)
      have hs_ := HCL.out _ HR.out
      obtain ⟨cells, hcs⟩ := Kd.R_typed HR.out go rfl
      have hf_ := blk_frozen hcs iv.length
      clear hcs
      refine skip_ (w1 := ?_) (by rfl) rfl ?_ ?_
      rotate_left
      · go_simp
        rfl
      refine hK.out _ _ ?_
      clear hK K
      refine done_ (done_of HT_.out (by kernel_rfl)) ?_
      have hp_ := Kd.R_putg HR.out (iv.length : Int) (wrap64 (x + r))
      rw [Int.toNat_natCast] at hp_
      have hk_ := Kept.of_grown (S := fun k_ => k_ = go) hp_.2 (Kept.refl _ _) (fun k_ e_ => .inl (by cases e_; rfl))
      have n0_ := Aside0.mk hp_.1
      have n1_ := Aside0.mk (HB.out.grown hp_.2 HB.out.size (fun k_ e_ => by cases e_; exact Kd.R_base HR.out _ rfl))
      have n2_ := Aside0.mk (HM.out.kept hk_ HNE.out.2.1 HNE.out.1)
      have n3_ := Aside0.mk (Kd.S_step HO.out (fun k_ e_ hlt => hk_.2 k_ hlt e_.1))
      clear hp_ hk_ hs_ hf_
      try go_wp2
      go_roundg k1
      case measure => omega
      case rel => exact ⟨i + 1, _, (by have h_ := HPL.out; first | rfl | (simp; done) | (simp [wrap64]; omega)), ⟨by omega⟩, ⟨by rw [List.length_set]; exact HXL.out⟩, HT, n0_, n2_, n3_, n1_⟩
set_option maxHeartbeats 8000000 in
set_option maxRecDepth 100000 in
theorem spec_CountByLength.calls_6 (ps : List (List Int)) (kp : Nat) (res : List Int) (w : World) (hp : spec_alOrders.f kp 6 = some ps) (hpl : ps.length ≤ 100000) (hl : spec_CountByLength.lp (spec_alNew.fc ((6 : Int)).toNat) ((6 : Int)).toNat ps ps.length 0 (List.replicate ((6 : Int) * (6 - 1) / 2 + 1).toNat 0) = some res) :
    Calls Try.prog 12 #[.int .i64 6] w fun e w' => ∃ v0_ : Value, e = .returned (.tuple #[v0_, .bool true]) ∧ Kd.R (Kd.int .i64) 3 w' w.heap.size (fun _ => True) v0_ res ∧ Below w.heap.size w w' := by
  have HI := Aside0.mk hp
  have HPL := Aside0.mk hpl
  have HL := Aside0.mk (show spec_CountByLength.lp (spec_alNew.fc 6) 6 ps ps.length 0 (List.replicate 16 0) = some res from hl)
  have HBT := Aside0.mk (show spec_l1In.f 6 2 6 = some true from rfl)
  have HB := Aside0.mk (Below.refl w.heap.size w)
  clear hp hl hpl
  go_enter Try.func12, Try.ntmps12
  go_wp2_with (first | (go_at_call 55; (with_reducible refine (spec_l1In.calls 6 2 6 true _ HBT.out).mono ?_); rintro e w' ⟨rfl, ⟨nd, rfl⟩⟩) | ((with_reducible refine gate_dst (N := 17) rfl ?_); refine Kd.R_make (Kd.int .i64) (w0 := w) w.heap.size 3 rfl (N := 17) rfl 25 _ _ rfl (16 : Int) rfl rfl Try.underlying25 (.int .i64 0) 8 info3 rfl (by decide) (by omega) 0 (ok := fun _ => True) (okp := fun _ => True) rfl (fun _ hk => hk) trivial (by decide) (by decide) ?hbm ?hsz ?_; (case hbm => exact pw_below_drewN HB.out nd); (case hsz => exact Nat.le_refl _); intro v16 w4 ho5 hb hg_ hnew_; obtain ⟨go, C, eG, hGb, hGl, _⟩ := Kd.R_form ho5 (by decide); subst eG; have HR := Aside0.mk (show Kd.R (Kd.int .i64) 3 w4 w.heap.size (fun k_ => k_ = go) (.slice (some ⟨go, 0, none⟩) 16 C) (List.replicate 16 0) from Kd.R_mono (Kd.R_tight rfl ho5) (fun k_ e_ => by simpa [Value.ownBlock] using e_)); have HB4 := Aside0.mk hb; have HGL := Aside0.mk hGl; clear hg_ hnew_ hb ho5 hGb hGl HB) | (go_at_call 56; (refine (spec_alNew.calls 6 (by decide) _).mono ?_); rintro e w5 ⟨v5, rfl, hm, hb⟩; obtain ⟨B, G, rfl, hBw, hGw, hM⟩ := spec_alCounter_count.Mem.made hm; have HM := Aside0.mk (hM.lower HB4.out.size); have HNE := Aside0.mk (show B ≠ go ∧ G ≠ go ∧ B ≠ G from ⟨by have h_ := HGL.out; omega, by have h_ := HGL.out; omega, hM.out.2.1⟩); have HB5 := Aside0.mk (below_step HB4.out hb); have HR5 := Aside0.mk (Kd.R_below HR.out hb); have HLT5 := Aside0.mk (show go < w5.heap.size ∧ G < w5.heap.size from ⟨Kd.R_lt (Kd.R_below HR.out hb) go rfl, (hM.lt (by decide)).2⟩); clear hm hb hM hBw hGw HB4 HR) | (go_at_call 57; (refine (spec_alOrders.calls kp 6 ps _ HI.out).mono ?_); rintro e w6 ⟨v6, rfl, hs, hb⟩; have HO := Aside0.mk (Kd.S_mono (ok' := fun k_ => k_ ≠ go ∧ k_ ≠ G) (Kd.S_bound hs) (fun k_ h_ => by have h1_ := h_.2.1; have h2_ := HLT5.out; exact ⟨by omega, by omega⟩)); obtain ⟨A6, c6, e6⟩ := Kd.S_slice hs; subst e6; have HB6 := Aside0.mk (below_step HB5.out hb); have HR6 := Aside0.mk (Kd.R_below HR5.out hb); have HM6 := Aside0.mk (HM.out.below hb); have HSB := Aside0.mk (Nat.le_trans HB5.out.size (Nat.le_refl _)); clear hs hb HB5 HR5 HM))
  go_loopg [23] ps.length (fun kq v23 w' => ∃ (i : Nat) (xs : List Int), v23 = .int .i64 (i : Int) ∧ Aside0 (i + kq = ps.length) ∧ Aside0 (xs.length = 16) ∧ Aside0 (spec_CountByLength.lp (spec_alNew.fc 6) 6 ps kq i xs = some res) ∧ Aside0 (Kd.R (Kd.int .i64) 3 w' w.heap.size (fun k_ => k_ = go) (.slice (some ⟨go, 0, none⟩) 16 C) xs) ∧ Aside0 (spec_alCounter_count.Mem w.heap.size w' B G (spec_alNew.fc 6) 6) ∧ Aside0 (Kd.S (Kd.slice 3 (Kd.int .i64)) 25 w' w5.heap.size (fun k_ => k_ ≠ go ∧ k_ ≠ G) (.slice A6 ps.length c6) ps) ∧ Aside0 (Below w.heap.size w w'))
  case atStart => exact ⟨0, List.replicate 16 0, rfl, ⟨by omega⟩, ⟨List.length_replicate⟩, HL, HR6, HM6, HO, HB6⟩
  case round =>
    clear HR6 HM6 HO HB6 HL
    obtain ⟨i, xs, rfl, HI, HXL, HA, HR, HM, HO, HB⟩ := hrel
    cases gk with
    | zero =>
      have H := HA.out
      simp only [spec_CountByLength.lp, Option.some.injEq] at H
      have HE := Aside0.mk H
      have HI0 := HI.out
      have ct : decide ((i : Int) < (ps.length : Int)) = false := decide_eq_false (by omega)
      clear H
      go_wp2
      go_ret2
      exact ⟨_, rfl, by rw [← HE.out]; exact Kd.R_mono HR.out (fun _ _ => trivial), HB.out⟩
    | succ k1 =>
      have H := HA.out
      simp only [spec_CountByLength.lp] at H
      obtain ⟨iv, hiv, H⟩ := Option.bind_eq_some_iff.1 H
      obtain ⟨ki, hiv⟩ := spec_CountByLength.ev_some hiv
      by_cases hc1 : iv.length < xs.length
      case neg => rw [if_neg hc1] at H; cases H
      rw [if_pos hc1] at H
      obtain ⟨r, hr, H⟩ := Option.bind_eq_some_iff.1 H
      have HI0 := HI.out
      have p9 : (0 : Int) ≤ (i : Int) := by omega
      have q9 : (i : Int) < ps.length := by omega
      have ct : decide ((i : Int) < (ps.length : Int)) = true := decide_eq_true q9
      obtain ⟨g6, cap6, e6, _, _, _⟩ := Kd.S_form HO.out (by omega)
      obtain ⟨rfl, rfl⟩ : A6 = some ⟨g6, 0, none⟩ ∧ c6 = cap6 := by cases e6; exact ⟨rfl, rfl⟩
      clear e6
      obtain ⟨cs, hcl, hMe, hcc⟩ := Kd.S_get HO.out [] (i : Int) p9 (by omega)
      obtain ⟨ve, rfl, ge⟩ := hMe
      have hx9 := hcc 0 _ rfl
      rw [Nat.add_zero, show ((Kd.slice 3 (Kd.int .i64))).sz = 1 from rfl, Nat.mul_one] at hx9
      simp only [Int.toNat_natCast] at hx9 ge
      rw [add_at, Nat.zero_add] at hx9
      obtain ⟨p, hp⟩ : ∃ p, p = ps.getD i [] := ⟨_, rfl⟩
      rw [← hp] at hiv hr ge
      obtain ⟨Ap, cp, ep⟩ := Kd.R_slice ge
      subst ep
      have HF := Aside0.mk (Kd.F_mono (ok' := fun k_ => k_ ≠ go ∧ k_ ≠ G) (Kd.R_F ge) (fun _ h_ => h_.1))
      have HC := Aside0.mk (Kd.R_reads' ge).2.1
      obtain ⟨x, hx⟩ : ∃ x, x = rd xs (iv.length : Int) := ⟨_, rfl⟩
      rw [← hx] at H
      have HX := Aside0.mk hx
      have HIV := Aside0.mk hiv
      have HRR := Aside0.mk hr
      have HT := Aside0.mk H
      have HC1 := Aside0.mk hc1
      have p30 : ((0 : Int) ≤ (iv.length : Int)) = True := eq_true (by omega)
      have q30 : ((iv.length : Int) < (16 : Int)) = True := eq_true (by have h_ := HXL.out; omega)
      have q31 : (iv.length < 16) = True := eq_true (by have h_ := HXL.out; omega)
      have hcell : ∀ W, Kd.R (Kd.int .i64) 3 W w.heap.size (fun k_ => k_ = go) (.slice (some ⟨go, 0, none⟩) 16 C) xs → W.cell? ⟨go, iv.length, none⟩ = some (.int .i64 x) := fun W hW => by
        obtain ⟨ad, e, hc_⟩ := Kd.at_int (Kd.R_reads' hW).2.2 (iv.length : Int) (by omega) (by omega)
        cases e
        rw [hx]
        rw [add_at, Nat.zero_add, Int.toNat_natCast] at hc_
        exact hc_
      have HCL := Aside0.mk hcell
      replace p9 := eq_true p9
      replace q9 := eq_true q9
      clear hiv hr H hc1 hx hp hcc hcl ge hcell
      go_wp2
      clear hx9
      have n0_ := Aside0.mk (Kd.F_drew HF.out)
      have n1_ := Aside0.mk (Kd.R_drew HR.out)
      have n2_ := Aside0.mk (below_drew1 HB.out)
      have n3_ := Aside0.mk (HM.out.below (below_drew1 (Below.refl _ _)))
      have n4_ := Aside0.mk (Kd.S_drew HO.out)
      clear HF HR HB HM HO
      have HF := n0_
      have HR := n1_
      have HB := n2_
      have HM := n3_
      have HO := n4_
      clear n0_ n1_ n2_ n3_ n4_
      refine start_ (n := 12) (S := fun w' => w'.cell? ⟨go, iv.length, none⟩ = some (.int .i64 x)) (ds := [11]) #[false, false, false, false, false, false, false, false, false, false, false, false] (by kernel_rfl) rfl rfl (HCL.out _ HR.out) (fun hHeld => ?_)
      refine with_tabW spec_CountByLength.tab12 spec_CountByLength.bits12 (fun HT_ HW_ => ?_)
      generalize wr.drew = w1 at HF HR HB HM HO hHeld ⊢
      refine pure_ (i := 0) (N := some 27) (v := ?_) (a' := ?_) #[true, false, false, false, false, false, false, false, false, false, false, false] rfl rfl (any_of HT_.out (by kernel_rfl)) (fun _ _ _ h => h) (Or.inl ⟨by rfl, ?_⟩) ?_ ?_
      rotate_left
      · intro w'
        go_simp
        with_reducible rfl
      rotate_left
      · simp only [Act.put, List.setIfInBounds_toArray, List.set_cons_zero, List.set_cons_succ, i64_w, i32_w]
        rfl
      refine pure_ (i := 1) (N := some 28) (v := ?_) (a' := ?_) #[true, true, false, false, false, false, false, false, false, false, false, false] rfl rfl (any_of HT_.out (by kernel_rfl)) (fun _ _ _ h => h) (Or.inl ⟨by rfl, ?_⟩) ?_ ?_
      rotate_left
      · intro w'
        go_simp
        with_reducible rfl
      rotate_left
      · simp only [Act.put, List.setIfInBounds_toArray, List.set_cons_zero, List.set_cons_succ, i64_w, i32_w]
        rfl
      refine pure_ (i := 6) (N := some 33) (v := ?_) (a' := ?_) #[true, true, false, false, false, false, true, false, false, false, false, false] rfl rfl (any_of HT_.out (by kernel_rfl)) (fun _ _ _ h => h) (Or.inl ⟨by rfl, ?_⟩) ?_ ?_
      rotate_left
      · intro w'
        go_simp
        with_reducible rfl
      rotate_left
      · simp only [Act.put, List.setIfInBounds_toArray, List.set_cons_zero, List.set_cons_succ, i64_w, i32_w]
        rfl
      refine pure_ (i := 7) (N := some 34) (v := ?_) (a' := ?_) #[true, true, false, false, false, false, true, true, false, false, false, false] rfl rfl (any_of HT_.out (by kernel_rfl)) (fun _ _ _ h => h) (Or.inl ⟨by rfl, ?_⟩) ?_ ?_
      rotate_left
      · intro w'
        go_simp
        with_reducible rfl
      rotate_left
      · simp only [Act.put, List.setIfInBounds_toArray, List.set_cons_zero, List.set_cons_succ, i64_w, i32_w]
        rfl
      refine one_ (i := 2) (N := some 29) #[true, true, true, false, false, false, true, true, false, false, false, false] rfl rfl (one_of HT_.out (by kernel_rfl)) (by decide) (fun K hK => ?_)
      refine goes_ Try.func58 (by kernel_rfl) rfl #[.slice Ap p.length cp] (by rfl) rfl rfl (by (try simp only [List.map_toArray, List.map_cons, List.map_nil]); first | done | rfl) ?_
      refine (spec_lsInversions.calls ki Ap cp p iv _ (Kd.F_now HF.out) HC.out HIV.out).mono ?_
      rintro e w3 ⟨v3, rfl, hs3, hb⟩
      refine ⟨_, rfl, ?_⟩
      obtain ⟨A3, c3, e3⟩ := Kd.S_slice hs3
      subst e3
      have n0_ := Aside0.mk (Kd.F_below HF.out hb)
      have n1_ := Aside0.mk (Kd.R_below HR.out hb)
      have n2_ := Aside0.mk (below_step HB.out hb)
      have n3_ := Aside0.mk (HM.out.below hb)
      have n4_ := Aside0.mk (Kd.S_below HO.out hb)
      clear HF HR HB HM HO hs3 hb hHeld
      have HF := n0_
      have HR := n1_
      have HB := n2_
      have HM := n3_
      have HO := n4_
      clear n0_ n1_ n2_ n3_ n4_
      refine hK.out _ _ (HCL.out _ HR.out) (fun hHeld => ?_)
      clear hK K
      refine norm_ (a' := ?_) ?_ ?_
      rotate_left
      · show Act.put _ (some 29) _ = _
        simp only [Act.put, List.setIfInBounds_toArray, List.set_cons_zero, List.set_cons_succ, i64_w, i32_w]
        rfl
      refine pure_ (i := 3) (N := some 30) (v := ?_) (a' := ?_) #[true, true, true, true, false, false, true, true, false, false, false, false] rfl rfl (any_of HT_.out (by kernel_rfl)) (fun _ _ _ h => h) (Or.inl ⟨by rfl, ?_⟩) ?_ ?_
      rotate_left
      · intro w'
        go_simp
        with_reducible rfl
      rotate_left
      · simp only [Act.put, List.setIfInBounds_toArray, List.set_cons_zero, List.set_cons_succ, i64_w, i32_w]
        rfl
      refine pure_ (i := 4) (N := some 31) (v := ?_) (a' := ?_) #[true, true, true, true, true, false, true, true, false, false, false, false] rfl rfl (any_of HT_.out (by kernel_rfl)) (fun _ _ _ h => h) (Or.inl ⟨by rfl, ?_⟩) ?_ ?_
      rotate_left
      · intro w'
        go_simp
        with_reducible rfl
      rotate_left
      · simp only [Act.put, List.setIfInBounds_toArray, List.set_cons_zero, List.set_cons_succ, i64_w, i32_w]
        rfl
      refine take_ (i := 5) (N := some 32) (v := ?_) (a' := ?_) #[true, true, true, true, true, true, true, true, false, false, false, false] rfl rfl (take_ofW HT_.out HW_.out (by kernel_rfl)) (fun _ _ _ h => h) (Or.inl ⟨by rfl, ?_⟩) hHeld ?_ ?_
      rotate_left
      · rintro w' s0
        go_simp
        with_reducible rfl
      rotate_left
      · simp only [Act.put, List.setIfInBounds_toArray, List.set_cons_zero, List.set_cons_succ, i64_w, i32_w]
        rfl
      refine one_ (i := 8) (N := some 35) #[true, true, true, true, true, true, true, true, true, false, false, false] rfl rfl (one_of HT_.out (by kernel_rfl)) (by decide) (fun K hK => ?_)
      refine goes_ Try.func59 (by kernel_rfl) rfl #[.pointer (some ⟨B, 0, none⟩), .slice Ap p.length cp] (by rfl) rfl rfl (by (try simp only [List.map_toArray, List.map_cons, List.map_nil]); first | done | rfl) ?_
      refine (spec_alCounter_count.calls_g (spec_alNew.fc 6) 6 16 B G Ap cp p r w _ HB.out HM.out (fun W' hk_ => Kd.F_now (Kd.F_kept HF.out hk_ (fun k_ h_ => h_.2))) HC.out HRR.out).mono ?_
      rintro e w4_ ⟨rfl, hm4, hb4, hk4⟩
      refine ⟨_, rfl, ?_⟩
      have n0_ := Aside0.mk (Kd.R_step HR.out (fun k_ e_ hlt => hk4.2 k_ hlt (fun x_ => HNE.out.2.1 (by rw [← x_, e_]))))
      have n1_ := Aside0.mk hb4
      have n2_ := Aside0.mk hm4
      have n3_ := Aside0.mk (Kd.S_step HO.out (fun k_ e_ hlt => hk4.2 k_ hlt e_.2))
      clear HF HR HB HM HO hm4 hb4 hk4 hHeld
      have HR := n0_
      have HB := n1_
      have HM := n2_
      have HO := n3_
      clear n0_ n1_ n2_ n3_
      refine hK.out _ _ (HCL.out _ HR.out) (fun hHeld => ?_)
      clear hK K
      refine norm_ (a' := ?_) ?_ ?_
      rotate_left
      · show Act.put _ (some 35) _ = _
        simp only [Act.put, List.setIfInBounds_toArray, List.set_cons_zero, List.set_cons_succ, i64_w, i32_w]
        rfl
      refine pure_ (i := 9) (N := some 36) (v := ?_) (a' := ?_) #[true, true, true, true, true, true, true, true, true, true, false, false] rfl rfl (any_of HT_.out (by kernel_rfl)) (fun _ _ _ h => h) (Or.inl ⟨by rfl, ?_⟩) ?_ ?_
      rotate_left
      · intro w'
        go_simp
        with_reducible rfl
      rotate_left
      · simp only [Act.put, List.setIfInBounds_toArray, List.set_cons_zero, List.set_cons_succ, i64_w, i32_w]
        rfl
      refine pure_ (i := 10) (N := some 37) (v := ?_) (a' := ?_) #[true, true, true, true, true, true, true, true, true, true, true, false] rfl rfl (any_of HT_.out (by kernel_rfl)) (fun _ _ _ h => h) (Or.inl ⟨by rfl, ?_⟩) ?_ ?_
      rotate_left
      · intro w'
        go_simp
        with_reducible rfl
      rotate_left
      · simp only [Act.put, List.setIfInBounds_toArray, List.set_cons_zero, List.set_cons_succ, i64_w, i32_w]
        rfl
      refine last_ (i := 11) (N := none) #[true, true, true, true, true, true, true, true, true, true, true, true] rfl rfl (one_of HT_.out (by kernel_rfl)) (by decide) (fun K hK => ?_)
      have hs_ := HCL.out _ HR.out
      obtain ⟨cells, hcs⟩ := Kd.R_typed HR.out go rfl
      have hf_ := blk_frozen hcs iv.length
      clear hcs
      refine skip_ (w1 := ?_) (by rfl) rfl ?_ ?_
      rotate_left
      · go_simp
        rfl
      refine hK.out _ _ ?_
      clear hK K
      refine done_ (done_of HT_.out (by kernel_rfl)) ?_
      have hp_ := Kd.R_putg HR.out (iv.length : Int) (wrap64 (x + r))
      rw [Int.toNat_natCast] at hp_
      have hk_ := Kept.of_grown (S := fun k_ => k_ = go) hp_.2 (Kept.refl _ _) (fun k_ e_ => .inl (by cases e_; rfl))
      have n0_ := Aside0.mk hp_.1
      have n1_ := Aside0.mk (HB.out.grown hp_.2 HB.out.size (fun k_ e_ => by cases e_; exact Kd.R_base HR.out _ rfl))
      have n2_ := Aside0.mk (HM.out.kept hk_ HNE.out.2.1 HNE.out.1)
      have n3_ := Aside0.mk (Kd.S_step HO.out (fun k_ e_ hlt => hk_.2 k_ hlt e_.1))
      clear hp_ hk_ hs_ hf_
      try go_wp2
      go_roundg k1
      case measure => omega
      case rel => exact ⟨i + 1, _, (by have h_ := HPL.out; first | rfl | (simp; done) | (simp [wrap64]; omega)), ⟨by omega⟩, ⟨by rw [List.length_set]; exact HXL.out⟩, HT, n0_, n2_, n3_, n1_⟩
theorem spec_CountByLength.calls (a0 : Int) (r1 : List Int) (r2 : Bool) (w : World) (h : spec_CountByLength.f a0 = some (r1, r2)) :
    Calls Try.prog 12 #[.int .i64 a0] w fun e w' => ∃ v0_ : Value, e = .returned (.tuple #[v0_, .bool r2]) ∧ Kd.R (Kd.int .i64) 3 w' w.heap.size (fun _ => True) v0_ r1 ∧ Below w.heap.size w w' := by
  unfold spec_CountByLength.f at h
  split at h
  · rename_i hn
    obtain ⟨ps, hp, h⟩ := Option.bind_eq_some_iff.1 h
    obtain ⟨kp, hp⟩ := spec_CountByLength.ev_some hp
    split at h
    case isFalse => cases h
    rename_i hpl
    obtain ⟨xs, hl, h⟩ := Option.bind_eq_some_iff.1 h
    simp only [Option.some.injEq, Prod.mk.injEq] at h
    obtain ⟨rfl, rfl⟩ := h
    obtain rfl | rfl | rfl | rfl | rfl : a0 = 2 ∨ a0 = 3 ∨ a0 = 4 ∨ a0 = 5 ∨ a0 = 6 := by omega
    · exact spec_CountByLength.calls_2 ps kp xs w hp hpl hl
    · exact spec_CountByLength.calls_3 ps kp xs w hp hpl hl
    · exact spec_CountByLength.calls_4 ps kp xs w hp hpl hl
    · exact spec_CountByLength.calls_5 ps kp xs w hp hpl hl
    · exact spec_CountByLength.calls_6 ps kp xs w hp hpl hl
  · rename_i hn
    simp only [Option.some.injEq, Prod.mk.injEq] at h
    obtain ⟨rfl, rfl⟩ := h
    have hbt : spec_l1In.f a0 2 6 = some false := by
      unfold spec_l1In.f
      by_cases h2 : a0 ≥ 2
      · rw [if_pos h2, decide_eq_false (by omega)]
      · rw [if_neg h2]
    have HBT := Aside0.mk hbt
    clear hn hbt
    go_enter Try.func12, Try.ntmps12
    go_wp2_with (go_at_call 55; (with_reducible refine (spec_l1In.calls a0 2 6 false _ HBT.out).mono ?_); rintro e w' ⟨rfl, ⟨nd, rfl⟩⟩)
    go_ret2
    exact ⟨_, rfl, Kd.R_nil _ _ _ _ _, pw_below_drewN (Below.refl _ _) nd⟩

/-! ### spec_CountAllLeast: function 10 -/
def spec_CountAllLeast.l0 : Nat → Bool → Int → List Int → Int → Int → Option (Int × Bool)
  | 0, _, _, _, _, _ => none
  | k + 1, x5, x6, x14, x15, x16 => if x16 < x15 then (if 0 ≤ x16 then (if x16 < (x14.length : Int) then (spec_CountAllLeast.l0 k x5 (wrap64 (x6 + (rd x14 x16))) x14 x15 (wrap64 (x16 + 1))) else (none)) else (none)) else (some (x6, x5))
def spec_CountAllLeast.f (k : Nat) (a0 : Int) : Option (Int × Bool) := (spec_CountByLength.f a0).bind fun bt144 => (spec_CountAllLeast.l0 k bt144.2 0 bt144.1 (bt144.1.length : Int) 0)
theorem spec_CountAllLeast.mono_l : ∀ k, (∀ y0 y1 y2 y3 y4, LeO (spec_CountAllLeast.l0 k y0 y1 y2 y3 y4) (spec_CountAllLeast.l0 (k + 1) y0 y1 y2 y3 y4))
  | 0 => fun _ _ _ _ _ r h => by simp [spec_CountAllLeast.l0] at h
  | k + 1 => by
    have ih0 := spec_CountAllLeast.mono_l k
    · intro y0 y1 y2 y3 y4
      unfold spec_CountAllLeast.l0
      repeat' first
      | (with_reducible exact ih0 _ _ _ _ _)
      | (with_reducible exact LeO.refl _)
      | (with_reducible exact LeO.none _)
      | (with_reducible refine LeO.ite ?_ ?_)
      | (with_reducible refine LeO.bind ?_ (fun _ => ?_))
      | exact ih0 _ _ _ _ _
      | exact LeO.none _
      | refine LeO.ite ?_ ?_
      | refine LeO.bind ?_ (fun _ => ?_)
theorem spec_CountAllLeast.mono : ∀ a0 k, LeO (spec_CountAllLeast.f k a0) (spec_CountAllLeast.f (k + 1) a0) := by
  intro a0 k
  have ih0 := spec_CountAllLeast.mono_l k
  unfold spec_CountAllLeast.f
  repeat' first
      | (with_reducible exact ih0 _ _ _ _ _)
      | (with_reducible exact LeO.refl _)
      | (with_reducible exact LeO.none _)
      | (with_reducible refine LeO.ite ?_ ?_)
      | (with_reducible refine LeO.bind ?_ (fun _ => ?_))
      | exact ih0 _ _ _ _ _
      | exact LeO.none _
      | refine LeO.ite ?_ ?_
      | refine LeO.bind ?_ (fun _ => ?_)
set_option maxHeartbeats 8000000 in
set_option maxRecDepth 100000 in
theorem spec_CountAllLeast.calls (k : Nat) (a0 : Int) (r1 : Int) (r2 : Bool) (w : World) (h : spec_CountAllLeast.f k a0 = some (r1, r2)) :
    Calls Try.prog 10 #[.int .i64 a0] w fun e w' => e = .returned (.tuple #[.int .i64 r1, .bool r2]) ∧ Below w.heap.size w w' := by
  have HB := Aside0.mk (Below.refl w.heap.size w)
  have H : ((spec_CountByLength.f a0).bind fun bt144 => (spec_CountAllLeast.l0 k bt144.2 0 bt144.1 (bt144.1.length : Int) 0)) = some (r1, r2) := h
  clear h
  replace H := Option.bind_eq_some_iff.mp H
  obtain ⟨⟨t144, t145⟩, A20, H⟩ := H
  replace H : (spec_CountAllLeast.l0 k t145 0 t144 (t144.length : Int) 0) = some (r1, r2) := H
  have A2 := Aside0.mk A20
  clear A20
  have H' := Aside0.mk H
  clear H
  go_enter Try.func10, Try.ntmps10
  go_wp2_with (first | ((with_reducible refine gate_callee (f := 12) rfl ?_); refine goesL_ (some 11) rfl rfl Try.func12 (by kernel_rfl) rfl #[.int .i64 a0] rfl (by (try simp only [List.map_toArray, List.map_cons, List.map_nil]); first | done | rfl | (simp only [List.length_drop, List.length_take]; rfl)) ?_; (with_reducible refine (spec_CountByLength.calls a0 t144 t145 _ A2.out).mono ?_); rintro e w3 ⟨v146, rfl, ho0, hb⟩; refine ⟨_, rfl, ?_⟩; have n0_ := Aside0.mk (Kd.R_lower ho0 (below_size (by repeat (first | (with_reducible first | exact HB.out | apply below_alloc | apply pw_below_drewN | apply below_drew1) | exact HB.out)))); have n1_ := Aside0.mk (below_step (by repeat (first | (with_reducible first | exact HB.out | apply below_alloc | apply pw_below_drewN | apply below_drew1) | exact HB.out)) hb); clear HB; have HO147 := n0_; have HB := n1_; clear n0_ n1_; (try clear hb); (try clear hb2); (try clear hk); (try clear hi); (try clear ho0); obtain ⟨Ao4, co4, eo4⟩ := Kd.R_slice HO147.out; subst eo4))
  go_loopg [6, 16] k (fun kq v6 v16 w' => ∃ (x6_1 : Int) (x16_1 : Int), v6 = .int .i64 x6_1 ∧ v16 = .int .i64 x16_1 ∧ Aside0 (spec_CountAllLeast.l0 kq t145 x6_1 t144 (t144.length : Int) x16_1 = some (r1, r2)) ∧ Aside0 (kq ≤ k) ∧ Aside0 (Kd.R (Kd.int .i64) 3 w' w.heap.size (fun _ => True) (.slice Ao4 t144.length co4) t144) ∧ Aside0 (Below w.heap.size w w'))
  case atStart => exact ⟨(0), (0), (by first | rfl | (simp; done) | (simp [*]; done)), (by first | rfl | (simp; done) | (simp [*]; done)), H', ⟨Nat.le_refl _⟩, ⟨by (with_reducible repeat (first | apply Kd.R_alloc | apply Kd.R_drewN | apply Kd.R_drew)); exact HO147.out⟩, ⟨by repeat (first | (with_reducible first | exact HB.out | apply below_alloc | apply pw_below_drewN | apply below_drew1) | exact HB.out)⟩⟩
  case round =>
    clear H'
    try clear c1
    try clear p2
    obtain ⟨x6_1, x16_1, rfl, rfl, HA, HK1, HO_14, HB⟩ := hrel
    cases gk with
    | zero => exact absurd HA.out (by simp [spec_CountAllLeast.l0])
    | succ k1 =>
      have H := HA.out
      clear HA
      simp only [spec_CountAllLeast.l0] at H
      by_cases c5 : x16_1 < (t144.length : Int)
      · rw [if_pos c5] at H
        have c5b0 : decide (x16_1 < (t144.length : Int)) = true := decide_eq_true c5
        clear c5
        by_cases c6 : 0 ≤ x16_1
        · rw [if_pos c6] at H
          have c6b0 : decide (0 ≤ x16_1) = true := decide_eq_true c6
          clear c6
          by_cases c7 : x16_1 < (t144.length : Int)
          · rw [if_pos c7] at H
            have c7b0 : decide (x16_1 < (t144.length : Int)) = true := decide_eq_true c7
            clear c7
            have H' := Aside0.mk H
            clear H
            have p148 : 0 ≤ (x16_1 : Int) := of_decide_eq_true (by first | (with_reducible assumption) | assumption)
            have q148 : x16_1 < (t144.length : Int) := of_decide_eq_true (by first | (with_reducible assumption) | assumption)
            obtain ⟨ad148, e148, hx148_0⟩ := Kd.at_int (Kd.R_reads' HO_14.out).2.2 x16_1 p148 q148
            cases e148
            replace p148 := eq_true p148
            replace q148 := eq_true q148
            go_wp2
            go_roundg k1
            case measure => have := HK1.out; omega
            case rel => exact ⟨(wrap64 (x6_1 + (rd t144 x16_1))), (wrap64 (x16_1 + 1)), (by first | rfl | (simp; done) | (simp [*]; done)), (by first | rfl | (simp; done) | (simp [*]; done)), H', ⟨by have := HK1.out; omega⟩, ⟨by (with_reducible repeat (first | apply Kd.R_alloc | apply Kd.R_drewN | apply Kd.R_drew)); exact HO_14.out⟩, ⟨by repeat (first | (with_reducible first | exact HB.out | apply below_alloc | apply pw_below_drewN | apply below_drew1) | exact HB.out)⟩⟩
          · rw [if_neg c7] at H
            exact absurd H (by simp)
        · rw [if_neg c6] at H
          exact absurd H (by simp)
      · rw [if_neg c5] at H
        have c5b0 : decide (x16_1 < (t144.length : Int)) = false := decide_eq_false c5
        clear c5
        simp only [Option.some.injEq, Prod.mk.injEq] at H
        obtain ⟨rfl, rfl⟩ := H
        go_wp2
        go_ret2
        exact ⟨by first | rfl | (simp [errW_none, errW_some] <;> rfl) | (simp [*, errW_none, errW_some] <;> rfl), by repeat (first | (with_reducible first | exact HB.out | apply below_alloc | apply pw_below_drewN | apply below_drew1) | exact HB.out)⟩

/-! ### impl_between: function 60 -/
def impl_between.f (a0 : Int) (a1 : Int) (a2 : Int) : Option (Bool) := if a0 ≥ a1 then (some (decide (a0 ≤ a2))) else (some false)
set_option maxHeartbeats 8000000 in
set_option maxRecDepth 100000 in
theorem impl_between.calls (a0 : Int) (a1 : Int) (a2 : Int) (r : Bool) (w : World) (h : impl_between.f a0 a1 a2 = some r) :
    Calls Try.prog 60 #[.int .i64 a0, .int .i64 a1, .int .i64 a2] w fun e w' => e = .returned (.bool r) ∧ Drawn0 w w' := by
  have H : (if a0 ≥ a1 then (some (decide (a0 ≤ a2))) else (some false)) = some r := h
  clear h
  by_cases c4 : a0 ≥ a1
  · rw [if_pos c4] at H
    have c4b0 : decide (a1 ≤ a0) = true := decide_eq_true c4
    clear c4
    obtain rfl := Option.some.inj H
    go_enter Try.func60, Try.ntmps60
    go_wp2
    go_ret
    exact ⟨by first | rfl | (simp; done) | (simp [*]; done), by repeat (first | exact Drawn0.refl _ | apply Drawn0.step)⟩
  · rw [if_neg c4] at H
    have c4b0 : decide (a1 ≤ a0) = false := decide_eq_false c4
    clear c4
    obtain rfl := Option.some.inj H
    go_enter Try.func60, Try.ntmps60
    go_wp2
    go_ret
    exact ⟨by first | rfl | (simp; done) | (simp [*]; done), by repeat (first | exact Drawn0.refl _ | apply Drawn0.step)⟩

/-! ### slices_Clone_int_int: function 96 -/
def slices_Clone_int_int.f (l0 : List Int) : Option (List Int) := if l0.length < 17592186044416 then (some l0) else (none)
set_option maxHeartbeats 2000000 in
set_option maxRecDepth 100000 in
theorem slices_Clone_int_int.calls (A0 : Option Addr) (c0 : Nat) (l0 : List Int) (r : List Int) (w : World) (hr0 : Kd.C (Kd.int .i64) w A0 l0.length l0) (hc0 : l0.length ≤ c0) (h : slices_Clone_int_int.f l0 = some r) :
    Calls Try.prog 96 #[.slice A0 l0.length c0] w fun e w' => ∃ v0_ : Value, e = .returned (v0_) ∧ Kd.R (Kd.int .i64) 3 w' w.heap.size (fun _ => True) v0_ r ∧ Below w.heap.size w w' := by
  have HR0 := Aside0.mk hr0
  have hz : A0 = none → l0 = [] := fun e => by
    rcases Nat.eq_zero_or_pos l0.length with h0 | h0
    · exact List.eq_nil_of_length_eq_zero h0
    · obtain ⟨ad, hA, _⟩ := hr0.2.2 h0
      rw [e] at hA; cases hA
  unfold slices_Clone_int_int.f at h
  by_cases hl : l0.length < 17592186044416
  · rw [if_pos hl] at h
    obtain rfl := Option.some.inj h
    have HL := Aside0.mk hl
    clear hl h hr0 hc0
    have hnil := fun (w : World) (a : Option Addr) (n c : Nat) => Lib.run_eql_slice_nil (P := Try.prog) w 25 3 a n c 0 0 Try.underlying25
    cases A0 with
    | none =>
      obtain rfl := hz rfl
      clear hz
      go_enter Try.func96, Try.ntmps96
      go_wp2
      go_ret
      exact ⟨_, rfl, Kd.R_nil _ _ _ _ _, by repeat (first | exact Below.refl _ _ | apply pw_below_drewN | apply below_drew1)⟩
    | some ad =>
      clear hz
      have HB := Aside0.mk (Below.refl w.heap.size w)
      obtain ⟨y1, hy1⟩ : ∃ y_ : List Int, y_ = (([] : List Int)) := ⟨_, rfl⟩
      have Ny1 := Aside0.mk hy1
      obtain ⟨y2, hy2⟩ : ∃ y_ : List Int, y_ = (y1 ++ l0) := ⟨_, rfl⟩
      have Ny2 := Aside0.mk hy2
      have NE := Aside0.mk (show y2 = l0 by rw [hy2, hy1]; rfl)
      have LM := Aside0.mk (show y1.length + l0.length < 17592186044416 by rw [hy1]; simpa using HL.out)
      clear hy1 hy2
      go_enter Try.func96, Try.ntmps96
      go_wp2_with (first | ((with_reducible refine gate_dst (N := 5) rfl ?_); refine Kd.R_lit (Kd.int .i64) _ 3 ?hg (N := 5) ?hd (xs := ([] : List Int)) (inner := []) (ok := fun _ => True) (okp := fun _ => True) ?hr ?hp (fun _ hk => hk) trivial (Below.refl _ _) (Nat.le_refl _) (by simp) ?_; (case hd => rfl); (case hg => rfl); (case hr => first | (go_simp; done) | (go_simp; rfl)); (case hp => exact (Reps.none _ _)); intro v1 w3 ho4 hb hg_ hnew_; clear hg_ hnew_; (first | rw [← Ny1.out] at ho4 | (simp only [Int.reduceToNat] at ho4; rw [← Ny1.out] at ho4)); have n0_ := Aside0.mk (Kd.R_lower ho4 (below_size HB.out)); have n1_ := Aside0.mk (below_step HB.out hb); clear HB; have HO1 := n0_; have HB := n1_; clear n0_ n1_; clear hb ho4) | ((with_reducible refine gate_builtin (b := .append) (xs := #[.tmp 5, .tmp 6]) rfl ?_); at_builtin; refine Kd.R_append_rows (Kd.int .i64) (w0 := w) w.heap.size rfl (.tmp 5) (.tmp 6) 25 3 (.int .i64 0) 8 rfl Try.underlying25 info3 rfl (by decide) (by omega) v1 y1 l0 _ _ _ (fun _ => True) (fun _ => False) rfl rfl ?aO ?aR (fun _ _ h => h) (fun _ h => h.elim) ?aF ?aB ?aS ?aL ?_; (case aR => repeat (first | exact (Kd.C_below HR0.out HB.out) | (with_reducible refine Kd.C_alloc ?_ _) | (with_reducible refine Kd.C_drewN ?_ _) | (with_reducible refine Kd.C_drew ?_))); (case aB => exact HB.out); (case aF => exact (fun _ _ => trivial)); (case aO => exact (by (with_reducible repeat (first | apply Kd.R_alloc | apply Kd.R_drewN | apply Kd.R_drew)); exact HO1.out)); (case aS => exact (below_size HB.out)); (case aL => have := LM.out; omega); intro v2 w5 ho hb hg hat; rw [← Ny2.out, NE.out] at ho; have n0_ := Aside0.mk (hb); have n1_ := Aside0.mk (ho); clear HB; clear HO1; have HB := n0_; have HO2 := n1_; clear n0_ n1_; clear ho hb hg hat))
      go_ret
      exact ⟨_, by rfl, by (with_reducible repeat (first | apply Kd.R_alloc | apply Kd.R_drewN | apply Kd.R_drew)); exact HO2.out, by repeat (first | (with_reducible first | exact HB.out | apply below_alloc | apply pw_below_drewN | apply below_drew1) | exact HB.out)⟩
  · rw [if_neg hl] at h
    cases h

end
end Go.Proofs.Ytnddmmjofpfmfaa.PLc
