-- Written for this claim by a program of this session (myprint.py) over the kit's printer.
import Derived.Test.YtnddmmjofpfmfaaPScx0
import Derived.Test.YtnddmmjofpfmfaaPScx6
import Derived.Test.YtnddmmjofpfmfaaPScx7
namespace Go.Proofs.Ytnddmmjofpfmfaa.PSc
noncomputable section
open Go.RowKit Go.Proofs.YtnddmmjofpfmfaaW.PrintWords Go.Proofs.YtnddmmjofpfmfaaW.PrintLast Go.Proofs.YtnddmmjofpfmfaaW.PrintMore
attribute [local go_sem] max2_int min2_int max_two min_two max_three min_three max_four min_four   -- for this text's walks alone
set_option linter.unusedVariables false
set_option linter.unusedSimpArgs false

/-! ### impl_slides: function 80 -/
def impl_slides.lp (G : List Int → List Int → List (List Int) → Option (List (List Int))) (most : Int) (done_ left ts : List Int) : Nat → Nat → List (List Int) → Option (List (List Int))
  | 0, _, out => some out
  | m + 1, i, out => if most < (out.length : Int) then some out else if 0 ≤ rd ts (i : Int) ∧ rd ts (i : Int) < (left.length : Int) then (slices_Clone_int_int.f done_).bind fun c => if c.length < 1000 then (impl_without.f left (rd ts (i : Int))).bind fun q => (G (c ++ [rd left (rd ts (i : Int))]) q out).bind fun out' => impl_slides.lp G most done_ left ts m (i + 1) out' else none else none
def impl_slides.g : Nat → Int → List Int → List Int → List (List Int) → Option (List (List Int))
  | 0, _, _, _, _ => none
  | d + 1, most, done_, left, out => if left.length = 0 then (if out.length < 100000 then some (out ++ [done_]) else none) else (impl_firsts.f left).bind fun ts => impl_slides.lp (fun a b o => impl_slides.g d most a b o) most done_ left ts ts.length 0 out
def impl_slides.f (l0 l1 : List Int) (a2 : Int) (l3 : List (List Int)) : Option (List (List Int)) := impl_slides.g (l1.length + 1) a2 l0 l1 l3
theorem impl_slides.lit_C {W : World} {g e : Nat} {x : Int} (h : W.heap[g]? = some (.cells #[.int .i64 x] e (0, 0))) : Kd.C (Kd.int .i64) W (some ⟨g, 0, none⟩) 1 [x] :=
  ⟨rfl, by decide, fun _ => ⟨_, rfl, fun j p hj => by
    cases j with
    | zero =>
      simp at hj
      subst hj
      refine ⟨[.int .i64 x], rfl, rfl, fun i u hu => ?_⟩
      cases i with
      | zero => simp at hu; subst hu; rw [add_at]; exact blk_cell h 0
      | succ i => simp at hu
    | succ j => simp at hj⟩⟩
theorem impl_slides.cell {W : World} {Pp : Nat → Prop} {ad : Addr} {left : List Int} {a x : Int} (h : Kd.F (Kd.int .i64) W Pp (some ad) left.length left) (h0 : 0 ≤ a) (h1 : a < (left.length : Int)) (hx : x = rd left a) : W.cell? (ad.add a.toNat) = some (.int .i64 x) := by
  obtain ⟨ad_, e_, h_⟩ := Kd.at_int (Kd.F_now h) a h0 h1
  cases e_
  rw [hx]; exact h_
def impl_slides.T7 : Bool × List (List Nat × List Nat) := (true, [([], []), ([0], [0]), ([], []), ([], []), ([2, 3], [2, 3]), ([4], [4]), ([5], [5]), ([1, 6, 1], [1, 6]), ([], []), ([], []), ([8, 9, 7], [8, 9]), ([], []), ([], []), ([7, 10, 11, 12, 10], [7, 10, 11, 12]), ([13, 13, 0, 1, 2, 3, 4, 5, 6, 7, 8, 9, 10, 11, 12, 13], [12, 13])])
def impl_slides.B7 : List Nat := [0, 1, 0, 0, 12, 28, 60, 127, 0, 0, 1023, 0, 0, 8191, 16383]
theorem impl_slides.tab7 : rtab .any (opsOf Try.f80 7) = impl_slides.T7 := by kernel_rfl
theorem impl_slides.bits7 : waitsOk impl_slides.T7.2 impl_slides.B7 = true := by kernel_rfl
set_option maxHeartbeats 8000000 in
set_option maxRecDepth 100000 in
theorem impl_slides.calls_g (a2 : Int) : ∀ (d : Nat) (Pd : Nat → Prop) (A1 : Option Addr) (c1 : Nat) (l1 : List Int) (Pp : Nat → Prop) (A2 : Option Addr) (c2 : Nat) (l2 : List Int) (P : Nat → Prop) (v : Value) (xs ys : List (List Int)) (w0 w : World) (hB : Below w0.heap.size w0 w) (h1 : Kd.R (Kd.int .i64) 3 w w0.heap.size Pd (.slice A1 l1.length c1) l1) (h1p : ∀ k, Pd k → ¬ P k) (h2 : Kd.F (Kd.int .i64) w Pp A2 l2.length l2) (hc2 : l2.length ≤ c2) (h2p : ∀ k, Pp k → ¬ P k) (hS : Kd.S (Kd.slice 3 (Kd.int .i64)) 25 w w0.heap.size P v xs) (hPw : ∀ k, P k → k < w.heap.size) (h : impl_slides.g d a2 l1 l2 xs = some ys),
    Calls Try.prog 80 #[.slice A1 l1.length c1, .slice A2 l2.length c2, .int .i64 a2, v] w fun e w' => ∃ v0_ : Value, e = .returned v0_ ∧ Kd.S (Kd.slice 3 (Kd.int .i64)) 25 w' w0.heap.size (fun k => P k ∨ Pd k ∨ w.heap.size ≤ k) v0_ ys ∧ Below w0.heap.size w0 w' ∧ Kept w w' P
  | 0, _, _, _, _, _, _, _, _, _, _, _, _, _, _, _, _, _, _, _, _, _, _, h => by cases h
  | d + 1, Pd, A1, c1, l1, Pp, A2, c2, l2, P, v, xs, ys, w0, w, hB, h1, h1p, h2, hc2, h2p, hS, hPw, h => by
    have HB := Aside0.mk hB
    have H1 := Aside0.mk h1
    have H2 := Aside0.mk h2
    have HC2 := Aside0.mk hc2
    have HS := Aside0.mk hS
    have HP1 := Aside0.mk h1p
    have HP2 := Aside0.mk h2p
    have HPw := Aside0.mk hPw
    clear hB h1 h2 hc2 hS h1p h2p hPw
    unfold impl_slides.g at h
    by_cases c : l2.length = 0
    · rw [if_pos c] at h
      split at h
      case isFalse => cases h
      rename_i hx
      obtain rfl := Option.some.inj h
      have HX := Aside0.mk hx
      clear h hx
      have cb : ((l2.length : Int) == 0) = true := beq_iff_eq.mpr (by omega)
      have cd : decide ((l2.length : Int) = 0) = true := decide_eq_true (by omega)
      have HV : Aside0 (∀ k, v.ownBlock = some k → P k) := Aside0.mk (Kd.S_R HS.out).1
      clear c
      go_enter Try.func80, Try.ntmps80
      go_wp2_with ((with_reducible refine gate_builtin (b := .append) (xs := #[.tmp 14, .tmp 16]) rfl ?_); at_builtin; refine Kd.S_append (Kd.slice 3 (Kd.int .i64)) (w0 := w0) w0.heap.size rfl (.tmp 14) (.tmp 16) 67 25 (.slice none 0 0) 24 rfl Try.underlying67 info25 rfl (by decide) (by omega) v xs l1 [.slice A1 l1.length c1] (fun k => P k ∨ Pd k ∨ w.heap.size ≤ k) Pd rfl rfl ?aP ?aK ?aF ?aO ?aB ?aS ?aL ?_; (case aP => exact ⟨_, rfl, H1.out⟩); (case aK => exact fun k hk => ⟨.inr (.inl hk), fun e_ => HP1.out k hk (HV.out k e_.symm)⟩); (case aF => exact fun k hk => .inr (.inr hk)); (case aO => exact Kd.S_mono HS.out (fun k hk => ⟨.inl hk, fun h_ => HP1.out k h_ hk⟩)); (case aB => exact HB.out); (case aS => exact below_size HB.out); (case aL => have := HX.out; omega); intro v3 w3 ho hb hg hat; have HO3 := Aside0.mk ho; have HB3 := Aside0.mk hb; have HK3 := Aside0.mk (Kept.of_grown (S := P) hg (by repeat (first | exact Kept.refl _ _ | apply Kept.drewN | apply Kept.drew | apply Kept.alloc)) (fun k e_ => .inl (HV.out k e_))); clear ho hb hg hat)
      go_ret
      exact ⟨_, rfl, HO3.out, HB3.out, HK3.out⟩
    · rw [if_neg c] at h
      obtain ⟨ds, hd, h⟩ := Option.bind_eq_some_iff.1 h
      have HD := Aside0.mk hd
      have HL := Aside0.mk h
      have cb : ((l2.length : Int) == 0) = false := beq_eq_false_iff_ne.mpr (by omega)
      have cd : decide ((l2.length : Int) = 0) = false := decide_eq_false (by omega)
      clear h c hd
      go_enter Try.func80, Try.ntmps80
      go_wp2_with (go_at_call 108; (with_reducible refine (impl_firsts.calls _ _ l2 ds _ ?side1 HC2.out HD.out).mono ?_); (case side1 => exact Kd.F_now H2.out); rintro e w2 ⟨v2, rfl, hr2, hb2⟩; obtain ⟨A9, c9, e9⟩ := Kd.R_slice hr2; subst e9; have HB2 := Aside0.mk (below_step HB.out hb2); have HBw := Aside0.mk hb2; have H12 := Aside0.mk (Kd.R_below H1.out hb2); have HS2 := Aside0.mk (Kd.S_below HS.out hb2); have H22 := Aside0.mk (Kd.F_below H2.out hb2); have HR9 := Aside0.mk hr2; clear hr2 hb2)
      go_loopg [3, 21] ds.length (fun kq v3 v21 w' => ∃ (i : Nat) (xs1 : List (List Int)), v21 = .int .i64 (i : Int) ∧ Aside0 (i + kq = ds.length) ∧ Aside0 (impl_slides.lp (fun a b o => impl_slides.g d a2 a b o) a2 l1 l2 ds kq i xs1 = some ys) ∧ Aside0 (Kd.S (Kd.slice 3 (Kd.int .i64)) 25 w' w0.heap.size (fun k => P k ∨ w2.heap.size ≤ k) v3 xs1) ∧ Aside0 (Kept w2 w' P) ∧ Aside0 (Below w0.heap.size w0 w'))
      case atStart => exact ⟨0, xs, rfl, ⟨by omega⟩, HL, ⟨Kd.S_mono HS2.out (fun k hk => .inl hk)⟩, ⟨Kept.refl _ _⟩, ⟨HB2.out⟩⟩
      case round =>
        have HSZ2 := Aside0.mk HBw.out.size
        clear HB2 HS2
        obtain ⟨i, xs1, rfl, HI, HA, HO, HK, HB3⟩ := hrel
        have HR9' := Aside0.mk (Kd.R_step (Kd.R_tight rfl HR9.out) (fun k hk hlt => HK.out.2 k hlt (fun hp => by have h1_ := HPw.out k hp; have h2_ := Kd.R_base HR9.out k hk.symm; omega)))
        obtain ⟨Ao, co, eo⟩ := Kd.R_slice (Kd.S_R HO.out)
        subst eo
        cases gk with
        | zero =>
          have H := HA.out
          simp only [impl_slides.lp, Option.some.injEq] at H
          have HE := Aside0.mk H
          have HI0 := HI.out
          have ct : decide ((i : Int) < (ds.length : Int)) = false := decide_eq_false (by omega)
          have ct2 : decide (i < ds.length) = false := decide_eq_false (by omega)
          clear H HI0
          go_wp2
          go_ret
          exact ⟨_, rfl, by rw [← HE.out]; exact Kd.S_mono HO.out (fun k hk => hk.elim .inl (fun h_ => .inr (.inr (Nat.le_trans HSZ2.out h_)))), HB3.out, Kept.then_ (Kept.of_below HBw.out P) HK.out (fun k hk => .inl hk)⟩
        | succ k1 =>
          have H := HA.out
          simp only [impl_slides.lp] at H
          have HI0 := HI.out
          have p9 : (0 : Int) ≤ (i : Int) := by omega
          have q9 : (i : Int) < ds.length := by omega
          have ct : decide ((i : Int) < (ds.length : Int)) = true := decide_eq_true q9
          obtain ⟨ad9, e9, hx9⟩ := Kd.at_int (Kd.R_reads' HR9'.out).2.2 (i : Int) p9 q9
          subst e9
          simp only [Int.toNat_natCast] at hx9
          obtain ⟨a, ha⟩ : ∃ a, a = rd ds (i : Int) := ⟨_, rfl⟩
          rw [← ha] at H hx9
          have HMX := Aside0.mk (Kd.F_max (Kd.R_F HR9'.out))
          replace p9 := eq_true p9
          replace q9 := eq_true q9
          by_cases c3 : a2 < (xs1.length : Int)
          case pos =>
            rw [if_pos c3] at H
            have HE := Aside0.mk (Option.some.inj H)
            have c3b : decide (a2 < (xs1.length : Int)) = true := decide_eq_true c3
            have c3c : decide ((xs1.length : Int) > a2) = true := decide_eq_true c3
            clear H HI0 c3 ha
            go_wp2
            go_ret
            exact ⟨_, rfl, by rw [← HE.out]; exact Kd.S_mono HO.out (fun k hk => hk.elim .inl (fun h_ => .inr (.inr (Nat.le_trans HSZ2.out h_)))), HB3.out, Kept.then_ (Kept.of_below HBw.out P) HK.out (fun k hk => .inl hk)⟩
          rw [if_neg c3] at H
          have c3b : decide (a2 < (xs1.length : Int)) = false := decide_eq_false c3
          have c3c : decide ((xs1.length : Int) > a2) = false := decide_eq_false c3
          by_cases c4 : 0 ≤ a ∧ a < (l2.length : Int)
          case neg => rw [if_neg c4] at H; cases H
          rw [if_pos c4] at H
          obtain ⟨cl, hcl, H⟩ := Option.bind_eq_some_iff.1 H
          by_cases hc1 : cl.length < 1000
          case neg => rw [if_neg hc1] at H; cases H
          rw [if_pos hc1] at H
          obtain ⟨q, hq, H⟩ := Option.bind_eq_some_iff.1 H
          obtain ⟨ys1, hg, H⟩ := Option.bind_eq_some_iff.1 H
          have HF1 := Aside0.mk (Kd.F_kept (Kd.R_F H12.out) HK.out HP1.out)
          have HF2 := Aside0.mk (Kd.F_kept H22.out HK.out HP2.out)
          have HC1 : Aside0 (l1.length ≤ c1) := Aside0.mk (Kd.R_reads' H12.out).2.1
          obtain ⟨ad2, e2_, _⟩ := Kd.at_int (Kd.F_now HF2.out) a c4.1 c4.2
          subst e2_
          obtain ⟨x, hx⟩ : ∃ x, x = rd l2 a := ⟨_, rfl⟩
          rw [← hx] at hg
          obtain ⟨y5, ny5⟩ : ∃ y, y = cl ++ [x] := ⟨_, rfl⟩
          rw [← ny5] at hg
          have NY := Aside0.mk ny5
          have HXX := Aside0.mk hx
          have HCL := Aside0.mk hcl
          have HQ := Aside0.mk hq
          have HG := Aside0.mk hg
          have HT := Aside0.mk H
          have HCC := Aside0.mk hc1
          have HR4_ := Aside0.mk c4
          have p4 := eq_true c4.1
          have q4 := eq_true c4.2
          clear hcl hq hg H hc1 hx ny5 HI0 c3 c4 ha
          go_wp2
          clear hx9
          have n0_ := Aside0.mk (Kd.F_drew HF1.out)
          have n1_ := Aside0.mk (Kd.F_drew HF2.out)
          have n2_ := Aside0.mk (Kd.S_drew HO.out)
          have n3_ := Aside0.mk (Kept.drew HK.out)
          have n4_ := Aside0.mk (below_drew1 HB3.out)
          clear HF1 HF2 HO HK HB3
          have HF1 := n0_
          have HF2 := n1_
          have HO := n2_
          have HK := n3_
          have HB3 := n4_
          clear n0_ n1_ n2_ n3_ n4_
          refine start_ (n := 15) (S := fun w' => w'.cell? (ad2.add a.toNat) = some (.int .i64 x)) (ds := []) #[false, false, false, false, false, false, false, false, false, false, false, false, false, false, false] (by kernel_rfl) rfl rfl (impl_slides.cell HF2.out HR4_.out.1 HR4_.out.2 HXX.out) (fun hHeld => ?_)
          refine with_tabW impl_slides.tab7 impl_slides.bits7 (fun HT_ HW_ => ?_)
          generalize wr.drew = w1 at HF1 HF2 HO HK HB3 hHeld ⊢
          have HBL := Aside0.mk (Below.refl w1.heap.size w1)
          refine pure_ (i := 0) (N := some 29) (v := ?_) (a' := ?_) #[true, false, false, false, false, false, false, false, false, false, false, false, false, false, false] rfl rfl (any_of HT_.out (by kernel_rfl)) (fun _ _ _ h => h) (Or.inl ⟨by rfl, ?_⟩) ?_ ?_
          rotate_left
          · intro w'
            go_simp
            with_reducible rfl
          rotate_left
          · simp only [Act.put, List.setIfInBounds_toArray, List.set_cons_zero, List.set_cons_succ, i64_w, i32_w]
            rfl
          refine pure_ (i := 2) (N := some 31) (v := ?_) (a' := ?_) #[true, false, true, false, false, false, false, false, false, false, false, false, false, false, false] rfl rfl (any_of HT_.out (by kernel_rfl)) (fun _ _ _ h => h) (Or.inl ⟨by rfl, ?_⟩) ?_ ?_
          rotate_left
          · intro w'
            go_simp
            with_reducible rfl
          rotate_left
          · simp only [Act.put, List.setIfInBounds_toArray, List.set_cons_zero, List.set_cons_succ, i64_w, i32_w]
            rfl
          refine pure_ (i := 3) (N := some 32) (v := ?_) (a' := ?_) #[true, false, true, true, false, false, false, false, false, false, false, false, false, false, false] rfl rfl (any_of HT_.out (by kernel_rfl)) (fun _ _ _ h => h) (Or.inl ⟨by rfl, ?_⟩) ?_ ?_
          rotate_left
          · intro w'
            go_simp
            with_reducible rfl
          rotate_left
          · simp only [Act.put, List.setIfInBounds_toArray, List.set_cons_zero, List.set_cons_succ, i64_w, i32_w]
            rfl
          refine pure_ (i := 8) (N := some 37) (v := ?_) (a' := ?_) #[true, false, true, true, false, false, false, false, true, false, false, false, false, false, false] rfl rfl (any_of HT_.out (by kernel_rfl)) (fun _ _ _ h => h) (Or.inl ⟨by rfl, ?_⟩) ?_ ?_
          rotate_left
          · intro w'
            go_simp
            with_reducible rfl
          rotate_left
          · simp only [Act.put, List.setIfInBounds_toArray, List.set_cons_zero, List.set_cons_succ, i64_w, i32_w]
            rfl
          refine pure_ (i := 9) (N := some 38) (v := ?_) (a' := ?_) #[true, false, true, true, false, false, false, false, true, true, false, false, false, false, false] rfl rfl (any_of HT_.out (by kernel_rfl)) (fun _ _ _ h => h) (Or.inl ⟨by rfl, ?_⟩) ?_ ?_
          rotate_left
          · intro w'
            go_simp
            with_reducible rfl
          rotate_left
          · simp only [Act.put, List.setIfInBounds_toArray, List.set_cons_zero, List.set_cons_succ, i64_w, i32_w]
            rfl
          refine pure_ (i := 11) (N := some 40) (v := ?_) (a' := ?_) #[true, false, true, true, false, false, false, false, true, true, false, true, false, false, false] rfl rfl (any_of HT_.out (by kernel_rfl)) (fun _ _ _ h => h) (Or.inl ⟨by rfl, ?_⟩) ?_ ?_
          rotate_left
          · intro w'
            go_simp
            with_reducible rfl
          rotate_left
          · simp only [Act.put, List.setIfInBounds_toArray, List.set_cons_zero, List.set_cons_succ, i64_w, i32_w]
            rfl
          refine pure_ (i := 12) (N := some 41) (v := ?_) (a' := ?_) #[true, false, true, true, false, false, false, false, true, true, false, true, true, false, false] rfl rfl (any_of HT_.out (by kernel_rfl)) (fun _ _ _ h => h) (Or.inl ⟨by rfl, ?_⟩) ?_ ?_
          rotate_left
          · intro w'
            go_simp
            with_reducible rfl
          rotate_left
          · simp only [Act.put, List.setIfInBounds_toArray, List.set_cons_zero, List.set_cons_succ, i64_w, i32_w]
            rfl
          refine pure_ (i := 4) (N := some 33) (v := ?_) (a' := ?_) #[true, false, true, true, true, false, false, false, true, true, false, true, true, false, false] rfl rfl (any_of HT_.out (by kernel_rfl)) (fun _ _ _ h => h) (Or.inl ⟨by rfl, ?_⟩) ?_ ?_
          rotate_left
          · intro w'
            go_simp
            with_reducible rfl
          rotate_left
          · simp only [Act.put, List.setIfInBounds_toArray, List.set_cons_zero, List.set_cons_succ, i64_w, i32_w]
            rfl
          refine take_ (i := 5) (N := some 34) (v := ?_) (a' := ?_) #[true, false, true, true, true, true, false, false, true, true, false, true, true, false, false] rfl rfl (take_ofW HT_.out HW_.out (by kernel_rfl)) (fun _ _ _ h => h) (Or.inl ⟨by rfl, ?_⟩) hHeld ?_ ?_
          rotate_left
          · rintro w' s0
            go_simp
            with_reducible rfl
          rotate_left
          · simp only [Act.put, List.setIfInBounds_toArray, List.set_cons_zero, List.set_cons_succ, i64_w, i32_w]
            rfl
          refine two_ (i := 1) (j := 6) (Ni := some 30) (Nj := some 35) #[true, true, true, true, true, true, false, false, true, true, false, true, true, false, false] #[true, false, true, true, true, true, true, false, true, true, false, true, true, false, false] rfl rfl rfl rfl (two_of HT_.out (by kernel_rfl)) (by decide) (by decide) (fun K hK => ?_) (fun K hK => ?_)
          · refine goes_ Try.func96 (by kernel_rfl) rfl #[.slice A1 l1.length c1] (by rfl) rfl rfl (by (try simp only [List.map_toArray, List.map_cons, List.map_nil]); first | done | rfl) ?_
            refine (slices_Clone_int_int.calls A1 c1 l1 cl _ (Kd.F_now (Kd.F_below HF1.out HBL.out)) HC1.out HCL.out).mono ?_
            rintro e w4 ⟨v4, rfl, hr4, hb⟩
            refine ⟨_, rfl, ?_⟩
            have HR4 := Aside0.mk (Kd.R_lower hr4 HBL.out.size)
            have n0_ := Aside0.mk (below_step HBL.out hb)
            clear HBL hHeld hr4 hb
            have HBL := n0_
            clear n0_
            refine hK.out _ _ (impl_slides.cell (Kd.F_below HF2.out HBL.out) HR4_.out.1 HR4_.out.2 HXX.out) (fun hHeld => ?_)
            clear hK K
            refine norm_ (a' := ?_) ?_ ?_
            rotate_left
            · show Act.put _ (some 30) _ = _
              simp only [Act.put, List.setIfInBounds_toArray, List.set_cons_zero, List.set_cons_succ, i64_w, i32_w]
              rfl
            refine one_ (i := 6) (N := some 35) #[true, true, true, true, true, true, true, false, true, true, false, true, true, false, false] rfl rfl (one_of HT_.out (by kernel_rfl)) (by decide) (fun K hK => ?_)
            refine value_ (w1 := w4.alloc (.cells #[.int .i64 x] 3)) (v := .slice (some ⟨w4.heap.size, 0, none⟩) 1 1) (by rfl) rfl ?_ ?_
            · go_simp
            have hb := below_alloc (Below.refl w4.heap.size w4) (.cells #[.int .i64 x] 3 (0, 0))
            have BKL := Aside0.mk (blk_new w4 (.cells #[.int .i64 x] 3 (0, 0)))
            have n0_ := Aside0.mk (below_step HBL.out hb)
            have n1_ := Aside0.mk (Kd.R_below HR4.out hb)
            clear HBL HR4 hHeld hb
            have HBL := n0_
            have HR4 := n1_
            clear n0_ n1_
            obtain ⟨GL, hGL⟩ : ∃ G_, G_ = w4.heap.size := ⟨_, rfl⟩
            rw [← hGL] at BKL ⊢
            clear hGL
            generalize w4.alloc (.cells #[.int .i64 x] 3) = w5 at HBL BKL HR4 ⊢
            refine hK.out _ _ (impl_slides.cell (Kd.F_below HF2.out HBL.out) HR4_.out.1 HR4_.out.2 HXX.out) (fun hHeld => ?_)
            clear hK K
            refine norm_ (a' := ?_) ?_ ?_
            rotate_left
            · show Act.put _ (some 35) _ = _
              simp only [Act.put, List.setIfInBounds_toArray, List.set_cons_zero, List.set_cons_succ, i64_w, i32_w]
              rfl
            refine one_ (i := 7) (N := some 36) #[true, true, true, true, true, true, true, true, true, true, false, true, true, false, false] rfl rfl (one_of HT_.out (by kernel_rfl)) (by decide) (fun K hK => ?_)
            refine Kd.R_append_rows_step (Kd.int .i64) (w0 := w1) w1.heap.size (by rfl) (.tmp 30) (.tmp 35) 25 3 (.int .i64 0) 8 rfl Try.underlying25 info3 rfl (by decide) (by omega) v4 cl [x] (some ⟨GL, 0, none⟩) 1 1 (fun _ => True) (fun _ => False) rfl rfl HR4.out (impl_slides.lit_C BKL.out) (fun _ _ h_ => h_) (fun _ h_ => h_.elim) (fun _ _ => trivial) HBL.out HBL.out.size (by have := HCC.out; omega) ?_
            intro v5 w6 ho hb hg hat
            rw [← NY.out] at ho
            have HR5 := Aside0.mk ho
            clear HBL HR4 BKL hHeld
            have HBL := Aside0.mk hb
            clear ho hb hg hat
            obtain ⟨A5, c5, e5⟩ := Kd.R_slice HR5.out
            subst e5
            refine hK.out _ _ (impl_slides.cell (Kd.F_below HF2.out HBL.out) HR4_.out.1 HR4_.out.2 HXX.out) (fun hHeld => ?_)
            clear hK K
            refine norm_ (a' := ?_) ?_ ?_
            rotate_left
            · show Act.put _ (some 36) _ = _
              simp only [Act.put, List.setIfInBounds_toArray, List.set_cons_zero, List.set_cons_succ, i64_w, i32_w]
              rfl
            refine one_ (i := 10) (N := some 39) #[true, true, true, true, true, true, true, true, true, true, true, true, true, false, false] rfl rfl (one_of HT_.out (by kernel_rfl)) (by decide) (fun K hK => ?_)
            refine goes_ Try.func97 (by kernel_rfl) rfl #[.slice (some ad2) l2.length c2, .int .i64 a] (by rfl) rfl rfl (by (try simp only [List.map_toArray, List.map_cons, List.map_nil]); first | done | rfl) ?_
            refine (impl_without.calls (some ad2) c2 l2 a q _ (Kd.F_now (Kd.F_below HF2.out HBL.out)) HC2.out HQ.out).mono ?_
            rintro e w7 ⟨v6, rfl, hr6, hb⟩
            refine ⟨_, rfl, ?_⟩
            have HR6 := Aside0.mk (Kd.R_lower hr6 HBL.out.size)
            have n0_ := Aside0.mk (below_step HBL.out hb)
            have n1_ := Aside0.mk (Kd.R_below HR5.out hb)
            clear HBL HR5 hHeld hr6 hb
            have HBL := n0_
            have HR5 := n1_
            clear n0_ n1_
            obtain ⟨A6, c6, e6⟩ := Kd.R_slice HR6.out
            subst e6
            refine hK.out _ _ (impl_slides.cell (Kd.F_below HF2.out HBL.out) HR4_.out.1 HR4_.out.2 HXX.out) (fun hHeld => ?_)
            clear hK K
            refine norm_ (a' := ?_) ?_ ?_
            rotate_left
            · show Act.put _ (some 39) _ = _
              simp only [Act.put, List.setIfInBounds_toArray, List.set_cons_zero, List.set_cons_succ, i64_w, i32_w]
              rfl
            refine one_ (i := 13) (N := some 42) #[true, true, true, true, true, true, true, true, true, true, true, true, true, true, false] rfl rfl (one_of HT_.out (by kernel_rfl)) (by decide) (fun K hK => ?_)
            refine goes_ Try.func80 (by kernel_rfl) rfl #[.slice A5 y5.length c5, .slice A6 q.length c6, .int .i64 a2, .slice Ao xs1.length co] (by rfl) rfl rfl (by (try simp only [List.map_toArray, List.map_cons, List.map_nil]); first | done | rfl) ?_
            refine (impl_slides.calls_g a2 d (fun k_ => some k_ = (Value.slice A5 y5.length c5).ownBlock) A5 c5 y5 (fun k_ => some k_ = (Value.slice A6 q.length c6).ownBlock) A6 c6 q (fun k_ => (P k_ ∨ w2.heap.size ≤ k_) ∧ k_ < w1.heap.size) (.slice Ao xs1.length co) xs1 ys1 w0 w7 (below_step HB3.out HBL.out) (Kd.R_lower (Kd.R_tight rfl HR5.out) HB3.out.size) (fun k_ hk hp => by have h1_ := Kd.R_base HR5.out k_ hk.symm; have h2_ := hp.2; omega) (Kd.R_F (Kd.R_tight rfl HR6.out)) (Kd.R_reads' HR6.out).2.1 (fun k_ hk hp => by have h1_ := Kd.R_base HR6.out k_ hk.symm; have h2_ := hp.2; omega) (Kd.S_below (Kd.S_mono (Kd.S_bound HO.out) (fun k_ hk => ⟨hk.1, hk.2.2.1⟩)) HBL.out) (fun k_ hk => Nat.lt_of_lt_of_le hk.2 HBL.out.size) HG.out).mono ?_
            rintro e w8 ⟨v8, rfl, hs8, hb8, hk8⟩
            refine ⟨_, rfl, ?_⟩
            have HSZ1 := Aside0.mk HK.out.1
            have HO8 := Aside0.mk (Kd.S_mono (ok' := fun k_ => P k_ ∨ w2.heap.size ≤ k_) hs8 (fun k_ hk => hk.elim (fun h_ => h_.1) (fun h_ => h_.elim (fun h_ => .inr (Nat.le_trans HK.out.1 (Kd.R_base HR5.out k_ h_.symm))) (fun h_ => .inr (Nat.le_trans HK.out.1 (Nat.le_trans HBL.out.size h_))))))
            have HK8 := Aside0.mk (Kept.then_ (Kept.below HK.out HBL.out) hk8 (fun k_ hk => hk.1))
            have HB8 := Aside0.mk hb8
            have HF8 := Aside0.mk (Kd.F_kept H22.out HK8.out HP2.out)
            clear hs8 hb8 hk8 HO HK HB3 HBL hHeld HF1 HF2 HR5 HR6
            refine hK.out _ _ (impl_slides.cell HF8.out HR4_.out.1 HR4_.out.2 HXX.out) (fun hHeld => ?_)
            clear hK K
            refine norm_ (a' := ?_) ?_ ?_
            rotate_left
            · show Act.put _ (some 42) _ = _
              simp only [Act.put, List.setIfInBounds_toArray, List.set_cons_zero, List.set_cons_succ, i64_w, i32_w]
              rfl
            refine pure_ (i := 14) (N := some 3) (v := ?_) (a' := ?_) #[true, true, true, true, true, true, true, true, true, true, true, true, true, true, true] rfl rfl (any_of HT_.out (by kernel_rfl)) (fun _ _ _ h => h) (Or.inl ⟨by rfl, ?_⟩) ?_ ?_
            rotate_left
            · intro w'
              go_simp
              with_reducible rfl
            rotate_left
            · simp only [Act.put, List.setIfInBounds_toArray, List.set_cons_zero, List.set_cons_succ, i64_w, i32_w]
              rfl
            refine done_ (done_of HT_.out (by kernel_rfl)) ?_
            try go_wp2
            go_roundg k1
            case measure => omega
            case rel => exact ⟨i + 1, ys1, (by have h_ := HMX.out; have h2_ := HI.out; first | rfl | (simp; done) | (simp [wrap64]; omega)), ⟨by have := HI.out; omega⟩, HT, HO8, HK8, HB8⟩
          · refine value_ (w1 := w1.alloc (.cells #[.int .i64 x] 3)) (v := .slice (some ⟨w1.heap.size, 0, none⟩) 1 1) (by rfl) rfl ?_ ?_
            · go_simp
            have hb := below_alloc (Below.refl w1.heap.size w1) (.cells #[.int .i64 x] 3 (0, 0))
            have BKL := Aside0.mk (blk_new w1 (.cells #[.int .i64 x] 3 (0, 0)))
            have n0_ := Aside0.mk (below_step HBL.out hb)
            clear HBL hHeld hb
            have HBL := n0_
            clear n0_
            obtain ⟨GL, hGL⟩ : ∃ G_, G_ = w1.heap.size := ⟨_, rfl⟩
            rw [← hGL] at BKL ⊢
            clear hGL
            generalize w1.alloc (.cells #[.int .i64 x] 3) = w5 at HBL BKL ⊢
            refine hK.out _ _ (impl_slides.cell (Kd.F_below HF2.out HBL.out) HR4_.out.1 HR4_.out.2 HXX.out) (fun hHeld => ?_)
            clear hK K
            refine norm_ (a' := ?_) ?_ ?_
            rotate_left
            · show Act.put _ (some 35) _ = _
              simp only [Act.put, List.setIfInBounds_toArray, List.set_cons_zero, List.set_cons_succ, i64_w, i32_w]
              rfl
            refine one_ (i := 1) (N := some 30) #[true, true, true, true, true, true, true, false, true, true, false, true, true, false, false] rfl rfl (one_of HT_.out (by kernel_rfl)) (by decide) (fun K hK => ?_)
            refine goes_ Try.func96 (by kernel_rfl) rfl #[.slice A1 l1.length c1] (by rfl) rfl rfl (by (try simp only [List.map_toArray, List.map_cons, List.map_nil]); first | done | rfl) ?_
            refine (slices_Clone_int_int.calls A1 c1 l1 cl _ (Kd.F_now (Kd.F_below HF1.out HBL.out)) HC1.out HCL.out).mono ?_
            rintro e w4 ⟨v4, rfl, hr4, hb⟩
            refine ⟨_, rfl, ?_⟩
            have HR4 := Aside0.mk (Kd.R_lower hr4 HBL.out.size)
            have n0_ := Aside0.mk (below_step HBL.out hb)
            have n1_ := Aside0.mk (blk_below BKL.out hb)
            clear HBL BKL hHeld hr4 hb
            have HBL := n0_
            have BKL := n1_
            clear n0_ n1_
            refine hK.out _ _ (impl_slides.cell (Kd.F_below HF2.out HBL.out) HR4_.out.1 HR4_.out.2 HXX.out) (fun hHeld => ?_)
            clear hK K
            refine norm_ (a' := ?_) ?_ ?_
            rotate_left
            · show Act.put _ (some 30) _ = _
              simp only [Act.put, List.setIfInBounds_toArray, List.set_cons_zero, List.set_cons_succ, i64_w, i32_w]
              rfl
            refine one_ (i := 7) (N := some 36) #[true, true, true, true, true, true, true, true, true, true, false, true, true, false, false] rfl rfl (one_of HT_.out (by kernel_rfl)) (by decide) (fun K hK => ?_)
            refine Kd.R_append_rows_step (Kd.int .i64) (w0 := w1) w1.heap.size (by rfl) (.tmp 30) (.tmp 35) 25 3 (.int .i64 0) 8 rfl Try.underlying25 info3 rfl (by decide) (by omega) v4 cl [x] (some ⟨GL, 0, none⟩) 1 1 (fun _ => True) (fun _ => False) rfl rfl HR4.out (impl_slides.lit_C BKL.out) (fun _ _ h_ => h_) (fun _ h_ => h_.elim) (fun _ _ => trivial) HBL.out HBL.out.size (by have := HCC.out; omega) ?_
            intro v5 w6 ho hb hg hat
            rw [← NY.out] at ho
            have HR5 := Aside0.mk ho
            clear HBL HR4 BKL hHeld
            have HBL := Aside0.mk hb
            clear ho hb hg hat
            obtain ⟨A5, c5, e5⟩ := Kd.R_slice HR5.out
            subst e5
            refine hK.out _ _ (impl_slides.cell (Kd.F_below HF2.out HBL.out) HR4_.out.1 HR4_.out.2 HXX.out) (fun hHeld => ?_)
            clear hK K
            refine norm_ (a' := ?_) ?_ ?_
            rotate_left
            · show Act.put _ (some 36) _ = _
              simp only [Act.put, List.setIfInBounds_toArray, List.set_cons_zero, List.set_cons_succ, i64_w, i32_w]
              rfl
            refine one_ (i := 10) (N := some 39) #[true, true, true, true, true, true, true, true, true, true, true, true, true, false, false] rfl rfl (one_of HT_.out (by kernel_rfl)) (by decide) (fun K hK => ?_)
            refine goes_ Try.func97 (by kernel_rfl) rfl #[.slice (some ad2) l2.length c2, .int .i64 a] (by rfl) rfl rfl (by (try simp only [List.map_toArray, List.map_cons, List.map_nil]); first | done | rfl) ?_
            refine (impl_without.calls (some ad2) c2 l2 a q _ (Kd.F_now (Kd.F_below HF2.out HBL.out)) HC2.out HQ.out).mono ?_
            rintro e w7 ⟨v6, rfl, hr6, hb⟩
            refine ⟨_, rfl, ?_⟩
            have HR6 := Aside0.mk (Kd.R_lower hr6 HBL.out.size)
            have n0_ := Aside0.mk (below_step HBL.out hb)
            have n1_ := Aside0.mk (Kd.R_below HR5.out hb)
            clear HBL HR5 hHeld hr6 hb
            have HBL := n0_
            have HR5 := n1_
            clear n0_ n1_
            obtain ⟨A6, c6, e6⟩ := Kd.R_slice HR6.out
            subst e6
            refine hK.out _ _ (impl_slides.cell (Kd.F_below HF2.out HBL.out) HR4_.out.1 HR4_.out.2 HXX.out) (fun hHeld => ?_)
            clear hK K
            refine norm_ (a' := ?_) ?_ ?_
            rotate_left
            · show Act.put _ (some 39) _ = _
              simp only [Act.put, List.setIfInBounds_toArray, List.set_cons_zero, List.set_cons_succ, i64_w, i32_w]
              rfl
            refine one_ (i := 13) (N := some 42) #[true, true, true, true, true, true, true, true, true, true, true, true, true, true, false] rfl rfl (one_of HT_.out (by kernel_rfl)) (by decide) (fun K hK => ?_)
            refine goes_ Try.func80 (by kernel_rfl) rfl #[.slice A5 y5.length c5, .slice A6 q.length c6, .int .i64 a2, .slice Ao xs1.length co] (by rfl) rfl rfl (by (try simp only [List.map_toArray, List.map_cons, List.map_nil]); first | done | rfl) ?_
            refine (impl_slides.calls_g a2 d (fun k_ => some k_ = (Value.slice A5 y5.length c5).ownBlock) A5 c5 y5 (fun k_ => some k_ = (Value.slice A6 q.length c6).ownBlock) A6 c6 q (fun k_ => (P k_ ∨ w2.heap.size ≤ k_) ∧ k_ < w1.heap.size) (.slice Ao xs1.length co) xs1 ys1 w0 w7 (below_step HB3.out HBL.out) (Kd.R_lower (Kd.R_tight rfl HR5.out) HB3.out.size) (fun k_ hk hp => by have h1_ := Kd.R_base HR5.out k_ hk.symm; have h2_ := hp.2; omega) (Kd.R_F (Kd.R_tight rfl HR6.out)) (Kd.R_reads' HR6.out).2.1 (fun k_ hk hp => by have h1_ := Kd.R_base HR6.out k_ hk.symm; have h2_ := hp.2; omega) (Kd.S_below (Kd.S_mono (Kd.S_bound HO.out) (fun k_ hk => ⟨hk.1, hk.2.2.1⟩)) HBL.out) (fun k_ hk => Nat.lt_of_lt_of_le hk.2 HBL.out.size) HG.out).mono ?_
            rintro e w8 ⟨v8, rfl, hs8, hb8, hk8⟩
            refine ⟨_, rfl, ?_⟩
            have HSZ1 := Aside0.mk HK.out.1
            have HO8 := Aside0.mk (Kd.S_mono (ok' := fun k_ => P k_ ∨ w2.heap.size ≤ k_) hs8 (fun k_ hk => hk.elim (fun h_ => h_.1) (fun h_ => h_.elim (fun h_ => .inr (Nat.le_trans HK.out.1 (Kd.R_base HR5.out k_ h_.symm))) (fun h_ => .inr (Nat.le_trans HK.out.1 (Nat.le_trans HBL.out.size h_))))))
            have HK8 := Aside0.mk (Kept.then_ (Kept.below HK.out HBL.out) hk8 (fun k_ hk => hk.1))
            have HB8 := Aside0.mk hb8
            have HF8 := Aside0.mk (Kd.F_kept H22.out HK8.out HP2.out)
            clear hs8 hb8 hk8 HO HK HB3 HBL hHeld HF1 HF2 HR5 HR6
            refine hK.out _ _ (impl_slides.cell HF8.out HR4_.out.1 HR4_.out.2 HXX.out) (fun hHeld => ?_)
            clear hK K
            refine norm_ (a' := ?_) ?_ ?_
            rotate_left
            · show Act.put _ (some 42) _ = _
              simp only [Act.put, List.setIfInBounds_toArray, List.set_cons_zero, List.set_cons_succ, i64_w, i32_w]
              rfl
            refine pure_ (i := 14) (N := some 3) (v := ?_) (a' := ?_) #[true, true, true, true, true, true, true, true, true, true, true, true, true, true, true] rfl rfl (any_of HT_.out (by kernel_rfl)) (fun _ _ _ h => h) (Or.inl ⟨by rfl, ?_⟩) ?_ ?_
            rotate_left
            · intro w'
              go_simp
              with_reducible rfl
            rotate_left
            · simp only [Act.put, List.setIfInBounds_toArray, List.set_cons_zero, List.set_cons_succ, i64_w, i32_w]
              rfl
            refine done_ (done_of HT_.out (by kernel_rfl)) ?_
            try go_wp2
            go_roundg k1
            case measure => omega
            case rel => exact ⟨i + 1, ys1, (by have h_ := HMX.out; have h2_ := HI.out; first | rfl | (simp; done) | (simp [wrap64]; omega)), ⟨by have := HI.out; omega⟩, HT, HO8, HK8, HB8⟩
theorem impl_slides.callsN (A1 : Option Addr) (c1 : Nat) (l1 : List Int) (a2 : Int) (r : List (List Int)) (w : World) (hr1 : Kd.C (Kd.int .i64) w A1 l1.length l1) (hc1 : l1.length ≤ c1) (h : impl_slides.f [] l1 a2 [] = some r) :
    Calls Try.prog 80 #[.slice none 0 0, .slice A1 l1.length c1, .int .i64 a2, .slice none 0 0] w fun e w' => ∃ v0_ : Value, e = .returned v0_ ∧ Kd.S (Kd.slice 3 (Kd.int .i64)) 25 w' w.heap.size (fun k_ => w.heap.size ≤ k_) v0_ r ∧ Below w.heap.size w w' :=
  (impl_slides.calls_g a2 (l1.length + 1) (fun _ => False) none 0 [] (fun k_ => k_ < w.heap.size) A1 c1 l1 (fun _ => False) (.slice none 0 0) [] r w w (Below.refl _ _) (Kd.R_nil _ _ _ _ _) (fun _ h_ => h_.elim) (Kd.C_F (Kd.heap_int _) hr1) hc1 (fun _ _ h_ => h_) (Kd.S_nil _ _ _ _ _) (fun _ h_ => h_.elim) h).mono (fun e w' hh => by
    obtain ⟨v0_, rfl, hs, hb, _⟩ := hh
    exact ⟨v0_, rfl, Kd.S_mono hs (fun k_ hk => hk.elim (fun h_ => h_.elim) (fun h_ => h_.elim (fun h_ => h_.elim) id)), hb⟩)
theorem impl_slides.calls (A0 : Option Addr) (c0 : Nat) (l0 : List Int) (A1 : Option Addr) (c1 : Nat) (l1 : List Int) (a2 : Int) (A3 : Option Addr) (c3 : Nat) (l3 : List (List Int)) (r : List (List Int)) (w : World) (hr0 : False) (h : impl_slides.f l0 l1 a2 l3 = some r) :
    Calls Try.prog 80 #[.slice A0 l0.length c0, .slice A1 l1.length c1, .int .i64 a2, .slice A3 l3.length c3] w fun e w' => ∃ v0_ : Value, e = .returned v0_ ∧ Kd.R (Kd.slice 3 (Kd.int .i64)) 25 w' w.heap.size (fun _ => True) v0_ r ∧ Below w.heap.size w w' := hr0.elim

/-! ### impl_SlideClass: function 31 -/
def impl_SlideClass.f (a0 : Int) (l0 : List Int) : Option (List S31 × Bool) := (impl_isLadder.f a0 l0).bind fun b => if b = true then ((impl_slides.f ([] : List Int) l0 400 ([] : List (List Int))).bind fun L => if L.length ≤ 100000 then (if 400 < (L.length : Int) then some ([], false) else some (L.map fun x => (⟨a0, x⟩ : S31), true)) else none) else some ([], false)
/-- A list of rows of one's own, its cells and its blocks' marks named. -/
structure impl_SlideClass.Lst (w : World) (base : Nat) (ok : Nat → Prop) (v : Value) (inner : List Value) (f : Nat → Nat) (L : List (List Int)) : Prop where
  hd : ∀ k, v.ownBlock = some k → ok k
  own : w.ownsRow base 25 1 v L.length inner
  rows : ∀ (j : Nat) (x : List Int) (u : Value), L[j]? = some x → inner[j]? = some u → (Kd.int .i64).R 3 w base (fun k => (ok k ∧ some k ≠ v.ownBlock) ∧ f k = j) u x
theorem impl_SlideClass.Lst.of_S {w : World} {base : Nat} {ok : Nat → Prop} {v : Value} {L : List (List Int)} (h : Kd.S (Kd.slice 3 (Kd.int .i64)) 25 w base ok v L) : ∃ inner f, impl_SlideClass.Lst w base ok v inner f L := by
  obtain ⟨f, h0, inner, ho, hr⟩ := h
  rw [List.length_zipIdx] at ho
  refine ⟨inner, f, h0, ho, fun j x u hx hu => ?_⟩
  obtain ⟨v', he, hR⟩ := hr.2 j (x, j) (Kd.zip_at hx)
  obtain ⟨hj, rfl⟩ := List.getElem?_eq_some_iff.1 hu
  have e2 : (inner.drop (j * 1)).take 1 = [inner[j]] := by rw [Nat.mul_one, List.drop_eq_getElem_cons hj]; rfl
  have e3 := he.symm.trans e2
  obtain rfl := (List.cons.inj e3).1
  exact hR
theorem impl_SlideClass.Lst.step {w w1 : World} {base : Nat} {ok : Nat → Prop} {v : Value} {inner : List Value} {f : Nat → Nat} {L : List (List Int)} (h : impl_SlideClass.Lst w base ok v inner f L) (hm : ∀ k, ok k → k < w.heap.size → w1.heap[k]? = w.heap[k]?) : impl_SlideClass.Lst w1 base ok v inner f L :=
  ⟨h.hd, own_move h.own (fun k hk => hm k (h.hd k hk) (own_lt h.own k hk)), fun j x u hx hu => Kd.R_step (h.rows j x u hx hu) (fun k hk hlt => hm k hk.1.1 hlt)⟩
theorem impl_SlideClass.Lst.more {w : World} {base : Nat} {ok ok' : Nat → Prop} {v : Value} {inner : List Value} {f : Nat → Nat} {L : List (List Int)} (h : impl_SlideClass.Lst w base ok v inner f L) (hok : ∀ k, ok k → k < w.heap.size → ok' k) : impl_SlideClass.Lst w base ok' v inner f L :=
  ⟨fun k hk => hok k (h.hd k hk) (own_lt h.own k hk), h.own, fun j x u hx hu => Kd.R_mono (Kd.R_bound (h.rows j x u hx hu)) (fun k hk => ⟨⟨hok k hk.1.1.1 hk.2.2.1, hk.1.1.2⟩, hk.1.2⟩)⟩
theorem impl_SlideClass.Lst.elder {w w1 : World} {base : Nat} {ok : Nat → Prop} {v u : Value} {inner : List Value} {f : Nat → Nat} {L : List (List Int)} (h : impl_SlideClass.Lst w base ok v inner f L) (hbase : ∀ k, u.ownBlock = some k → w.heap.size ≤ k) (hb : Below w.heap.size w w1) : impl_SlideClass.Lst w1 base (fun k => ok k ∧ some k ≠ u.ownBlock) v inner f L :=
  (h.more (ok' := fun k => ok k ∧ some k ≠ u.ownBlock) (fun k hk hlt => ⟨hk, fun e => by have := hbase k e.symm; omega⟩)).step (fun k hk hlt => hb.block k hlt)
theorem impl_SlideClass.Lst.after {w w1 : World} {base : Nat} {ok : Nat → Prop} {v u u1 : Value} {inner : List Value} {f : Nat → Nat} {L : List (List Int)} (h : impl_SlideClass.Lst w base (fun k => ok k ∧ some k ≠ u.ownBlock) v inner f L) (hg : w.grownBy w1 u.ownBlock) (hat : u1.ownBlock = u.ownBlock ∨ ∃ b, u1.ownBlock = some b ∧ w.heap.size ≤ b) : impl_SlideClass.Lst w1 base (fun k => ok k ∧ some k ≠ u1.ownBlock) v inner f L := by
  obtain ⟨_, _, _, _, hblk⟩ := hg
  have h2 := (h.more (ok' := fun k => (ok k ∧ some k ≠ u1.ownBlock) ∧ some k ≠ u.ownBlock) (fun k hk hlt => ⟨⟨hk.1, fun e => by
    rcases hat with e2 | ⟨b, e2, hb⟩
    · exact hk.2 (e.trans e2)
    · rw [e2] at e; cases e; omega⟩, hk.2⟩)).step (fun k hk hlt => hblk k hlt hk.2)
  exact ⟨fun k hk => (h2.hd k hk).1, h2.own, fun j x u hx hu => Kd.R_mono (h2.rows j x u hx hu) (fun k hk => ⟨⟨hk.1.1.1, hk.1.2⟩, hk.2⟩)⟩
theorem impl_SlideClass.Lst.slice {w : World} {base : Nat} {ok : Nat → Prop} {v : Value} {inner : List Value} {f : Nat → Nat} {L : List (List Int)} (h : impl_SlideClass.Lst w base ok v inner f L) : ∃ A c, v = .slice A L.length c := by
  rcases h.own.2 with ⟨hv, h0⟩ | ⟨g, cap, cur, hv, _⟩
  · exact ⟨none, 0, by rw [hv, h0]⟩
  · exact ⟨_, cap, hv⟩
theorem impl_SlideClass.Lst.at {w : World} {base : Nat} {ok : Nat → Prop} {A : Option Addr} {n c : Nat} {inner : List Value} {f : Nat → Nat} {L : List (List Int)} (h : impl_SlideClass.Lst w base ok (.slice A n c) inner f L) (i : Nat) (hi : i < L.length) :
    ∃ ad A7 x7 c7, A = some ad ∧ L[i]? = some x7 ∧ inner[i]? = some (.slice A7 x7.length c7) ∧ w.cell? (ad.add i) = some (.slice A7 x7.length c7) := by
  have hlen : inner.length = L.length := by have := h.own.1; omega
  obtain ⟨A7, c7, e7⟩ := Kd.R_slice (h.rows i L[i] inner[i] (List.getElem?_eq_getElem hi) (List.getElem?_eq_getElem (by omega)))
  rcases h.own.2 with ⟨hv, h0⟩ | ⟨g, cap, cur, hv, hb, hh, hnc, hcm, hcs, ht⟩
  · omega
  · injection hv with h1 h2 h3
    refine ⟨⟨g, 0, none⟩, A7, L[i], c7, h1, List.getElem?_eq_getElem hi, by rw [List.getElem?_eq_getElem (by omega), e7], ?_⟩
    have ea : (⟨g, 0, none⟩ : Addr).add i = ⟨g, i, none⟩ := by simp [Addr.add]; omega
    rw [ea, cell_of_row w g _ cur 25 (0, 0) hh, ← Array.getElem?_toList, ← e7]
    have h4 : (cur.toList.take (L.length * 1))[i]? = inner[i]? := by rw [ht]
    rw [List.getElem?_take, if_pos (by omega), List.getElem?_eq_getElem (show i < inner.length by omega)] at h4
    exact h4
theorem impl_SlideClass.fresh {w w1 : World} {gb : Nat} {o : Obj} (hk : w1.heap[gb]? = some o) (hB : Below w.heap.size w w1) : w1.heap.size ≤ w1.heap.size → ∀ k, w1.heap.size ≤ k → w.heap.size ≤ k ∧ k ≠ gb := fun _ k h => ⟨Nat.le_trans hB.size h, fun e => by
  have := blk_lt hk
  omega⟩
theorem impl_SlideClass.whole {w : World} {base : Nat} {ok : Nat → Prop} {vL v5 : Value} {inner : List Value} {f : Nat → Nat} {L : List (List Int)} {a0 : Int} (h : impl_SlideClass.Lst w base (fun k => ok k ∧ some k ≠ v5.ownBlock) vL inner f L) (hO : (Kd.raw 2).R 31 w base ok v5 ((inner.take L.length).map fun u => [.int .i64 a0, u])) : Kd.S k31 31 w base ok v5 (L.map fun x => (⟨a0, x⟩ : S31)) := by
  have hlen : inner.length = L.length := by have := h.own.1; omega
  obtain ⟨h0, inner2, ho, hr⟩ := hO
  have hl2 : ((inner.take L.length).map fun u => [Value.int .i64 a0, u]).length = (L.map fun x => (⟨a0, x⟩ : S31)).zipIdx.length := by rw [List.length_map, List.length_take, List.length_zipIdx, List.length_map]; omega
  rw [hl2] at ho
  refine ⟨f, h0, inner2, ho, by have := hr.1; rw [hl2] at this; exact this, fun j p hp => ?_⟩
  rw [List.getElem?_zipIdx, Nat.zero_add, List.getElem?_map] at hp
  obtain ⟨q, hq, rfl⟩ := Option.map_eq_some_iff.1 hp
  obtain ⟨x, hx, rfl⟩ := Option.map_eq_some_iff.1 hq
  have hj := (List.getElem?_eq_some_iff.1 hx).1
  have hi : inner[j]? = some inner[j] := List.getElem?_eq_getElem (by omega)
  have h3 := hr.2 j [.int .i64 a0, inner[j]] (by rw [List.getElem?_map, List.getElem?_take, if_pos hj, hi]; rfl)
  have h4 : (inner2.drop (j * 2)).take 2 = [.int .i64 a0, inner[j]] := h3.1
  show k31.M w base _ (⟨a0, x⟩ : S31) ((inner2.drop (j * 2)).take 2)
  rw [h4]
  exact k31_mkM _ _ _ _ (Kd.R_mono (h.rows j x _ hx hi) (fun k hk => ⟨⟨hk.1.1.1, hk.1.1.2⟩, hk.2⟩))
set_option maxHeartbeats 8000000 in
set_option maxRecDepth 100000 in
theorem impl_SlideClass.calls (a0 : Int) (A0 : Option Addr) (c0 : Nat) (l0 : List Int) (r1 : List S31) (r2 : Bool) (w : World) (hr0 : Kd.C (Kd.int .i64) w A0 l0.length l0) (hc0 : l0.length ≤ c0) (h : impl_SlideClass.f a0 l0 = some (r1, r2)) :
    Calls Try.prog 31 #[.agg #[.int .i64 a0, .slice A0 l0.length c0]] w fun e w' => ∃ v0_ : Value, e = .returned (.tuple #[v0_, .bool r2]) ∧ Kd.S k31 31 w' w.heap.size (fun k_ => w.heap.size ≤ k_) v0_ r1 ∧ Below w.heap.size w w' := by
  have hu := Try.underlying31
  have HR0 := Aside0.mk hr0
  have HC0 := Aside0.mk hc0
  have HB := Aside0.mk (Below.refl w.heap.size w)
  obtain ⟨b, hi, h⟩ := Option.bind_eq_some_iff.1 h
  have HI := Aside0.mk hi
  clear hr0 hc0 hi
  cases b with
  | false =>
    rw [if_neg Bool.false_ne_true] at h
    obtain ⟨rfl, rfl⟩ := Prod.mk.inj (Option.some.inj h)
    go_enter Try.func31, Try.ntmps31
    go_wp2_with (first | ((with_reducible refine gate_dst (N := 1) rfl ?_); refine box_event ?hg (N := 1) ?hd (cs := #[.int .i64 a0, .slice A0 l0.length c0]) (t := 31) ?hr ?_; (case hd => rfl); (case hg => rfl); (case hr => first | (go_simp; done) | (go_simp; rfl)); intro gb hg w6 hbox hb; have n0_ := Aside0.mk (below_step (by repeat (first | (with_reducible first | exact HB.out | apply below_alloc | apply pw_below_drewN | apply below_drew1) | exact HB.out)) hb); have n1_ := Aside0.mk hbox; have n2_ := Aside0.mk ((by rw [hg]; exact (below_size (by repeat (first | (with_reducible first | exact HB.out | apply below_alloc | apply pw_below_drewN | apply below_drew1) | exact HB.out)))) : w.heap.size ≤ gb); clear HB; have HB := n0_; have BK := n1_; have GE := n2_; clear n0_ n1_ n2_; clear hb hbox hg; have hz1 : w6.cell? ⟨gb, 0, none⟩ = some (.int .i64 a0) := (blk_cell BK.out 0).trans rfl; have hz2 : w6.cell? ⟨gb, 1, none⟩ = some (.slice A0 l0.length c0) := (blk_cell BK.out 1).trans rfl) | ((with_reducible refine gate_callee (f := 79) rfl ?_); refine goesL_ (some 9) rfl rfl Try.func79 (by kernel_rfl) rfl #[.agg #[.int .i64 a0, .slice A0 l0.length c0]] rfl (by (try simp only [List.map_toArray, List.map_cons, List.map_nil]); first | done | rfl) ?_; (with_reducible refine (impl_isLadder.calls a0 _ _ l0 false _ ?side1 ?side2 HI.out).mono ?_); (case side1 => repeat (first | exact (Kd.C_below HR0.out HB.out) | (with_reducible refine Kd.C_alloc ?_ _) | (with_reducible refine Kd.C_drewN ?_ _) | (with_reducible refine Kd.C_drew ?_))); (case side2 => exact HC0.out); rintro e w8 ⟨rfl, hb⟩; refine ⟨_, rfl, ?_⟩; have n0_ := Aside0.mk (blk_below BK.out hb); have n1_ := Aside0.mk (below_step (by repeat (first | (with_reducible first | exact HB.out | apply below_alloc | apply pw_below_drewN | apply below_drew1) | exact HB.out)) hb); clear BK HB; have BK := n0_; have HB := n1_; clear n0_ n1_ hb; have hz3 : w8.cell? ⟨gb, 0, none⟩ = some (.int .i64 a0) := (blk_cell BK.out 0).trans rfl; have hz4 : w8.cell? ⟨gb, 1, none⟩ = some (.slice A0 l0.length c0) := (blk_cell BK.out 1).trans rfl))
    go_ret2
    exact ⟨_, rfl, Kd.S_nil _ _ _ _ _, HB.out⟩
  | true =>
    rw [if_pos rfl] at h
    obtain ⟨L, hs, h⟩ := Option.bind_eq_some_iff.1 h
    by_cases hl : L.length ≤ 100000
    case neg => rw [if_neg hl] at h; cases h
    rw [if_pos hl] at h
    have HLL := Aside0.mk hl
    have HS := Aside0.mk hs
    clear hl hs
    by_cases c5 : 400 < (L.length : Int)
    · rw [if_pos c5] at h
      obtain ⟨rfl, rfl⟩ := Prod.mk.inj (Option.some.inj h)
      have c5b0 : decide (400 < (L.length : Int)) = true := decide_eq_true c5
      have c5b1 : decide (400 < L.length) = true := decide_eq_true (by omega)
      clear c5 h
      go_enter Try.func31, Try.ntmps31
      go_wp2_with (first | ((with_reducible refine gate_dst (N := 1) rfl ?_); refine box_event ?hg (N := 1) ?hd (cs := #[.int .i64 a0, .slice A0 l0.length c0]) (t := 31) ?hr ?_; (case hd => rfl); (case hg => rfl); (case hr => first | (go_simp; done) | (go_simp; rfl)); intro gb hg w6 hbox hb; have n0_ := Aside0.mk (below_step (by repeat (first | (with_reducible first | exact HB.out | apply below_alloc | apply pw_below_drewN | apply below_drew1) | exact HB.out)) hb); have n1_ := Aside0.mk hbox; have n2_ := Aside0.mk ((by rw [hg]; exact (below_size (by repeat (first | (with_reducible first | exact HB.out | apply below_alloc | apply pw_below_drewN | apply below_drew1) | exact HB.out)))) : w.heap.size ≤ gb); clear HB; have HB := n0_; have BK := n1_; have GE := n2_; clear n0_ n1_ n2_; clear hb hbox hg; have hz1 : w6.cell? ⟨gb, 0, none⟩ = some (.int .i64 a0) := (blk_cell BK.out 0).trans rfl; have hz2 : w6.cell? ⟨gb, 1, none⟩ = some (.slice A0 l0.length c0) := (blk_cell BK.out 1).trans rfl) | ((with_reducible refine gate_callee (f := 79) rfl ?_); refine goesL_ (some 9) rfl rfl Try.func79 (by kernel_rfl) rfl #[.agg #[.int .i64 a0, .slice A0 l0.length c0]] rfl (by (try simp only [List.map_toArray, List.map_cons, List.map_nil]); first | done | rfl) ?_; (with_reducible refine (impl_isLadder.calls a0 _ _ l0 true _ ?side1 ?side2 HI.out).mono ?_); (case side1 => repeat (first | exact (Kd.C_below HR0.out HB.out) | (with_reducible refine Kd.C_alloc ?_ _) | (with_reducible refine Kd.C_drewN ?_ _) | (with_reducible refine Kd.C_drew ?_))); (case side2 => exact HC0.out); rintro e w8 ⟨rfl, hb⟩; refine ⟨_, rfl, ?_⟩; have n0_ := Aside0.mk (blk_below BK.out hb); have n1_ := Aside0.mk (below_step (by repeat (first | (with_reducible first | exact HB.out | apply below_alloc | apply pw_below_drewN | apply below_drew1) | exact HB.out)) hb); clear BK HB; have BK := n0_; have HB := n1_; clear n0_ n1_ hb; have hz3 : w8.cell? ⟨gb, 0, none⟩ = some (.int .i64 a0) := (blk_cell BK.out 0).trans rfl; have hz4 : w8.cell? ⟨gb, 1, none⟩ = some (.slice A0 l0.length c0) := (blk_cell BK.out 1).trans rfl) | ((with_reducible refine gate_callee (f := 80) rfl ?_); refine goesL_ (some 13) rfl rfl Try.func80 (by kernel_rfl) rfl #[.slice none 0 0, .slice A0 l0.length c0, .int .i64 400, .slice none 0 0] rfl (by (try simp only [List.map_toArray, List.map_cons, List.map_nil]); first | done | rfl) ?_; (refine (impl_slides.callsN A0 c0 l0 400 L _ ?side1 HC0.out HS.out).mono ?_); (case side1 => repeat (first | exact (Kd.C_below HR0.out HB.out) | (with_reducible refine Kd.C_alloc ?_ _) | (with_reducible refine Kd.C_drewN ?_ _) | (with_reducible refine Kd.C_drew ?_))); rintro e w10 ⟨v12, rfl, ho0, hb⟩; refine ⟨_, rfl, ?_⟩; have n0_ := Aside0.mk (impl_SlideClass.Lst.of_S (Kd.S_lower (Kd.S_mono (ok' := fun k_ => w.heap.size ≤ k_ ∧ k_ ≠ gb) ho0 (fun k_ hk_ => ⟨Nat.le_trans (below_size (by repeat (first | (with_reducible first | exact HB.out | apply below_alloc | apply pw_below_drewN | apply below_drew1) | exact HB.out))) hk_, fun e_ => by have h1_ := blk_lt (by (with_reducible repeat (first | refine blk_drewN ?_ _ | refine blk_drew ?_ | refine blk_alloc ?_ _)); exact BK.out); rw [e_] at hk_; exact absurd h1_ (Nat.not_lt.mpr hk_)⟩)) (below_size (by repeat (first | (with_reducible first | exact HB.out | apply below_alloc | apply pw_below_drewN | apply below_drew1) | exact HB.out))))); have n1_ := Aside0.mk (blk_below BK.out hb); have n2_ := Aside0.mk (below_step (by repeat (first | (with_reducible first | exact HB.out | apply below_alloc | apply pw_below_drewN | apply below_drew1) | exact HB.out)) hb); clear BK HB; have BK := n1_; have HB := n2_; clear n1_ n2_ hb ho0; obtain ⟨inner, f_, hl_⟩ := n0_.out; have HLS := Aside0.mk hl_; clear hl_ n0_; obtain ⟨AL, cL, eL⟩ := HLS.out.slice; subst eL) | ((with_reducible refine gate_dst (N := 14) rfl ?_); refine Kd.R_lit (Kd.raw 2) _ 31 ?hg (N := 14) ?hd (xs := ([] : List (List Value))) (inner := []) (ok := fun k_ => w.heap.size ≤ k_ ∧ k_ ≠ gb) (okp := fun k_ => w.heap.size ≤ k_ ∧ k_ ≠ gb) ?hr ?hp (fun _ hk => hk) ?hf (Below.refl _ _) (Nat.le_refl _) (by simp) ?_; (case hd => rfl); (case hg => rfl); (case hr => first | (go_simp; done) | (go_simp; rfl)); (case hp => exact (Reps.none _ _)); (case hf => exact impl_SlideClass.fresh BK.out HB.out (Nat.le_refl _) _ (Nat.le_refl _)); intro v15 w11 ho12 hb hg_ hnew_; (try simp only [Int.reduceToNat] at ho12); have n0_ := Aside0.mk (Kd.R_lower ho12 (below_size (by repeat (first | (with_reducible first | exact HB.out | apply below_alloc | apply pw_below_drewN | apply below_drew1) | exact HB.out)))); have n1_ := Aside0.mk (blk_below BK.out hb); have n2_ := Aside0.mk (below_step (by repeat (first | (with_reducible first | exact HB.out | apply below_alloc | apply pw_below_drewN | apply below_drew1) | exact HB.out)) hb); have n3_ := Aside0.mk (impl_SlideClass.Lst.elder HLS.out (Kd.R_base ho12) hb); clear BK HB HLS; have HO := n0_; have BK := n1_; have HB := n2_; have HLS := n3_; clear n0_ n1_ n2_ n3_ hb ho12 hg_ hnew_))
      go_ret2
      exact ⟨_, rfl, Kd.S_nil _ _ _ _ _, HB.out⟩
    · rw [if_neg c5] at h
      obtain ⟨rfl, rfl⟩ := Prod.mk.inj (Option.some.inj h)
      have c5b0 : decide (400 < (L.length : Int)) = false := decide_eq_false c5
      have c5b1 : decide (400 < L.length) = false := decide_eq_false (by omega)
      clear c5 h
      go_enter Try.func31, Try.ntmps31
      go_wp2_with (first | ((with_reducible refine gate_dst (N := 1) rfl ?_); refine box_event ?hg (N := 1) ?hd (cs := #[.int .i64 a0, .slice A0 l0.length c0]) (t := 31) ?hr ?_; (case hd => rfl); (case hg => rfl); (case hr => first | (go_simp; done) | (go_simp; rfl)); intro gb hg w6 hbox hb; have n0_ := Aside0.mk (below_step (by repeat (first | (with_reducible first | exact HB.out | apply below_alloc | apply pw_below_drewN | apply below_drew1) | exact HB.out)) hb); have n1_ := Aside0.mk hbox; have n2_ := Aside0.mk ((by rw [hg]; exact (below_size (by repeat (first | (with_reducible first | exact HB.out | apply below_alloc | apply pw_below_drewN | apply below_drew1) | exact HB.out)))) : w.heap.size ≤ gb); clear HB; have HB := n0_; have BK := n1_; have GE := n2_; clear n0_ n1_ n2_; clear hb hbox hg; have hz1 : w6.cell? ⟨gb, 0, none⟩ = some (.int .i64 a0) := (blk_cell BK.out 0).trans rfl; have hz2 : w6.cell? ⟨gb, 1, none⟩ = some (.slice A0 l0.length c0) := (blk_cell BK.out 1).trans rfl) | ((with_reducible refine gate_callee (f := 79) rfl ?_); refine goesL_ (some 9) rfl rfl Try.func79 (by kernel_rfl) rfl #[.agg #[.int .i64 a0, .slice A0 l0.length c0]] rfl (by (try simp only [List.map_toArray, List.map_cons, List.map_nil]); first | done | rfl) ?_; (with_reducible refine (impl_isLadder.calls a0 _ _ l0 true _ ?side1 ?side2 HI.out).mono ?_); (case side1 => repeat (first | exact (Kd.C_below HR0.out HB.out) | (with_reducible refine Kd.C_alloc ?_ _) | (with_reducible refine Kd.C_drewN ?_ _) | (with_reducible refine Kd.C_drew ?_))); (case side2 => exact HC0.out); rintro e w8 ⟨rfl, hb⟩; refine ⟨_, rfl, ?_⟩; have n0_ := Aside0.mk (blk_below BK.out hb); have n1_ := Aside0.mk (below_step (by repeat (first | (with_reducible first | exact HB.out | apply below_alloc | apply pw_below_drewN | apply below_drew1) | exact HB.out)) hb); clear BK HB; have BK := n0_; have HB := n1_; clear n0_ n1_ hb; have hz3 : w8.cell? ⟨gb, 0, none⟩ = some (.int .i64 a0) := (blk_cell BK.out 0).trans rfl; have hz4 : w8.cell? ⟨gb, 1, none⟩ = some (.slice A0 l0.length c0) := (blk_cell BK.out 1).trans rfl) | ((with_reducible refine gate_callee (f := 80) rfl ?_); refine goesL_ (some 13) rfl rfl Try.func80 (by kernel_rfl) rfl #[.slice none 0 0, .slice A0 l0.length c0, .int .i64 400, .slice none 0 0] rfl (by (try simp only [List.map_toArray, List.map_cons, List.map_nil]); first | done | rfl) ?_; (refine (impl_slides.callsN A0 c0 l0 400 L _ ?side1 HC0.out HS.out).mono ?_); (case side1 => repeat (first | exact (Kd.C_below HR0.out HB.out) | (with_reducible refine Kd.C_alloc ?_ _) | (with_reducible refine Kd.C_drewN ?_ _) | (with_reducible refine Kd.C_drew ?_))); rintro e w10 ⟨v12, rfl, ho0, hb⟩; refine ⟨_, rfl, ?_⟩; have n0_ := Aside0.mk (impl_SlideClass.Lst.of_S (Kd.S_lower (Kd.S_mono (ok' := fun k_ => w.heap.size ≤ k_ ∧ k_ ≠ gb) ho0 (fun k_ hk_ => ⟨Nat.le_trans (below_size (by repeat (first | (with_reducible first | exact HB.out | apply below_alloc | apply pw_below_drewN | apply below_drew1) | exact HB.out))) hk_, fun e_ => by have h1_ := blk_lt (by (with_reducible repeat (first | refine blk_drewN ?_ _ | refine blk_drew ?_ | refine blk_alloc ?_ _)); exact BK.out); rw [e_] at hk_; exact absurd h1_ (Nat.not_lt.mpr hk_)⟩)) (below_size (by repeat (first | (with_reducible first | exact HB.out | apply below_alloc | apply pw_below_drewN | apply below_drew1) | exact HB.out))))); have n1_ := Aside0.mk (blk_below BK.out hb); have n2_ := Aside0.mk (below_step (by repeat (first | (with_reducible first | exact HB.out | apply below_alloc | apply pw_below_drewN | apply below_drew1) | exact HB.out)) hb); clear BK HB; have BK := n1_; have HB := n2_; clear n1_ n2_ hb ho0; obtain ⟨inner, f_, hl_⟩ := n0_.out; have HLS := Aside0.mk hl_; clear hl_ n0_; obtain ⟨AL, cL, eL⟩ := HLS.out.slice; subst eL) | ((with_reducible refine gate_dst (N := 14) rfl ?_); refine Kd.R_lit (Kd.raw 2) _ 31 ?hg (N := 14) ?hd (xs := ([] : List (List Value))) (inner := []) (ok := fun k_ => w.heap.size ≤ k_ ∧ k_ ≠ gb) (okp := fun k_ => w.heap.size ≤ k_ ∧ k_ ≠ gb) ?hr ?hp (fun _ hk => hk) ?hf (Below.refl _ _) (Nat.le_refl _) (by simp) ?_; (case hd => rfl); (case hg => rfl); (case hr => first | (go_simp; done) | (go_simp; rfl)); (case hp => exact (Reps.none _ _)); (case hf => exact impl_SlideClass.fresh BK.out HB.out (Nat.le_refl _) _ (Nat.le_refl _)); intro v15 w11 ho12 hb hg_ hnew_; (try simp only [Int.reduceToNat] at ho12); have n0_ := Aside0.mk (Kd.R_lower ho12 (below_size (by repeat (first | (with_reducible first | exact HB.out | apply below_alloc | apply pw_below_drewN | apply below_drew1) | exact HB.out)))); have n1_ := Aside0.mk (blk_below BK.out hb); have n2_ := Aside0.mk (below_step (by repeat (first | (with_reducible first | exact HB.out | apply below_alloc | apply pw_below_drewN | apply below_drew1) | exact HB.out)) hb); have n3_ := Aside0.mk (impl_SlideClass.Lst.elder HLS.out (Kd.R_base ho12) hb); clear BK HB HLS; have HO := n0_; have BK := n1_; have HB := n2_; have HLS := n3_; clear n0_ n1_ n2_ n3_ hb ho12 hg_ hnew_))
      go_loopg [5, 20] L.length (fun kq v5 v20 w' => ∃ i : Nat, v20 = .int .i64 (i : Int) ∧ Aside0 (i + kq = L.length) ∧ Aside0 (impl_SlideClass.Lst w' w.heap.size (fun k_ => (w.heap.size ≤ k_ ∧ k_ ≠ gb) ∧ some k_ ≠ v5.ownBlock) (.slice AL L.length cL) inner f_ L) ∧ Aside0 ((Kd.raw 2).R 31 w' w.heap.size (fun k_ => w.heap.size ≤ k_ ∧ k_ ≠ gb) v5 ((inner.take i).map fun u_ => [.int .i64 a0, u_])) ∧ Aside0 (w'.heap[gb]? = some (.cells #[.int .i64 a0, .slice A0 l0.length c0] 31 (0, 0))) ∧ Aside0 (Below w.heap.size w w'))
      case atStart => exact ⟨0, rfl, ⟨by omega⟩, HLS, ⟨by first | exact HO.out | (rw [List.take_zero]; exact HO.out)⟩, BK, HB⟩
      case round =>
        clear HLS HO BK HB hz1 hz2 hz3 hz4 c5b0 c5b1
        obtain ⟨i, rfl, HI2, HLS, HO, BK, HB⟩ := hrel
        cases gk with
        | zero =>
          have hi : i = L.length := by have := HI2.out; omega
          have ct : decide ((i : Int) < (L.length : Int)) = false := decide_eq_false (by omega)
          have ct2 : decide (i < L.length) = false := decide_eq_false (by omega)
          have HE := Aside0.mk hi
          clear hi
          go_wp2
          go_ret2
          exact ⟨_, rfl, Kd.S_mono (impl_SlideClass.whole HLS.out (by rw [← HE.out]; exact HO.out)) (fun k_ hk => hk.1), HB.out⟩
        | succ k1 =>
          have hi : i < L.length := by have := HI2.out; omega
          obtain ⟨ad7, A7, x7, c7, rfl, hx7, hu7, hcell⟩ := HLS.out.at i hi
          have p9 : ((0 : Int) ≤ (i : Int)) = True := eq_true (by omega)
          have q9 : ((i : Int) < (L.length : Int)) = True := eq_true (by omega)
          have ct : decide ((i : Int) < (L.length : Int)) = true := decide_eq_true (by omega)
          have NI := Aside0.mk (show ((inner.take (i + 1)).map fun u_ => [Value.int .i64 a0, u_]) = ((inner.take i).map fun u_ => [Value.int .i64 a0, u_]) ++ [[.int .i64 a0, .slice A7 x7.length c7]] from by
            obtain ⟨hj, e⟩ := List.getElem?_eq_some_iff.1 hu7
            rw [List.take_succ_eq_append_getElem hj, List.map_append, List.map_singleton, e])
          have hz1 : wr.cell? ⟨gb, 0, none⟩ = some (.int .i64 a0) := (blk_cell BK.out 0).trans rfl
          clear hi hx7 hu7
          go_wp2_with (first | ((with_reducible refine gate_builtin (b := .append) (xs := #[.tmp 24, .tmp 29]) rfl ?_); at_builtin; refine Kd.R_append (Kd.raw 2) (w0 := w) w.heap.size rfl (.tmp 24) (.tmp 29) 38 31 (.agg #[(.int .i64 0), (.slice none 0 0)]) 32 rfl Try.underlying38 info31 rfl (by decide) (by omega) u5 ((inner.take i).map fun u_ => [.int .i64 a0, u_]) [.int .i64 a0, .slice A7 x7.length c7] [.int .i64 a0, .slice A7 x7.length c7] (fun k_ => w.heap.size ≤ k_ ∧ k_ ≠ gb) (fun _ => False) rfl rfl ?aP (fun _ hk => hk.elim) ?aF ?aO ?aB ?aS ?aL ?_; (case aP => exact ⟨rfl, rfl, fun u_ hu_ => by simp at hu_; rcases hu_ with rfl | rfl <;> rfl⟩); (case aF => exact impl_SlideClass.fresh BK.out HB.out (Nat.le_refl _)); (case aO => exact HO.out); (case aB => exact HB.out); (case aS => exact below_size HB.out); (case aL => have := HLL.out; have h2_ := HI2.out; rw [List.length_map, List.length_take]; omega); intro v1 w1 ho hb hg hat; rw [← NI.out] at ho; have n0_ := Aside0.mk (blk_grown BK.out hg (fun e_ => (HO.out.1 _ e_.symm).2 rfl)); have n1_ := Aside0.mk (impl_SlideClass.Lst.after HLS.out hg hat); have HO1 := Aside0.mk ho; have HB1 := Aside0.mk hb; clear BK HLS HO HB; have BK := n0_; have HLS := n1_; clear n0_ n1_ ho hb hg hat))
          go_roundg k1
          case measure => omega
          case rel => exact ⟨i + 1, (by have h_ := HLL.out; have h2_ := HI2.out; first | rfl | (simp; done) | (simp [wrap64]; omega)), ⟨by have := HI2.out; omega⟩, HLS, HO1, BK, HB1⟩

end
end Go.Proofs.Ytnddmmjofpfmfaa.PSc
