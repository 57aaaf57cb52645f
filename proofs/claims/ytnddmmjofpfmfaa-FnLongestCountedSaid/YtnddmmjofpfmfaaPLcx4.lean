-- Written for this claim by a program of this session (myprint.py) over the kit's printer.
import Derived.Test.YtnddmmjofpfmfaaPLcx0
import Derived.Test.YtnddmmjofpfmfaaPLcx2
import Derived.Test.YtnddmmjofpfmfaaPLcx3
namespace Go.Proofs.Ytnddmmjofpfmfaa.PLc
noncomputable section
open Go.RowKit Go.Proofs.YtnddmmjofpfmfaaW.PrintWords Go.Proofs.YtnddmmjofpfmfaaW.PrintLast Go.Proofs.YtnddmmjofpfmfaaW.PrintMore
attribute [local go_sem] max2_int min2_int max_two min_two max_three min_three max_four min_four   -- for this text's walks alone
set_option linter.unusedVariables false
set_option linter.unusedSimpArgs false

/-! ### impl_CountByLength: function 13 -/
open Classical in
noncomputable def impl_CountByLength.ev {α : Type} (g : Nat → Option α) : Option α := if h : ∃ k r, g k = some r then g h.choose else none
theorem impl_CountByLength.ev_some {α : Type} {g : Nat → Option α} {r : α} (h : impl_CountByLength.ev g = some r) : ∃ k, g k = some r := by
  unfold impl_CountByLength.ev at h
  split at h
  · exact ⟨_, h⟩
  · cases h
/-- What the closure is handed: the counted orders' row, how many orders have been counted. -/
noncomputable def impl_CountByLength.cb (p : List Int) (s : List Int × Nat) : Option (List Int × Nat) := (impl_CountByLength.ev fun k => impl_inversions.f k p).bind fun i => if 0 ≤ i ∧ i < (s.1.length : Int) ∧ s.2 < 2000 then (impl_counter_count.f p).bind fun r => some (s.1.set i.toNat (wrap64 (rd s.1 i + r)), s.2 + 1) else none
def impl_CountByLength.lp (G : List Int → List Int → List Int × Nat → Option (List Int × Nat)) (done left : List Int) : Nat → Nat → List Int × Nat → Option (List Int × Nat)
  | 0, _, s => some s
  | m + 1, i, s => (slices_Clone_int_int.f done).bind fun c => if c.length < 1000 then (impl_without.f left (i : Int)).bind fun q => (G (c ++ [rd left (i : Int)]) q s).bind fun s' => impl_CountByLength.lp G done left m (i + 1) s' else none
noncomputable def impl_CountByLength.g : Nat → List Int → List Int → List Int × Nat → Option (List Int × Nat)
  | 0, _, _, _ => none
  | d + 1, done, left, s => (if left.length = 0 then impl_CountByLength.cb done s else some s).bind fun s1 => impl_CountByLength.lp (impl_CountByLength.g d) done left left.length 0 s1
/-- The world of a count: the variables' blocks, the row, the counter's memory. -/
structure impl_CountByLength.Sta (base : Nat) (w : World) (gO gC go N C B : Nat) (s : List Int × Nat) : Prop where mk :: (out : w.heap[gO]? = some (.cells #[.slice (some ⟨go, 0, none⟩) N C] 25 (0, 0)) ∧ w.heap[gC]? = some (.cells #[.map (some B)] 71 (0, 0)) ∧ Kd.R (Kd.int .i64) 3 w base (fun k_ => k_ = go) (.slice (some ⟨go, 0, none⟩) N C) s.1 ∧ impl_counter_count.Mem w B (1853020188851841 * s.2) ∧ base ≤ B ∧ gO ≠ go ∧ gC ≠ go ∧ B ≠ go ∧ gO ≠ B ∧ gC ≠ B)
theorem impl_CountByLength.Sta.kept {base : Nat} {w w' : World} {gO gC go N C B : Nat} {s : List Int × Nat} {S : Nat → Prop} (h : impl_CountByLength.Sta base w gO gC go N C B s) (hk : Kept w w' S) (hS : ∀ k, S k → k ≠ gO ∧ k ≠ gC ∧ k ≠ go ∧ k ≠ B) : impl_CountByLength.Sta base w' gO gC go N C B s := by
  obtain ⟨h1, h2, h3, h4, h5⟩ := h.out
  exact ⟨blk_kept h1 hk (fun e => (hS _ e).1 rfl), blk_kept h2 hk (fun e => (hS _ e).2.1 rfl), Kd.R_step h3 (fun k e hlt => hk.2 k hlt (fun x => (hS k x).2.2.1 e)), h4.kept hk (fun x => (hS _ x).2.2.2 rfl), h5⟩
theorem impl_CountByLength.Sta.below {base : Nat} {w w' : World} {gO gC go N C B : Nat} {s : List Int × Nat} (h : impl_CountByLength.Sta base w gO gC go N C B s) (hb : Below w.heap.size w w') : impl_CountByLength.Sta base w' gO gC go N C B s := h.kept (Kept.of_below hb (fun _ => False)) (fun _ e => e.elim)
theorem impl_CountByLength.room (m : Nat) (h : m < 2000) : 1853020188851841 * m + 1853020188851841 ≤ 4611686018427387904 := by
  have h1 : 1853020188851841 * (m + 1) ≤ 1853020188851841 * 2000 := Nat.mul_le_mul_left _ h
  exact Nat.le_trans h1 (by decide)
def impl_CountByLength.T62 : Bool × List (List Nat × List Nat) := (true, [([], []), ([], []), ([1], [1]), ([0, 2], [0, 2]), ([3], [3]), ([], []), ([], []), ([5, 6, 2], [5, 6]), ([4, 7], [4, 7]), ([0, 2, 0, 1, 2, 3, 4, 5, 6, 7, 8], [0, 2]), ([9, 8, 7, 0, 1, 2, 3, 4, 5, 6, 7, 8], [8, 9])])
def impl_CountByLength.B62 : List Nat := [0, 0, 2, 7, 15, 0, 0, 102, 255, 511, 1023]
theorem impl_CountByLength.tab62 : rtab .any (opsOf Try.f62 0) = impl_CountByLength.T62 := by kernel_rfl
theorem impl_CountByLength.bits62 : waitsOk impl_CountByLength.T62.2 impl_CountByLength.B62 = true := by kernel_rfl
set_option maxHeartbeats 8000000 in
set_option maxRecDepth 100000 in
theorem impl_CountByLength.calls_cb (p : List Int) (A : Option Addr) (c0 : Nat) (Pp : Nat → Prop) (i r : Int) (xs : List Int) (m : Nat) (gO gC go N C B : Nat) (w0 w : World) (hB : Below w0.heap.size w0 w) (hF : Kd.F (Kd.int .i64) w Pp A p.length p) (hPp : ∀ k, Pp k → k ≠ go ∧ k ≠ B) (hc : p.length ≤ c0)
    (hS : impl_CountByLength.Sta w0.heap.size w gO gC go N C B (xs, m)) (ki : Nat) (hi : impl_inversions.f ki p = some i) (h0 : 0 ≤ i) (h1 : i < (xs.length : Int)) (hm : m < 2000) (hr : impl_counter_count.f p = some r) :
    Calls Try.prog 62 #[.slice A p.length c0, .pointer (some ⟨gO, 0, none⟩), .pointer (some ⟨gC, 0, none⟩)] w fun e w' => e = .returned (.tuple #[]) ∧ impl_CountByLength.Sta w0.heap.size w' gO gC go N C B (xs.set i.toNat (wrap64 (rd xs i + r)), m + 1) ∧ Below w0.heap.size w0 w' ∧ Kept w w' (fun k_ => k_ = go ∨ k_ = B) := by
  have HN := Aside0.mk (Kd.R_reads' hS.out.2.2.1).1
  have p6 := eq_true h0
  have q6 : (i < (N : Int)) = True := eq_true (by have h2_ := HN.out; simp only at h2_; omega)
  obtain ⟨x, hx⟩ : ∃ x, x = rd xs i := ⟨_, rfl⟩
  rw [← hx]
  have HX := Aside0.mk hx
  have HF := Aside0.mk hF
  have HP := Aside0.mk hPp
  have HC := Aside0.mk hc
  have HS := Aside0.mk hS
  have HI := Aside0.mk hi
  have HRR := Aside0.mk hr
  have HM := Aside0.mk hm
  have HB := Aside0.mk hB
  have HK := Aside0.mk (Kept.refl w (fun k_ => k_ = go ∨ k_ = B))
  have H01 := Aside0.mk (And.intro h0 h1)
  have hcell : ∀ W m', impl_CountByLength.Sta w0.heap.size W gO gC go N C B (xs, m') → W.cell? ⟨gO, 0, none⟩ = some (.slice (some ⟨go, 0, none⟩) N C) ∧ W.cell? ⟨gC, 0, none⟩ = some (.map (some B)) ∧ W.cell? ⟨go, i.toNat, none⟩ = some (.int .i64 x) := fun W m' hW => ⟨blk_cell hW.out.1 0, blk_cell hW.out.2.1 0, by
    obtain ⟨ad, e, hc_⟩ := Kd.at_int (Kd.R_reads' hW.out.2.2.1).2.2 i h0 h1
    cases e
    rw [hx]
    rw [add_at, Nat.zero_add] at hc_
    exact hc_⟩
  have HCL := Aside0.mk hcell
  clear hx hF hPp hc hS hi hr hm hB h0 h1 hcell
  go_enter Try.func62, Try.ntmps62
  have n0_ := Aside0.mk (Kd.F_drew HF.out)
  have n1_ := Aside0.mk (HS.out.below (below_drew1 (Below.refl _ _)))
  have n2_ := Aside0.mk (below_drew1 HB.out)
  have n3_ := Aside0.mk (Kept.drew HK.out)
  clear HF HS HB HK
  have HF := n0_
  have HS := n1_
  have HB := n2_
  have HK := n3_
  clear n0_ n1_ n2_ n3_
  refine start_ (n := 11) (S := fun w' => w'.cell? ⟨gO, 0, none⟩ = some (.slice (some ⟨go, 0, none⟩) N C) ∧ w'.cell? ⟨gC, 0, none⟩ = some (.map (some B)) ∧ w'.cell? ⟨go, i.toNat, none⟩ = some (.int .i64 x)) (ds := [10]) #[false, false, false, false, false, false, false, false, false, false, false] (by kernel_rfl) rfl rfl (HCL.out _ _ HS.out) (fun hHeld => ?_)
  refine with_tabW impl_CountByLength.tab62 impl_CountByLength.bits62 (fun HT_ HW_ => ?_)
  generalize w.drew = w1 at HF HS HB HK hHeld ⊢
  refine pure_ (i := 1) (N := some 5) (v := ?_) (a' := ?_) #[false, true, false, false, false, false, false, false, false, false, false] rfl rfl (any_of HT_.out (by kernel_rfl)) (fun _ _ _ h => h) (Or.inl ⟨by rfl, ?_⟩) ?_ ?_
  rotate_left
  · intro w'
    go_simp
    with_reducible rfl
  rotate_left
  · simp only [Act.put, List.setIfInBounds_toArray, List.set_cons_zero, List.set_cons_succ, i64_w, i32_w]
    rfl
  refine pure_ (i := 6) (N := some 10) (v := ?_) (a' := ?_) #[false, true, false, false, false, false, true, false, false, false, false] rfl rfl (any_of HT_.out (by kernel_rfl)) (fun _ _ _ h => h) (Or.inl ⟨by rfl, ?_⟩) ?_ ?_
  rotate_left
  · intro w'
    go_simp
    with_reducible rfl
  rotate_left
  · simp only [Act.put, List.setIfInBounds_toArray, List.set_cons_zero, List.set_cons_succ, i64_w, i32_w]
    rfl
  refine take_ (i := 0) (N := some 4) (v := ?_) (a' := ?_) #[true, true, false, false, false, false, true, false, false, false, false] rfl rfl (take_ofW HT_.out HW_.out (by kernel_rfl)) (fun _ _ _ h => h) (Or.inl ⟨by rfl, ?_⟩) hHeld ?_ ?_
  rotate_left
  · rintro w' ⟨s0, s1, s2⟩
    go_simp
    with_reducible rfl
  rotate_left
  · simp only [Act.put, List.setIfInBounds_toArray, List.set_cons_zero, List.set_cons_succ, i64_w, i32_w]
    rfl
  refine take_ (i := 5) (N := some 9) (v := ?_) (a' := ?_) #[true, true, false, false, false, true, true, false, false, false, false] rfl rfl (take_ofW HT_.out HW_.out (by kernel_rfl)) (fun _ _ _ h => h) (Or.inl ⟨by rfl, ?_⟩) hHeld ?_ ?_
  rotate_left
  · rintro w' ⟨s0, s1, s2⟩
    go_simp
    with_reducible rfl
  rotate_left
  · simp only [Act.put, List.setIfInBounds_toArray, List.set_cons_zero, List.set_cons_succ, i64_w, i32_w]
    rfl
  refine one_ (i := 2) (N := some 6) #[true, true, true, false, false, true, true, false, false, false, false] rfl rfl (one_of HT_.out (by kernel_rfl)) (by decide) (fun K hK => ?_)
  refine goes_ Try.func63 (by kernel_rfl) rfl #[.slice A p.length c0] (by rfl) rfl rfl (by (try simp only [List.map_toArray, List.map_cons, List.map_nil]); first | done | rfl) ?_
  refine (impl_inversions.calls ki A c0 p i _ (Kd.F_now HF.out) HC.out HI.out).mono ?_
  rintro e w3 ⟨rfl, hb⟩
  refine ⟨_, rfl, ?_⟩
  have n0_ := Aside0.mk (Kd.F_below HF.out hb)
  have n1_ := Aside0.mk (HS.out.below hb)
  have n2_ := Aside0.mk (below_step HB.out hb)
  have n3_ := Aside0.mk (Kept.below HK.out hb)
  clear HF HS HB HK hb hHeld
  have HF := n0_
  have HS := n1_
  have HB := n2_
  have HK := n3_
  clear n0_ n1_ n2_ n3_
  refine hK.out _ _ (HCL.out _ _ HS.out) (fun hHeld => ?_)
  clear hK K
  refine norm_ (a' := ?_) ?_ ?_
  rotate_left
  · show Act.put _ (some 6) _ = _
    simp only [Act.put, List.setIfInBounds_toArray, List.set_cons_zero, List.set_cons_succ, i64_w, i32_w]
    rfl
  refine pure_ (i := 3) (N := some 7) (v := ?_) (a' := ?_) #[true, true, true, true, false, true, true, false, false, false, false] rfl rfl (any_of HT_.out (by kernel_rfl)) (fun _ _ _ h => h) (Or.inl ⟨by rfl, ?_⟩) ?_ ?_
  rotate_left
  · intro w'
    go_simp
    with_reducible rfl
  rotate_left
  · simp only [Act.put, List.setIfInBounds_toArray, List.set_cons_zero, List.set_cons_succ, i64_w, i32_w]
    rfl
  refine take_ (i := 4) (N := some 8) (v := ?_) (a' := ?_) #[true, true, true, true, true, true, true, false, false, false, false] rfl rfl (take_ofW HT_.out HW_.out (by kernel_rfl)) (fun _ _ _ h => h) (Or.inl ⟨by rfl, ?_⟩) hHeld ?_ ?_
  rotate_left
  · rintro w' ⟨s0, s1, s2⟩
    go_simp
    with_reducible rfl
  rotate_left
  · simp only [Act.put, List.setIfInBounds_toArray, List.set_cons_zero, List.set_cons_succ, i64_w, i32_w]
    rfl
  refine one_ (i := 7) (N := some 11) #[true, true, true, true, true, true, true, true, false, false, false] rfl rfl (one_of HT_.out (by kernel_rfl)) (by decide) (fun K hK => ?_)
  refine goes_ Try.func64 (by kernel_rfl) rfl #[.map (some B), .slice A p.length c0] (by rfl) rfl rfl (by (try simp only [List.map_toArray, List.map_cons, List.map_nil]); first | done | rfl) ?_
  refine (impl_counter_count.callsN B (1853020188851841 * m) A c0 p r w0 _ HB.out HS.out.out.2.2.2.2.1 HS.out.out.2.2.2.1 (impl_CountByLength.room m HM.out) (fun W' hk_ => Kd.F_now (Kd.F_kept HF.out hk_ (fun k_ h_ => (HP.out k_ h_).2))) HC.out HRR.out).mono ?_
  rintro e w4 ⟨rfl, hm4, hb4, hk4⟩
  refine ⟨_, rfl, ?_⟩
  have n4_ := Aside0.mk (show impl_CountByLength.Sta w0.heap.size w4 gO gC go N C B (xs, m + 1) from by
    obtain ⟨h1, h2, h3, h4, h5, d1, d2, d3, d4, d5⟩ := HS.out.out
    exact ⟨blk_kept h1 hk4 d4, blk_kept h2 hk4 d5, Kd.R_step h3 (fun k e_ hlt => hk4.2 k hlt (fun x_ => d3 (by rw [← x_, e_]))), hm4, h5, d1, d2, d3, d4, d5⟩)
  have n5_ := Aside0.mk (Kept.then_ HK.out hk4 (fun k_ h_ => .inl (.inr h_)))
  have n6_ := Aside0.mk hb4
  clear HS HF HK HB hm4 hb4 hk4 hHeld
  have HS := n4_
  have HK := n5_
  have HB := n6_
  clear n4_ n5_ n6_
  refine hK.out _ _ (HCL.out _ _ HS.out) (fun hHeld => ?_)
  clear hK K
  refine norm_ (a' := ?_) ?_ ?_
  rotate_left
  · show Act.put _ (some 11) _ = _
    simp only [Act.put, List.setIfInBounds_toArray, List.set_cons_zero, List.set_cons_succ, i64_w, i32_w]
    rfl
  refine pure_ (i := 8) (N := some 12) (v := ?_) (a' := ?_) #[true, true, true, true, true, true, true, true, true, false, false] rfl rfl (any_of HT_.out (by kernel_rfl)) (fun _ _ _ h => h) (Or.inl ⟨by rfl, ?_⟩) ?_ ?_
  rotate_left
  · intro w'
    go_simp
    with_reducible rfl
  rotate_left
  · simp only [Act.put, List.setIfInBounds_toArray, List.set_cons_zero, List.set_cons_succ, i64_w, i32_w]
    rfl
  refine pure_ (i := 9) (N := some 13) (v := ?_) (a' := ?_) #[true, true, true, true, true, true, true, true, true, true, false] rfl rfl (any_of HT_.out (by kernel_rfl)) (fun _ _ _ h => h) (Or.inl ⟨by rfl, ?_⟩) ?_ ?_
  rotate_left
  · intro w'
    go_simp
    with_reducible rfl
  rotate_left
  · simp only [Act.put, List.setIfInBounds_toArray, List.set_cons_zero, List.set_cons_succ, i64_w, i32_w]
    rfl
  refine last_ (i := 10) (N := none) #[true, true, true, true, true, true, true, true, true, true, true] rfl rfl (one_of HT_.out (by kernel_rfl)) (by decide) (fun K hK => ?_)
  have hs_ := (HCL.out _ _ HS.out).2.2
  obtain ⟨cells, hcs⟩ := Kd.R_typed HS.out.out.2.2.1 go rfl
  have hf_ := blk_frozen hcs i.toNat
  clear hcs
  refine skip_ (w1 := ?_) (by rfl) rfl ?_ ?_
  rotate_left
  · go_simp
    rfl
  refine hK.out _ _ ?_
  clear hK K
  refine done_ (done_of HT_.out (by kernel_rfl)) ?_
  first
  | go_end0
  | refine bodyPost_ret (results_none rfl _ _ _) rfl ?_
  obtain ⟨h1, h2, h3, h4, h5, d1, d2, d3, d4, d5⟩ := HS.out.out
  have hp_ := Kd.R_putg h3 i (wrap64 (x + r))
  have hk_ := Kept.of_grown (S := fun k_ => k_ = go) hp_.2 (Kept.refl _ _) (fun k_ e_ => .inl (by cases e_; rfl))
  exact ⟨rfl, ⟨blk_far h1 d1 _, blk_far h2 d2 _, hp_.1, h4.kept hk_ d3, h5, d1, d2, d3, d4, d5⟩, HB.out.grown hp_.2 HB.out.size (fun k_ e_ => by cases e_; exact Kd.R_base h3 _ rfl), Kept.then_ HK.out hk_ (fun k_ e_ => .inl (.inl e_))⟩
theorem impl_CountByLength.lit_C {W : World} {g e : Nat} {x : Int} (h : W.heap[g]? = some (.cells #[.int .i64 x] e (0, 0))) : Kd.C (Kd.int .i64) W (some ⟨g, 0, none⟩) 1 [x] :=
  ⟨rfl, by decide, fun _ => ⟨_, rfl, fun j p hj => by
    cases j with
    | zero =>
      simp at hj
      subst hj
      refine ⟨[.int .i64 x], rfl, rfl, fun i u hu => ?_⟩
      cases i with
      | zero => simp at hu; subst hu; rw [add_at]; exact blk_cell h 0
      | succ i => simp at hu
    | succ j => simp at hj⟩⟩
def impl_CountByLength.T95 : Bool × List (List Nat × List Nat) := (true, [([], []), ([], []), ([1], [1]), ([], []), ([3], [3]), ([2, 4, 2], [2, 4]), ([], []), ([], []), ([6, 7, 5], [6, 7]), ([0, 5, 8, 8], [0, 5, 8])])
def impl_CountByLength.B95 : List Nat := [0, 0, 2, 0, 8, 30, 0, 0, 254, 511]
theorem impl_CountByLength.tab95 : rtab .any (opsOf Try.f95 5) = impl_CountByLength.T95 := by kernel_rfl
theorem impl_CountByLength.bits95 : waitsOk impl_CountByLength.T95.2 impl_CountByLength.B95 = true := by kernel_rfl
abbrev impl_CountByLength.fW (gO gC : Nat) : Value := .func (.func 62) #[] #[.pointer (some ⟨gO, 0, none⟩), .pointer (some ⟨gC, 0, none⟩)]
abbrev impl_CountByLength.fA (gW gA : Nat) : Value := .func (.func 95) #[] #[.pointer (some ⟨gW, 0, none⟩), .pointer (some ⟨gA, 0, none⟩)]
set_option maxHeartbeats 8000000 in
set_option maxRecDepth 100000 in
theorem impl_CountByLength.calls_add (gO gC go N C B gW gA : Nat) (hW1 : gW ≠ go ∧ gW ≠ B) (hA1 : gA ≠ go ∧ gA ≠ B) (w0 : World) : ∀ (d : Nat) (done : List Int) (Pd : Nat → Prop) (A1 : Option Addr) (c1 : Nat) (left : List Int) (Pl : Nat → Prop) (A2 : Option Addr) (c2 : Nat) (s s' : List Int × Nat) (w : World) (hB : Below w0.heap.size w0 w) (h1 : Kd.F (Kd.int .i64) w Pd A1 done.length done) (h1p : ∀ k, Pd k → k ≠ go ∧ k ≠ B) (hc1 : done.length ≤ c1) (h2 : Kd.F (Kd.int .i64) w Pl A2 left.length left) (h2p : ∀ k, Pl k → k ≠ go ∧ k ≠ B) (hc2 : left.length ≤ c2)
    (hbW : w.heap[gW]? = some (.cells #[impl_CountByLength.fW gO gC] 73 (0, 0))) (hbA : w.heap[gA]? = some (.cells #[impl_CountByLength.fA gW gA] 93 (0, 0))) (hS : impl_CountByLength.Sta w0.heap.size w gO gC go N C B s) (h : impl_CountByLength.g d done left s = some s'),
    Calls Try.prog 95 #[.slice A1 done.length c1, .slice A2 left.length c2, .pointer (some ⟨gW, 0, none⟩), .pointer (some ⟨gA, 0, none⟩)] w fun e w' => e = .returned (.tuple #[]) ∧ impl_CountByLength.Sta w0.heap.size w' gO gC go N C B s' ∧ Below w0.heap.size w0 w' ∧ Kept w w' (fun k_ => k_ = go ∨ k_ = B)
  | 0, _, _, _, _, _, _, _, _, _, _, _, _, _, _, _, _, _, _, _, _, _, h => by cases h
  | d + 1, done, Pd, A1, c1, left, Pl, A2, c2, s, s', w, hB, h1, h1p, hc1, h2, h2p, hc2, hbW, hbA, hS, h => by
    obtain ⟨s1, hs1, h⟩ := Option.bind_eq_some_iff.1 h
    have HB := Aside0.mk hB
    have H1 := Aside0.mk h1
    have HP1 := Aside0.mk h1p
    have HC1 := Aside0.mk hc1
    have H2 := Aside0.mk h2
    have HP2 := Aside0.mk h2p
    have HC2 := Aside0.mk hc2
    have BKW := Aside0.mk hbW
    have BKA := Aside0.mk hbA
    have HS := Aside0.mk hS
    have HL := Aside0.mk h
    have HDW := Aside0.mk hW1
    have HDA := Aside0.mk hA1
    have hcW : w.cell? ⟨gW, 0, none⟩ = some (impl_CountByLength.fW gO gC) := blk_cell hbW 0
    clear hB h1 h1p hc1 h2 h2p hc2 hbW hbA hS h hW1 hA1
    by_cases c : left.length = 0
    · rw [if_pos c] at hs1
      have cb : ((left.length : Int) == 0) = true := beq_iff_eq.mpr (by omega)
      have cd : decide ((left.length : Int) = 0) = true := decide_eq_true (by omega)
      have HNZ := Aside0.mk c
      unfold impl_CountByLength.cb at hs1
      obtain ⟨i, hi, hs1⟩ := Option.bind_eq_some_iff.1 hs1
      obtain ⟨ki, hi⟩ := impl_CountByLength.ev_some hi
      split at hs1
      case isFalse => cases hs1
      rename_i hx
      obtain ⟨r, hr, hs1⟩ := Option.bind_eq_some_iff.1 hs1
      obtain rfl := Option.some.inj hs1
      have HI := Aside0.mk hi
      have HXX := Aside0.mk hx
      have HRR := Aside0.mk hr
      clear hi hx hr hs1 c
      go_enter Try.func95, Try.ntmps95
      go_wp2_with (go_at_call 62; (refine (impl_CountByLength.calls_cb done A1 c1 Pd i r s.1 s.2 gO gC go N C B w0 _ HB.out H1.out HP1.out HC1.out HS.out ki HI.out HXX.out.1 HXX.out.2.1 HXX.out.2.2 HRR.out).mono ?_); rintro e w2 ⟨rfl, hs2, hb2, hk2⟩; have HS2 := Aside0.mk hs2; have HB2 := Aside0.mk hb2; have HK2 := Aside0.mk hk2; clear hs2 hb2 hk2 HS hcW)
      go_loopg [16] 0 (fun kq v16 w' => v16 = .int .i64 0 ∧ w' = w2)
      case atStart => exact ⟨rfl, rfl⟩
      case round =>
        obtain ⟨rfl, rfl⟩ := hrel
        have ct : decide ((0 : Int) < (left.length : Int)) = false := decide_eq_false (by have := HNZ.out; omega)
        have ct2 : decide (0 < left.length) = false := decide_eq_false (by have := HNZ.out; omega)
        have H := HL.out
        rw [HNZ.out] at H
        simp only [impl_CountByLength.lp, Option.some.injEq] at H
        have HE := Aside0.mk H
        clear H
        go_wp2
        first
        | go_end0
        | refine bodyPost_ret (results_none rfl _ _ _) rfl ?_
        exact ⟨rfl, by rw [← HE.out]; exact HS2.out, HB2.out, HK2.out⟩
    · rw [if_neg c] at hs1
      obtain rfl := Option.some.inj hs1
      have cb : ((left.length : Int) == 0) = false := beq_eq_false_iff_ne.mpr (by omega)
      have cd : decide ((left.length : Int) = 0) = false := decide_eq_false (by omega)
      clear c hs1
      have HMX := Aside0.mk (Kd.F_max H2.out)
      go_enter Try.func95, Try.ntmps95
      go_wp2
      go_loopg [16] left.length (fun kq v16 w' => ∃ (i : Nat) (si : List Int × Nat), v16 = .int .i64 (i : Int) ∧ Aside0 (i + kq = left.length) ∧ Aside0 (impl_CountByLength.lp (impl_CountByLength.g d) done left kq i si = some s') ∧ Aside0 (impl_CountByLength.Sta w0.heap.size w' gO gC go N C B si) ∧ Aside0 (Below w0.heap.size w0 w') ∧ Aside0 (Kept w w' (fun k_ => k_ = go ∨ k_ = B)))
      case atStart => exact ⟨0, s, rfl, ⟨by omega⟩, HL, ⟨HS.out⟩, ⟨HB.out⟩, ⟨Kept.refl _ _⟩⟩
      case round =>
        clear HS HB HL hcW
        obtain ⟨i, si, rfl, HI, HA, HS, HB, HK⟩ := hrel
        cases gk with
        | zero =>
          have H := HA.out
          simp only [impl_CountByLength.lp, Option.some.injEq] at H
          have HE := Aside0.mk H
          have HI0 := HI.out
          have ct : decide ((i : Int) < (left.length : Int)) = false := decide_eq_false (by omega)
          clear H
          go_wp2
          first
          | go_end0
          | refine bodyPost_ret (results_none rfl _ _ _) rfl ?_
          exact ⟨rfl, by rw [← HE.out]; exact HS.out, HB.out, HK.out⟩
        | succ k1 =>
          have H := HA.out
          simp only [impl_CountByLength.lp] at H
          obtain ⟨cl, hcl, H⟩ := Option.bind_eq_some_iff.1 H
          by_cases hc1 : cl.length < 1000
          case neg => rw [if_neg hc1] at H; cases H
          rw [if_pos hc1] at H
          obtain ⟨q, hq, H⟩ := Option.bind_eq_some_iff.1 H
          obtain ⟨s2, hg, H⟩ := Option.bind_eq_some_iff.1 H
          have HI0 := HI.out
          have p9 : (0 : Int) ≤ (i : Int) := by omega
          have q9 : (i : Int) < left.length := by omega
          have ct : decide ((i : Int) < (left.length : Int)) = true := decide_eq_true q9
          have HF1 := Aside0.mk (Kd.F_kept H1.out HK.out (fun k_ h_ e_ => e_.elim (HP1.out k_ h_).1 (HP1.out k_ h_).2))
          have HF2 := Aside0.mk (Kd.F_kept H2.out HK.out (fun k_ h_ e_ => e_.elim (HP2.out k_ h_).1 (HP2.out k_ h_).2))
          have BKW2 := Aside0.mk (blk_kept BKW.out HK.out (fun e_ => e_.elim HDW.out.1 HDW.out.2))
          have BKA2 := Aside0.mk (blk_kept BKA.out HK.out (fun e_ => e_.elim HDA.out.1 HDA.out.2))
          obtain ⟨ad9, e9, hx9⟩ := Kd.at_int (Kd.F_now HF2.out) (i : Int) p9 q9
          subst e9
          simp only [Int.toNat_natCast] at hx9
          obtain ⟨x, hx⟩ : ∃ x, x = rd left (i : Int) := ⟨_, rfl⟩
          rw [← hx] at hx9 hg
          obtain ⟨y5, ny5⟩ : ∃ y, y = cl ++ [x] := ⟨_, rfl⟩
          rw [← ny5] at hg
          have NY := Aside0.mk ny5
          have HCL := Aside0.mk hcl
          have HQ := Aside0.mk hq
          have HG := Aside0.mk hg
          have HT := Aside0.mk H
          have HCC := Aside0.mk hc1
          clear hcl hq hg H hc1 hx ny5
          replace p9 := eq_true p9
          replace q9 := eq_true q9
          go_wp2
          clear hx9
          have n0_ := Aside0.mk (Kd.F_drew HF1.out)
          have n1_ := Aside0.mk (Kd.F_drew HF2.out)
          have n2_ := Aside0.mk (blk_drew BKW2.out)
          have n3_ := Aside0.mk (blk_drew BKA2.out)
          have n4_ := Aside0.mk (HS.out.below (below_drew1 (Below.refl _ _)))
          have n5_ := Aside0.mk (below_drew1 HB.out)
          have n6_ := Aside0.mk (Kept.drew HK.out)
          clear HF1 HF2 BKW2 BKA2 HS HB HK
          have HF1 := n0_
          have HF2 := n1_
          have BKW2 := n2_
          have BKA2 := n3_
          have HS := n4_
          have HB := n5_
          have HK := n6_
          clear n0_ n1_ n2_ n3_ n4_ n5_ n6_
          refine start_ (n := 10) (S := fun w' => w'.cell? ⟨gA, 0, none⟩ = some (impl_CountByLength.fA gW gA)) (ds := [9]) #[false, false, false, false, false, false, false, false, false, false] (by kernel_rfl) rfl rfl (blk_cell BKA2.out 0) (fun hHeld => ?_)
          refine with_tabW impl_CountByLength.tab95 impl_CountByLength.bits95 (fun HT_ HW_ => ?_)
          generalize wr.drew = w1 at HF1 HF2 BKW2 BKA2 HS HB HK hHeld ⊢
          have HBL := Aside0.mk (Below.refl w1.heap.size w1)
          have HLT := Aside0.mk (show go < w1.heap.size ∧ B < w1.heap.size from ⟨Kd.R_lt HS.out.out.2.2.1 go rfl, HS.out.out.2.2.2.1.lt⟩)
          refine pure_ (i := 1) (N := some 22) (v := ?_) (a' := ?_) #[false, true, false, false, false, false, false, false, false, false] rfl rfl (any_of HT_.out (by kernel_rfl)) (fun _ _ _ h => h) (Or.inl ⟨by rfl, ?_⟩) ?_ ?_
          rotate_left
          · intro w'
            go_simp
            with_reducible rfl
          rotate_left
          · simp only [Act.put, List.setIfInBounds_toArray, List.set_cons_zero, List.set_cons_succ, i64_w, i32_w]
            rfl
          refine pure_ (i := 3) (N := some 24) (v := ?_) (a' := ?_) #[false, true, false, true, false, false, false, false, false, false] rfl rfl (any_of HT_.out (by kernel_rfl)) (fun _ _ _ h => h) (Or.inl ⟨by rfl, ?_⟩) ?_ ?_
          rotate_left
          · intro w'
            go_simp
            with_reducible rfl
          rotate_left
          · simp only [Act.put, List.setIfInBounds_toArray, List.set_cons_zero, List.set_cons_succ, i64_w, i32_w]
            rfl
          refine pure_ (i := 6) (N := some 27) (v := ?_) (a' := ?_) #[false, true, false, true, false, false, true, false, false, false] rfl rfl (any_of HT_.out (by kernel_rfl)) (fun _ _ _ h => h) (Or.inl ⟨by rfl, ?_⟩) ?_ ?_
          rotate_left
          · intro w'
            go_simp
            with_reducible rfl
          rotate_left
          · simp only [Act.put, List.setIfInBounds_toArray, List.set_cons_zero, List.set_cons_succ, i64_w, i32_w]
            rfl
          refine pure_ (i := 7) (N := some 28) (v := ?_) (a' := ?_) #[false, true, false, true, false, false, true, true, false, false] rfl rfl (any_of HT_.out (by kernel_rfl)) (fun _ _ _ h => h) (Or.inl ⟨by rfl, ?_⟩) ?_ ?_
          rotate_left
          · intro w'
            go_simp
            with_reducible rfl
          rotate_left
          · simp only [Act.put, List.setIfInBounds_toArray, List.set_cons_zero, List.set_cons_succ, i64_w, i32_w]
            rfl
          refine take_ (i := 0) (N := some 21) (v := ?_) (a' := ?_) #[true, true, false, true, false, false, true, true, false, false] rfl rfl (take_ofW HT_.out HW_.out (by kernel_rfl)) (fun _ _ _ h => h) (Or.inl ⟨by rfl, ?_⟩) hHeld ?_ ?_
          rotate_left
          · rintro w' s0
            go_simp
            with_reducible rfl
          rotate_left
          · simp only [Act.put, List.setIfInBounds_toArray, List.set_cons_zero, List.set_cons_succ, i64_w, i32_w]
            rfl
          refine two_ (i := 2) (j := 4) (Ni := some 23) (Nj := some 25) #[true, true, true, true, false, false, true, true, false, false] #[true, true, false, true, true, false, true, true, false, false] rfl rfl rfl rfl (two_of HT_.out (by kernel_rfl)) (by decide) (by decide) (fun K hK => ?_) (fun K hK => ?_)
          · refine goes_ Try.func96 (by kernel_rfl) rfl #[.slice A1 done.length c1] (by rfl) rfl rfl (by (try simp only [List.map_toArray, List.map_cons, List.map_nil]); first | done | rfl) ?_
            refine (slices_Clone_int_int.calls A1 c1 done cl _ (Kd.F_now (Kd.F_below HF1.out HBL.out)) HC1.out HCL.out).mono ?_
            rintro e w4 ⟨v4, rfl, hr4, hb⟩
            refine ⟨_, rfl, ?_⟩
            have HR4 := Aside0.mk (Kd.R_lower hr4 HBL.out.size)
            have n0_ := Aside0.mk (below_step HBL.out hb)
            clear HBL hHeld hr4 hb
            have HBL := n0_
            clear n0_
            refine hK.out _ _ (blk_cell (blk_below BKA2.out HBL.out) 0) (fun hHeld => ?_)
            clear hK K
            refine norm_ (a' := ?_) ?_ ?_
            rotate_left
            · show Act.put _ (some 23) _ = _
              simp only [Act.put, List.setIfInBounds_toArray, List.set_cons_zero, List.set_cons_succ, i64_w, i32_w]
              rfl
            refine one_ (i := 4) (N := some 25) #[true, true, true, true, true, false, true, true, false, false] rfl rfl (one_of HT_.out (by kernel_rfl)) (by decide) (fun K hK => ?_)
            refine value_ (w1 := w4.alloc (.cells #[.int .i64 x] 3)) (v := .slice (some ⟨w4.heap.size, 0, none⟩) 1 1) (by rfl) rfl ?_ ?_
            · go_simp
            have hb := below_alloc (Below.refl w4.heap.size w4) (.cells #[.int .i64 x] 3 (0, 0))
            have BKL := Aside0.mk (blk_new w4 (.cells #[.int .i64 x] 3 (0, 0)))
            have n0_ := Aside0.mk (below_step HBL.out hb)
            have n1_ := Aside0.mk (Kd.R_below HR4.out hb)
            clear HBL HR4 hHeld hb
            have HBL := n0_
            have HR4 := n1_
            clear n0_ n1_
            obtain ⟨GL, hGL⟩ : ∃ G_, G_ = w4.heap.size := ⟨_, rfl⟩
            rw [← hGL] at BKL ⊢
            clear hGL
            generalize w4.alloc (.cells #[.int .i64 x] 3) = w5 at HBL BKL HR4 ⊢
            refine hK.out _ _ (blk_cell (blk_below BKA2.out HBL.out) 0) (fun hHeld => ?_)
            clear hK K
            refine norm_ (a' := ?_) ?_ ?_
            rotate_left
            · show Act.put _ (some 25) _ = _
              simp only [Act.put, List.setIfInBounds_toArray, List.set_cons_zero, List.set_cons_succ, i64_w, i32_w]
              rfl
            refine one_ (i := 5) (N := some 26) #[true, true, true, true, true, true, true, true, false, false] rfl rfl (one_of HT_.out (by kernel_rfl)) (by decide) (fun K hK => ?_)
            refine Kd.R_append_rows_step (Kd.int .i64) (w0 := w1) w1.heap.size (by rfl) (.tmp 23) (.tmp 25) 25 3 (.int .i64 0) 8 rfl Try.underlying25 info3 rfl (by decide) (by omega) v4 cl [x] (some ⟨GL, 0, none⟩) 1 1 (fun _ => True) (fun _ => False) rfl rfl HR4.out (impl_CountByLength.lit_C BKL.out) (fun _ _ h_ => h_) (fun _ h_ => h_.elim) (fun _ _ => trivial) HBL.out HBL.out.size (by have := HCC.out; omega) ?_
            intro v5 w6 ho hb hg hat
            rw [← NY.out] at ho
            have HR5 := Aside0.mk ho
            clear HBL HR4 BKL hHeld
            have HBL := Aside0.mk hb
            clear ho hb hg hat
            obtain ⟨A5, c5, e5⟩ := Kd.R_slice HR5.out
            subst e5
            refine hK.out _ _ (blk_cell (blk_below BKA2.out HBL.out) 0) (fun hHeld => ?_)
            clear hK K
            refine norm_ (a' := ?_) ?_ ?_
            rotate_left
            · show Act.put _ (some 26) _ = _
              simp only [Act.put, List.setIfInBounds_toArray, List.set_cons_zero, List.set_cons_succ, i64_w, i32_w]
              rfl
            refine one_ (i := 8) (N := some 29) #[true, true, true, true, true, true, true, true, true, false] rfl rfl (one_of HT_.out (by kernel_rfl)) (by decide) (fun K hK => ?_)
            refine goes_ Try.func97 (by kernel_rfl) rfl #[.slice (some ad9) left.length c2, .int .i64 (i : Int)] (by rfl) rfl rfl (by (try simp only [List.map_toArray, List.map_cons, List.map_nil]); first | done | rfl) ?_
            refine (impl_without.calls (some ad9) c2 left (i : Int) q _ (Kd.F_now (Kd.F_below HF2.out HBL.out)) HC2.out HQ.out).mono ?_
            rintro e w7 ⟨v6, rfl, hr6, hb⟩
            refine ⟨_, rfl, ?_⟩
            have HR6 := Aside0.mk (Kd.R_lower hr6 HBL.out.size)
            have n0_ := Aside0.mk (below_step HBL.out hb)
            have n1_ := Aside0.mk (Kd.R_below HR5.out hb)
            clear HBL HR5 hHeld hr6 hb
            have HBL := n0_
            have HR5 := n1_
            clear n0_ n1_
            obtain ⟨A6, c6, e6⟩ := Kd.R_slice HR6.out
            subst e6
            refine hK.out _ _ (blk_cell (blk_below BKA2.out HBL.out) 0) (fun hHeld => ?_)
            clear hK K
            refine norm_ (a' := ?_) ?_ ?_
            rotate_left
            · show Act.put _ (some 29) _ = _
              simp only [Act.put, List.setIfInBounds_toArray, List.set_cons_zero, List.set_cons_succ, i64_w, i32_w]
              rfl
            refine last_ (i := 9) (N := some 30) #[true, true, true, true, true, true, true, true, true, true] rfl rfl (one_of HT_.out (by kernel_rfl)) (by decide) (fun K hK => ?_)
            refine call_ 95 #[.slice A5 y5.length c5, .slice A6 q.length c6, .pointer (some ⟨gW, 0, none⟩), .pointer (some ⟨gA, 0, none⟩)] (by rfl) rfl ?hrun ?_
            case hrun =>
              have he := enters_ (P := Try.prog) (f := 95) (fn := Try.f95) Try.func95 rfl rfl #[.slice A5 y5.length c5, .slice A6 q.length c6, .pointer (some ⟨gW, 0, none⟩), .pointer (some ⟨gA, 0, none⟩)] w7
              unfold execOp
              simp [resolve, Deferred.ofValue, invoke, Act.eval, he]
            refine (impl_CountByLength.calls_add gO gC go N C B gW gA HDW.out HDA.out w0 d y5 (fun k_ => some k_ = (Value.slice A5 y5.length c5).ownBlock) A5 c5 q (fun k_ => some k_ = (Value.slice A6 q.length c6).ownBlock) A6 c6 si s2 w7 (below_step HB.out HBL.out) (Kd.R_F (Kd.R_tight rfl HR5.out)) (fun k_ h_ => by have h1_ := Kd.R_base HR5.out k_ h_.symm; have h2_ := HLT.out; omega) (Kd.R_reads' HR5.out).2.1 (Kd.R_F (Kd.R_tight rfl HR6.out)) (fun k_ h_ => by have h1_ := Kd.R_base HR6.out k_ h_.symm; have h2_ := HLT.out; omega) (Kd.R_reads' HR6.out).2.1 (blk_below BKW2.out HBL.out) (blk_below BKA2.out HBL.out) (HS.out.below HBL.out) HG.out).mono ?_
            rintro e w8 ⟨rfl, hs8, hb8, hk8⟩
            refine ⟨_, rfl, ?_⟩
            have HS8 := Aside0.mk hs8
            have HB8 := Aside0.mk hb8
            have HK8 := Aside0.mk (Kept.then_ (Kept.below HK.out HBL.out) hk8 (fun _ h_ => .inl h_))
            clear hs8 hb8 hk8 HS HB HK HBL hHeld HF1 HF2 BKW2 BKA2
            refine hK.out _ _ ?_
            clear hK K
            refine norm_ (a' := ?_) ?_ ?_
            rotate_left
            · show Act.put _ (some 30) _ = _
              simp only [Act.put, List.setIfInBounds_toArray, List.set_cons_zero, List.set_cons_succ, i64_w, i32_w]
              rfl
            refine done_ (done_of HT_.out (by kernel_rfl)) ?_
            try go_wp2
            go_roundg k1
            case measure => omega
            case rel => exact ⟨i + 1, s2, (by have h_ := HMX.out; first | rfl | (simp; done) | (simp [wrap64]; omega)), ⟨by omega⟩, HT, HS8, HB8, HK8⟩
          · refine value_ (w1 := w1.alloc (.cells #[.int .i64 x] 3)) (v := .slice (some ⟨w1.heap.size, 0, none⟩) 1 1) (by rfl) rfl ?_ ?_
            · go_simp
            have hb := below_alloc (Below.refl w1.heap.size w1) (.cells #[.int .i64 x] 3 (0, 0))
            have BKL := Aside0.mk (blk_new w1 (.cells #[.int .i64 x] 3 (0, 0)))
            have n0_ := Aside0.mk (below_step HBL.out hb)
            clear HBL hHeld hb
            have HBL := n0_
            clear n0_
            obtain ⟨GL, hGL⟩ : ∃ G_, G_ = w1.heap.size := ⟨_, rfl⟩
            rw [← hGL] at BKL ⊢
            clear hGL
            generalize w1.alloc (.cells #[.int .i64 x] 3) = w5 at HBL BKL ⊢
            refine hK.out _ _ (blk_cell (blk_below BKA2.out HBL.out) 0) (fun hHeld => ?_)
            clear hK K
            refine norm_ (a' := ?_) ?_ ?_
            rotate_left
            · show Act.put _ (some 25) _ = _
              simp only [Act.put, List.setIfInBounds_toArray, List.set_cons_zero, List.set_cons_succ, i64_w, i32_w]
              rfl
            refine one_ (i := 2) (N := some 23) #[true, true, true, true, true, false, true, true, false, false] rfl rfl (one_of HT_.out (by kernel_rfl)) (by decide) (fun K hK => ?_)
            refine goes_ Try.func96 (by kernel_rfl) rfl #[.slice A1 done.length c1] (by rfl) rfl rfl (by (try simp only [List.map_toArray, List.map_cons, List.map_nil]); first | done | rfl) ?_
            refine (slices_Clone_int_int.calls A1 c1 done cl _ (Kd.F_now (Kd.F_below HF1.out HBL.out)) HC1.out HCL.out).mono ?_
            rintro e w4 ⟨v4, rfl, hr4, hb⟩
            refine ⟨_, rfl, ?_⟩
            have HR4 := Aside0.mk (Kd.R_lower hr4 HBL.out.size)
            have n0_ := Aside0.mk (below_step HBL.out hb)
            have n1_ := Aside0.mk (blk_below BKL.out hb)
            clear HBL BKL hHeld hr4 hb
            have HBL := n0_
            have BKL := n1_
            clear n0_ n1_
            refine hK.out _ _ (blk_cell (blk_below BKA2.out HBL.out) 0) (fun hHeld => ?_)
            clear hK K
            refine norm_ (a' := ?_) ?_ ?_
            rotate_left
            · show Act.put _ (some 23) _ = _
              simp only [Act.put, List.setIfInBounds_toArray, List.set_cons_zero, List.set_cons_succ, i64_w, i32_w]
              rfl
            refine one_ (i := 5) (N := some 26) #[true, true, true, true, true, true, true, true, false, false] rfl rfl (one_of HT_.out (by kernel_rfl)) (by decide) (fun K hK => ?_)
            refine Kd.R_append_rows_step (Kd.int .i64) (w0 := w1) w1.heap.size (by rfl) (.tmp 23) (.tmp 25) 25 3 (.int .i64 0) 8 rfl Try.underlying25 info3 rfl (by decide) (by omega) v4 cl [x] (some ⟨GL, 0, none⟩) 1 1 (fun _ => True) (fun _ => False) rfl rfl HR4.out (impl_CountByLength.lit_C BKL.out) (fun _ _ h_ => h_) (fun _ h_ => h_.elim) (fun _ _ => trivial) HBL.out HBL.out.size (by have := HCC.out; omega) ?_
            intro v5 w6 ho hb hg hat
            rw [← NY.out] at ho
            have HR5 := Aside0.mk ho
            clear HBL HR4 BKL hHeld
            have HBL := Aside0.mk hb
            clear ho hb hg hat
            obtain ⟨A5, c5, e5⟩ := Kd.R_slice HR5.out
            subst e5
            refine hK.out _ _ (blk_cell (blk_below BKA2.out HBL.out) 0) (fun hHeld => ?_)
            clear hK K
            refine norm_ (a' := ?_) ?_ ?_
            rotate_left
            · show Act.put _ (some 26) _ = _
              simp only [Act.put, List.setIfInBounds_toArray, List.set_cons_zero, List.set_cons_succ, i64_w, i32_w]
              rfl
            refine one_ (i := 8) (N := some 29) #[true, true, true, true, true, true, true, true, true, false] rfl rfl (one_of HT_.out (by kernel_rfl)) (by decide) (fun K hK => ?_)
            refine goes_ Try.func97 (by kernel_rfl) rfl #[.slice (some ad9) left.length c2, .int .i64 (i : Int)] (by rfl) rfl rfl (by (try simp only [List.map_toArray, List.map_cons, List.map_nil]); first | done | rfl) ?_
            refine (impl_without.calls (some ad9) c2 left (i : Int) q _ (Kd.F_now (Kd.F_below HF2.out HBL.out)) HC2.out HQ.out).mono ?_
            rintro e w7 ⟨v6, rfl, hr6, hb⟩
            refine ⟨_, rfl, ?_⟩
            have HR6 := Aside0.mk (Kd.R_lower hr6 HBL.out.size)
            have n0_ := Aside0.mk (below_step HBL.out hb)
            have n1_ := Aside0.mk (Kd.R_below HR5.out hb)
            clear HBL HR5 hHeld hr6 hb
            have HBL := n0_
            have HR5 := n1_
            clear n0_ n1_
            obtain ⟨A6, c6, e6⟩ := Kd.R_slice HR6.out
            subst e6
            refine hK.out _ _ (blk_cell (blk_below BKA2.out HBL.out) 0) (fun hHeld => ?_)
            clear hK K
            refine norm_ (a' := ?_) ?_ ?_
            rotate_left
            · show Act.put _ (some 29) _ = _
              simp only [Act.put, List.setIfInBounds_toArray, List.set_cons_zero, List.set_cons_succ, i64_w, i32_w]
              rfl
            refine last_ (i := 9) (N := some 30) #[true, true, true, true, true, true, true, true, true, true] rfl rfl (one_of HT_.out (by kernel_rfl)) (by decide) (fun K hK => ?_)
            refine call_ 95 #[.slice A5 y5.length c5, .slice A6 q.length c6, .pointer (some ⟨gW, 0, none⟩), .pointer (some ⟨gA, 0, none⟩)] (by rfl) rfl ?hrun ?_
            case hrun =>
              have he := enters_ (P := Try.prog) (f := 95) (fn := Try.f95) Try.func95 rfl rfl #[.slice A5 y5.length c5, .slice A6 q.length c6, .pointer (some ⟨gW, 0, none⟩), .pointer (some ⟨gA, 0, none⟩)] w7
              unfold execOp
              simp [resolve, Deferred.ofValue, invoke, Act.eval, he]
            refine (impl_CountByLength.calls_add gO gC go N C B gW gA HDW.out HDA.out w0 d y5 (fun k_ => some k_ = (Value.slice A5 y5.length c5).ownBlock) A5 c5 q (fun k_ => some k_ = (Value.slice A6 q.length c6).ownBlock) A6 c6 si s2 w7 (below_step HB.out HBL.out) (Kd.R_F (Kd.R_tight rfl HR5.out)) (fun k_ h_ => by have h1_ := Kd.R_base HR5.out k_ h_.symm; have h2_ := HLT.out; omega) (Kd.R_reads' HR5.out).2.1 (Kd.R_F (Kd.R_tight rfl HR6.out)) (fun k_ h_ => by have h1_ := Kd.R_base HR6.out k_ h_.symm; have h2_ := HLT.out; omega) (Kd.R_reads' HR6.out).2.1 (blk_below BKW2.out HBL.out) (blk_below BKA2.out HBL.out) (HS.out.below HBL.out) HG.out).mono ?_
            rintro e w8 ⟨rfl, hs8, hb8, hk8⟩
            refine ⟨_, rfl, ?_⟩
            have HS8 := Aside0.mk hs8
            have HB8 := Aside0.mk hb8
            have HK8 := Aside0.mk (Kept.then_ (Kept.below HK.out HBL.out) hk8 (fun _ h_ => .inl h_))
            clear hs8 hb8 hk8 HS HB HK HBL hHeld HF1 HF2 BKW2 BKA2
            refine hK.out _ _ ?_
            clear hK K
            refine norm_ (a' := ?_) ?_ ?_
            rotate_left
            · show Act.put _ (some 30) _ = _
              simp only [Act.put, List.setIfInBounds_toArray, List.set_cons_zero, List.set_cons_succ, i64_w, i32_w]
              rfl
            refine done_ (done_of HT_.out (by kernel_rfl)) ?_
            try go_wp2
            go_roundg k1
            case measure => omega
            case rel => exact ⟨i + 1, s2, (by have h_ := HMX.out; first | rfl | (simp; done) | (simp [wrap64]; omega)), ⟨by omega⟩, HT, HS8, HB8, HK8⟩
def impl_CountByLength.T61 : Bool × List (List Nat × List Nat) := (true, [([], []), ([], []), ([1], [1]), ([0, 2, 2], [0, 2])])
def impl_CountByLength.B61 : List Nat := [0, 0, 2, 7]
theorem impl_CountByLength.tab61 : rtab .any (opsOf Try.f61 3) = impl_CountByLength.T61 := by kernel_rfl
theorem impl_CountByLength.bits61 : waitsOk impl_CountByLength.T61.2 impl_CountByLength.B61 = true := by kernel_rfl
theorem impl_CountByLength.run_store_func (P : Program) (w : World) (a : Addr) (m : Mode) (fn : Fn) (first captured : Array Value) : (store a (.func fn first captured) m).run P w = stored P w a (.func fn first captured) m := run_store P w a _ m rfl
attribute [local go_sem] impl_CountByLength.run_store_func
set_option maxHeartbeats 8000000 in
set_option maxRecDepth 100000 in
theorem impl_CountByLength.calls_orders (gO gC go N C B : Nat) (n : Int) (idn : List Int) (kn d : Nat) (s s' : List Int × Nat) (w0 w : World) (hidn : impl_identity.f kn n = some idn) (hg : impl_CountByLength.g d [] idn s = some s') (hB : Below w0.heap.size w0 w) (hS : impl_CountByLength.Sta w0.heap.size w gO gC go N C B s) :
    Calls Try.prog 61 #[.int .i64 n, impl_CountByLength.fW gO gC] w fun e w' => e = .returned (.tuple #[]) ∧ impl_CountByLength.Sta w0.heap.size w' gO gC go N C B s' ∧ Below w0.heap.size w0 w' := by
  have HI := Aside0.mk hidn
  have HG := Aside0.mk hg
  have HB := Aside0.mk hB
  have HS := Aside0.mk hS
  have HLT := Aside0.mk (show go < w.heap.size ∧ B < w.heap.size from ⟨Kd.R_lt hS.out.2.2.1 go rfl, hS.out.2.2.2.1.lt⟩)
  clear hidn hg hB hS
  go_enter Try.func61, Try.ntmps61
  go_wp2
  have hb := below_alloc (below_alloc (Below.refl w.heap.size w) (.cells #[impl_CountByLength.fW gO gC] 73 (0, 0))) (.cells #[impl_CountByLength.fA w.heap.size (w.heap.size + 1)] 93 (0, 0))
  have BKW := Aside0.mk (blk_drew (blk_alloc (blk_new w (.cells #[impl_CountByLength.fW gO gC] 73 (0, 0))) (.cells #[impl_CountByLength.fA w.heap.size (w.heap.size + 1)] 93 (0, 0))))
  have BKA := Aside0.mk (blk_drew (show ((w.alloc (.cells #[impl_CountByLength.fW gO gC] 73 (0, 0))).alloc (.cells #[impl_CountByLength.fA w.heap.size (w.heap.size + 1)] 93 (0, 0))).heap[w.heap.size + 1]? = some (.cells #[impl_CountByLength.fA w.heap.size (w.heap.size + 1)] 93 (0, 0)) from by have h_ := blk_new (w.alloc (.cells #[impl_CountByLength.fW gO gC] 73 (0, 0))) (.cells #[impl_CountByLength.fA w.heap.size (w.heap.size + 1)] 93 (0, 0)); simpa using h_))
  have HBL := Aside0.mk (below_drew1 hb)
  clear hb
  have HDW := Aside0.mk (show w.heap.size ≠ go ∧ w.heap.size ≠ B from by have h_ := HLT.out; omega)
  have HDA := Aside0.mk (show w.heap.size + 1 ≠ go ∧ w.heap.size + 1 ≠ B from by have h_ := HLT.out; omega)
  refine start_ (n := 4) (S := fun w' => w'.cell? ⟨w.heap.size + 1, 0, none⟩ = some (impl_CountByLength.fA w.heap.size (w.heap.size + 1))) (ds := [3]) #[false, false, false, false] (by kernel_rfl) rfl rfl (blk_cell BKA.out 0) (fun hHeld => ?_)
  refine with_tabW impl_CountByLength.tab61 impl_CountByLength.bits61 (fun HT_ HW_ => ?_)
  generalize ((w.alloc (.cells #[impl_CountByLength.fW gO gC] 73 (0, 0))).alloc (.cells #[impl_CountByLength.fA w.heap.size (w.heap.size + 1)] 93 (0, 0))).drew = w1 at HBL BKW BKA hHeld ⊢
  refine pure_ (i := 1) (N := some 7) (v := ?_) (a' := ?_) #[false, true, false, false] rfl rfl (any_of HT_.out (by kernel_rfl)) (fun _ _ _ h => h) (Or.inl ⟨by rfl, ?_⟩) ?_ ?_
  rotate_left
  · intro w'
    go_simp
    with_reducible rfl
  rotate_left
  · simp only [Act.put, List.setIfInBounds_toArray, List.set_cons_zero, List.set_cons_succ, i64_w, i32_w]
    rfl
  refine take_ (i := 0) (N := some 6) (v := ?_) (a' := ?_) #[true, true, false, false] rfl rfl (take_ofW HT_.out HW_.out (by kernel_rfl)) (fun _ _ _ h => h) (Or.inl ⟨by rfl, ?_⟩) hHeld ?_ ?_
  rotate_left
  · rintro w' s0
    go_simp
    with_reducible rfl
  rotate_left
  · simp only [Act.put, List.setIfInBounds_toArray, List.set_cons_zero, List.set_cons_succ, i64_w, i32_w]
    rfl
  refine one_ (i := 2) (N := some 8) #[true, true, true, false] rfl rfl (one_of HT_.out (by kernel_rfl)) (by decide) (fun K hK => ?_)
  refine goes_ Try.func98 (by kernel_rfl) rfl #[.int .i64 n] (by rfl) rfl rfl (by (try simp only [List.map_toArray, List.map_cons, List.map_nil]); first | done | rfl) ?_
  refine (impl_identity.calls kn n idn _ HI.out).mono ?_
  rintro e w3 ⟨v3, rfl, hr3, hb⟩
  refine ⟨_, rfl, ?_⟩
  have HR3 := Aside0.mk (Kd.R_lower hr3 HBL.out.size)
  have n0_ := Aside0.mk (below_step HBL.out hb)
  have n1_ := Aside0.mk (blk_below BKW.out hb)
  have n2_ := Aside0.mk (blk_below BKA.out hb)
  clear HBL BKW BKA hHeld hr3 hb
  have HBL := n0_
  have BKW := n1_
  have BKA := n2_
  clear n0_ n1_ n2_
  obtain ⟨A3, c3, e3⟩ := Kd.R_slice HR3.out
  subst e3
  refine hK.out _ _ (blk_cell BKA.out 0) (fun hHeld => ?_)
  clear hK K
  refine norm_ (a' := ?_) ?_ ?_
  rotate_left
  · show Act.put _ (some 8) _ = _
    simp only [Act.put, List.setIfInBounds_toArray, List.set_cons_zero, List.set_cons_succ, i64_w, i32_w]
    rfl
  refine last_ (i := 3) (N := some 9) #[true, true, true, true] rfl rfl (one_of HT_.out (by kernel_rfl)) (by decide) (fun K hK => ?_)
  refine call_ 95 #[.slice none 0 0, .slice A3 idn.length c3, .pointer (some ⟨w.heap.size, 0, none⟩), .pointer (some ⟨w.heap.size + 1, 0, none⟩)] (by rfl) rfl ?hrun ?_
  case hrun =>
    have he := enters_ (P := Try.prog) (f := 95) (fn := Try.f95) Try.func95 rfl rfl #[.slice none 0 0, .slice A3 idn.length c3, .pointer (some ⟨w.heap.size, 0, none⟩), .pointer (some ⟨w.heap.size + 1, 0, none⟩)] w3
    unfold execOp
    simp [resolve, Deferred.ofValue, invoke, Act.eval, he]
  refine (impl_CountByLength.calls_add gO gC go N C B w.heap.size (w.heap.size + 1) HDW.out HDA.out w0 d [] (fun _ => False) none 0 idn (fun k_ => some k_ = (Value.slice A3 idn.length c3).ownBlock) A3 c3 s s' w3 (below_step HB.out HBL.out) (Kd.F_nil _ _ _) (fun _ h_ => h_.elim) (Nat.le_refl _) (Kd.R_F (Kd.R_tight rfl HR3.out)) (fun k_ h_ => by have h1_ := Kd.R_base HR3.out k_ h_.symm; have h2_ := HLT.out; omega) (Kd.R_reads' HR3.out).2.1 BKW.out BKA.out (HS.out.below HBL.out) HG.out).mono ?_
  rintro e w8 ⟨rfl, hs8, hb8, hk8⟩
  refine ⟨_, rfl, ?_⟩
  refine hK.out _ _ ?_
  clear hK K
  refine norm_ (a' := ?_) ?_ ?_
  rotate_left
  · show Act.put _ (some 9) _ = _
    simp only [Act.put, List.setIfInBounds_toArray, List.set_cons_zero, List.set_cons_succ, i64_w, i32_w]
    rfl
  refine done_ (done_of HT_.out (by kernel_rfl)) ?_
  first
  | go_end0
  | refine bodyPost_ret (results_none rfl _ _ _) rfl ?_
  exact ⟨rfl, hs8, hb8⟩
theorem impl_CountByLength.mk_sta {base : Nat} {w4 : World} {go N C : Nat} {xs : List Int} (hR : Kd.R (Kd.int .i64) 3 w4 base (fun k_ => k_ = go) (.slice (some ⟨go, 0, none⟩) N C) xs) (hb : base ≤ w4.heap.size) :
    impl_CountByLength.Sta base (((w4.alloc (.map #[] 0)).alloc (.cells #[.slice (some ⟨go, 0, none⟩) N C] 25 (0, 0))).alloc (.cells #[.map (some w4.heap.size)] 71 (0, 0))) (w4.heap.size + 1) (w4.heap.size + 1 + 1) go N C w4.heap.size (xs, 0) := by
  have hlt := Kd.R_lt hR go rfl
  have b1 := blk_new (w4.alloc (.map #[] 0)) (.cells #[.slice (some ⟨go, 0, none⟩) N C] 25 (0, 0))
  have b2 := blk_new ((w4.alloc (.map #[] 0)).alloc (.cells #[.slice (some ⟨go, 0, none⟩) N C] 25 (0, 0))) (.cells #[.map (some w4.heap.size)] 71 (0, 0))
  have e1 : (w4.alloc (.map #[] 0)).heap.size = w4.heap.size + 1 := by simp
  have e2 : ((w4.alloc (.map #[] 0)).alloc (.cells #[.slice (some ⟨go, 0, none⟩) N C] 25 (0, 0))).heap.size = w4.heap.size + 1 + 1 := by simp
  rw [e1] at b1
  rw [e2] at b2
  refine ⟨blk_alloc b1 _, b2, Kd.R_alloc (Kd.R_alloc (Kd.R_alloc hR _) _) _, ?_, hb, by omega, by omega, by omega, by omega, by omega⟩
  exact ((impl_counter_count.Mem.made w4).below (below_alloc (Below.refl _ _) _)).below (below_alloc (Below.refl _ _) _)
noncomputable def impl_CountByLength.f (n : Int) : Option (List Int × Bool) := if 2 ≤ n ∧ n ≤ 6 then (impl_CountByLength.ev fun k => impl_identity.f k n).bind fun idn => (impl_CountByLength.ev fun d => impl_CountByLength.g d [] idn (List.replicate (n * (n - 1) / 2 + 1).toNat 0, 0)).bind fun s => some (s.1, true) else some ([], false)
set_option maxHeartbeats 8000000 in
set_option maxRecDepth 100000 in
theorem impl_CountByLength.calls_2 (idn : List Int) (kn d : Nat) (s' : List Int × Nat) (w : World) (hi : impl_identity.f kn 2 = some idn) (hg : impl_CountByLength.g d [] idn (List.replicate ((2 : Int) * (2 - 1) / 2 + 1).toNat 0, 0) = some s') :
    Calls Try.prog 13 #[.int .i64 2] w fun e w' => ∃ v0_ : Value, e = .returned (.tuple #[v0_, .bool true]) ∧ Kd.R (Kd.int .i64) 3 w' w.heap.size (fun _ => True) v0_ s'.1 ∧ Below w.heap.size w w' := by
  have HI := Aside0.mk hi
  have HG := Aside0.mk (show impl_CountByLength.g d [] idn (List.replicate 2 0, 0) = some s' from hg)
  have HBT := Aside0.mk (show impl_between.f 2 2 6 = some true from rfl)
  have HB := Aside0.mk (Below.refl w.heap.size w)
  clear hi hg
  have hmm := @run_makeMap Try.prog
  go_enter Try.func13, Try.ntmps13
  go_wp2_with (first | (go_at_call 60; (with_reducible refine (impl_between.calls 2 2 6 true _ HBT.out).mono ?_); rintro e w' ⟨rfl, ⟨nd, rfl⟩⟩) | ((with_reducible refine gate_dst (N := 15) rfl ?_); refine Kd.R_make (Kd.int .i64) (w0 := w) w.heap.size 3 rfl (N := 15) rfl 25 _ _ rfl (2 : Int) rfl rfl Try.underlying25 (.int .i64 0) 8 info3 rfl (by decide) (by omega) 0 (ok := fun _ => True) (okp := fun _ => True) rfl (fun _ hk => hk) trivial (by decide) (by decide) ?hbm ?hsz ?_; (case hbm => exact pw_below_drewN HB.out nd); (case hsz => exact Nat.le_refl _); intro v16 w4 ho5 hb hg_ hnew_; obtain ⟨G, C, eG, hGb, hGl, _⟩ := Kd.R_form ho5 (by decide); subst eG; have HR := Aside0.mk (show Kd.R (Kd.int .i64) 3 w4 w.heap.size (fun k_ => k_ = G) (.slice (some ⟨G, 0, none⟩) 2 C) (List.replicate 2 0) from Kd.R_mono (Kd.R_tight rfl ho5) (fun k_ e_ => by simpa [Value.ownBlock] using e_)); have HB4 := Aside0.mk hb; clear hg_ hnew_ hb ho5 hGb hGl) | (go_at_call 61; (refine (impl_CountByLength.calls_orders (w4.heap.size + 1) (w4.heap.size + 1 + 1) G 2 C w4.heap.size 2 idn kn d (List.replicate 2 0, 0) s' w _ HI.out HG.out ?o1 ?o2).mono ?_); (case o1 => repeat (first | exact HB4.out | apply below_alloc)); (case o2 => exact impl_CountByLength.mk_sta HR.out HB4.out.size); rintro e w8 ⟨rfl, hs8, hb8⟩; have hco := blk_cell hs8.out.1 0; have HR8 := Aside0.mk hs8.out.2.2.1; have HB8 := Aside0.mk hb8; clear hs8 hb8))
  go_ret2
  exact ⟨_, rfl, Kd.R_mono HR8.out (fun _ _ => trivial), HB8.out⟩
set_option maxHeartbeats 8000000 in
set_option maxRecDepth 100000 in
theorem impl_CountByLength.calls_3 (idn : List Int) (kn d : Nat) (s' : List Int × Nat) (w : World) (hi : impl_identity.f kn 3 = some idn) (hg : impl_CountByLength.g d [] idn (List.replicate ((3 : Int) * (3 - 1) / 2 + 1).toNat 0, 0) = some s') :
    Calls Try.prog 13 #[.int .i64 3] w fun e w' => ∃ v0_ : Value, e = .returned (.tuple #[v0_, .bool true]) ∧ Kd.R (Kd.int .i64) 3 w' w.heap.size (fun _ => True) v0_ s'.1 ∧ Below w.heap.size w w' := by
  have HI := Aside0.mk hi
  have HG := Aside0.mk (show impl_CountByLength.g d [] idn (List.replicate 4 0, 0) = some s' from hg)
  have HBT := Aside0.mk (show impl_between.f 3 2 6 = some true from rfl)
  have HB := Aside0.mk (Below.refl w.heap.size w)
  clear hi hg
  have hmm := @run_makeMap Try.prog
  go_enter Try.func13, Try.ntmps13
  go_wp2_with (first | (go_at_call 60; (with_reducible refine (impl_between.calls 3 2 6 true _ HBT.out).mono ?_); rintro e w' ⟨rfl, ⟨nd, rfl⟩⟩) | ((with_reducible refine gate_dst (N := 15) rfl ?_); refine Kd.R_make (Kd.int .i64) (w0 := w) w.heap.size 3 rfl (N := 15) rfl 25 _ _ rfl (4 : Int) rfl rfl Try.underlying25 (.int .i64 0) 8 info3 rfl (by decide) (by omega) 0 (ok := fun _ => True) (okp := fun _ => True) rfl (fun _ hk => hk) trivial (by decide) (by decide) ?hbm ?hsz ?_; (case hbm => exact pw_below_drewN HB.out nd); (case hsz => exact Nat.le_refl _); intro v16 w4 ho5 hb hg_ hnew_; obtain ⟨G, C, eG, hGb, hGl, _⟩ := Kd.R_form ho5 (by decide); subst eG; have HR := Aside0.mk (show Kd.R (Kd.int .i64) 3 w4 w.heap.size (fun k_ => k_ = G) (.slice (some ⟨G, 0, none⟩) 4 C) (List.replicate 4 0) from Kd.R_mono (Kd.R_tight rfl ho5) (fun k_ e_ => by simpa [Value.ownBlock] using e_)); have HB4 := Aside0.mk hb; clear hg_ hnew_ hb ho5 hGb hGl) | (go_at_call 61; (refine (impl_CountByLength.calls_orders (w4.heap.size + 1) (w4.heap.size + 1 + 1) G 4 C w4.heap.size 3 idn kn d (List.replicate 4 0, 0) s' w _ HI.out HG.out ?o1 ?o2).mono ?_); (case o1 => repeat (first | exact HB4.out | apply below_alloc)); (case o2 => exact impl_CountByLength.mk_sta HR.out HB4.out.size); rintro e w8 ⟨rfl, hs8, hb8⟩; have hco := blk_cell hs8.out.1 0; have HR8 := Aside0.mk hs8.out.2.2.1; have HB8 := Aside0.mk hb8; clear hs8 hb8))
  go_ret2
  exact ⟨_, rfl, Kd.R_mono HR8.out (fun _ _ => trivial), HB8.out⟩
set_option maxHeartbeats 8000000 in
set_option maxRecDepth 100000 in
theorem impl_CountByLength.calls_4 (idn : List Int) (kn d : Nat) (s' : List Int × Nat) (w : World) (hi : impl_identity.f kn 4 = some idn) (hg : impl_CountByLength.g d [] idn (List.replicate ((4 : Int) * (4 - 1) / 2 + 1).toNat 0, 0) = some s') :
    Calls Try.prog 13 #[.int .i64 4] w fun e w' => ∃ v0_ : Value, e = .returned (.tuple #[v0_, .bool true]) ∧ Kd.R (Kd.int .i64) 3 w' w.heap.size (fun _ => True) v0_ s'.1 ∧ Below w.heap.size w w' := by
  have HI := Aside0.mk hi
  have HG := Aside0.mk (show impl_CountByLength.g d [] idn (List.replicate 7 0, 0) = some s' from hg)
  have HBT := Aside0.mk (show impl_between.f 4 2 6 = some true from rfl)
  have HB := Aside0.mk (Below.refl w.heap.size w)
  clear hi hg
  have hmm := @run_makeMap Try.prog
  go_enter Try.func13, Try.ntmps13
  go_wp2_with (first | (go_at_call 60; (with_reducible refine (impl_between.calls 4 2 6 true _ HBT.out).mono ?_); rintro e w' ⟨rfl, ⟨nd, rfl⟩⟩) | ((with_reducible refine gate_dst (N := 15) rfl ?_); refine Kd.R_make (Kd.int .i64) (w0 := w) w.heap.size 3 rfl (N := 15) rfl 25 _ _ rfl (7 : Int) rfl rfl Try.underlying25 (.int .i64 0) 8 info3 rfl (by decide) (by omega) 0 (ok := fun _ => True) (okp := fun _ => True) rfl (fun _ hk => hk) trivial (by decide) (by decide) ?hbm ?hsz ?_; (case hbm => exact pw_below_drewN HB.out nd); (case hsz => exact Nat.le_refl _); intro v16 w4 ho5 hb hg_ hnew_; obtain ⟨G, C, eG, hGb, hGl, _⟩ := Kd.R_form ho5 (by decide); subst eG; have HR := Aside0.mk (show Kd.R (Kd.int .i64) 3 w4 w.heap.size (fun k_ => k_ = G) (.slice (some ⟨G, 0, none⟩) 7 C) (List.replicate 7 0) from Kd.R_mono (Kd.R_tight rfl ho5) (fun k_ e_ => by simpa [Value.ownBlock] using e_)); have HB4 := Aside0.mk hb; clear hg_ hnew_ hb ho5 hGb hGl) | (go_at_call 61; (refine (impl_CountByLength.calls_orders (w4.heap.size + 1) (w4.heap.size + 1 + 1) G 7 C w4.heap.size 4 idn kn d (List.replicate 7 0, 0) s' w _ HI.out HG.out ?o1 ?o2).mono ?_); (case o1 => repeat (first | exact HB4.out | apply below_alloc)); (case o2 => exact impl_CountByLength.mk_sta HR.out HB4.out.size); rintro e w8 ⟨rfl, hs8, hb8⟩; have hco := blk_cell hs8.out.1 0; have HR8 := Aside0.mk hs8.out.2.2.1; have HB8 := Aside0.mk hb8; clear hs8 hb8))
  go_ret2
  exact ⟨_, rfl, Kd.R_mono HR8.out (fun _ _ => trivial), HB8.out⟩
set_option maxHeartbeats 8000000 in
set_option maxRecDepth 100000 in
theorem impl_CountByLength.calls_5 (idn : List Int) (kn d : Nat) (s' : List Int × Nat) (w : World) (hi : impl_identity.f kn 5 = some idn) (hg : impl_CountByLength.g d [] idn (List.replicate ((5 : Int) * (5 - 1) / 2 + 1).toNat 0, 0) = some s') :
    Calls Try.prog 13 #[.int .i64 5] w fun e w' => ∃ v0_ : Value, e = .returned (.tuple #[v0_, .bool true]) ∧ Kd.R (Kd.int .i64) 3 w' w.heap.size (fun _ => True) v0_ s'.1 ∧ Below w.heap.size w w' := by
  have HI := Aside0.mk hi
  have HG := Aside0.mk (show impl_CountByLength.g d [] idn (List.replicate 11 0, 0) = some s' from hg)
  have HBT := Aside0.mk (show impl_between.f 5 2 6 = some true from rfl)
  have HB := Aside0.mk (Below.refl w.heap.size w)
  clear hi hg
  have hmm := @run_makeMap Try.prog
  go_enter Try.func13, Try.ntmps13
  go_wp2_with (first | (go_at_call 60; (with_reducible refine (impl_between.calls 5 2 6 true _ HBT.out).mono ?_); rintro e w' ⟨rfl, ⟨nd, rfl⟩⟩) | ((with_reducible refine gate_dst (N := 15) rfl ?_); refine Kd.R_make (Kd.int .i64) (w0 := w) w.heap.size 3 rfl (N := 15) rfl 25 _ _ rfl (11 : Int) rfl rfl Try.underlying25 (.int .i64 0) 8 info3 rfl (by decide) (by omega) 0 (ok := fun _ => True) (okp := fun _ => True) rfl (fun _ hk => hk) trivial (by decide) (by decide) ?hbm ?hsz ?_; (case hbm => exact pw_below_drewN HB.out nd); (case hsz => exact Nat.le_refl _); intro v16 w4 ho5 hb hg_ hnew_; obtain ⟨G, C, eG, hGb, hGl, _⟩ := Kd.R_form ho5 (by decide); subst eG; have HR := Aside0.mk (show Kd.R (Kd.int .i64) 3 w4 w.heap.size (fun k_ => k_ = G) (.slice (some ⟨G, 0, none⟩) 11 C) (List.replicate 11 0) from Kd.R_mono (Kd.R_tight rfl ho5) (fun k_ e_ => by simpa [Value.ownBlock] using e_)); have HB4 := Aside0.mk hb; clear hg_ hnew_ hb ho5 hGb hGl) | (go_at_call 61; (refine (impl_CountByLength.calls_orders (w4.heap.size + 1) (w4.heap.size + 1 + 1) G 11 C w4.heap.size 5 idn kn d (List.replicate 11 0, 0) s' w _ HI.out HG.out ?o1 ?o2).mono ?_); (case o1 => repeat (first | exact HB4.out | apply below_alloc)); (case o2 => exact impl_CountByLength.mk_sta HR.out HB4.out.size); rintro e w8 ⟨rfl, hs8, hb8⟩; have hco := blk_cell hs8.out.1 0; have HR8 := Aside0.mk hs8.out.2.2.1; have HB8 := Aside0.mk hb8; clear hs8 hb8))
  go_ret2
  exact ⟨_, rfl, Kd.R_mono HR8.out (fun _ _ => trivial), HB8.out⟩
set_option maxHeartbeats 8000000 in
set_option maxRecDepth 100000 in
theorem impl_CountByLength.calls_6 (idn : List Int) (kn d : Nat) (s' : List Int × Nat) (w : World) (hi : impl_identity.f kn 6 = some idn) (hg : impl_CountByLength.g d [] idn (List.replicate ((6 : Int) * (6 - 1) / 2 + 1).toNat 0, 0) = some s') :
    Calls Try.prog 13 #[.int .i64 6] w fun e w' => ∃ v0_ : Value, e = .returned (.tuple #[v0_, .bool true]) ∧ Kd.R (Kd.int .i64) 3 w' w.heap.size (fun _ => True) v0_ s'.1 ∧ Below w.heap.size w w' := by
  have HI := Aside0.mk hi
  have HG := Aside0.mk (show impl_CountByLength.g d [] idn (List.replicate 16 0, 0) = some s' from hg)
  have HBT := Aside0.mk (show impl_between.f 6 2 6 = some true from rfl)
  have HB := Aside0.mk (Below.refl w.heap.size w)
  clear hi hg
  have hmm := @run_makeMap Try.prog
  go_enter Try.func13, Try.ntmps13
  go_wp2_with (first | (go_at_call 60; (with_reducible refine (impl_between.calls 6 2 6 true _ HBT.out).mono ?_); rintro e w' ⟨rfl, ⟨nd, rfl⟩⟩) | ((with_reducible refine gate_dst (N := 15) rfl ?_); refine Kd.R_make (Kd.int .i64) (w0 := w) w.heap.size 3 rfl (N := 15) rfl 25 _ _ rfl (16 : Int) rfl rfl Try.underlying25 (.int .i64 0) 8 info3 rfl (by decide) (by omega) 0 (ok := fun _ => True) (okp := fun _ => True) rfl (fun _ hk => hk) trivial (by decide) (by decide) ?hbm ?hsz ?_; (case hbm => exact pw_below_drewN HB.out nd); (case hsz => exact Nat.le_refl _); intro v16 w4 ho5 hb hg_ hnew_; obtain ⟨G, C, eG, hGb, hGl, _⟩ := Kd.R_form ho5 (by decide); subst eG; have HR := Aside0.mk (show Kd.R (Kd.int .i64) 3 w4 w.heap.size (fun k_ => k_ = G) (.slice (some ⟨G, 0, none⟩) 16 C) (List.replicate 16 0) from Kd.R_mono (Kd.R_tight rfl ho5) (fun k_ e_ => by simpa [Value.ownBlock] using e_)); have HB4 := Aside0.mk hb; clear hg_ hnew_ hb ho5 hGb hGl) | (go_at_call 61; (refine (impl_CountByLength.calls_orders (w4.heap.size + 1) (w4.heap.size + 1 + 1) G 16 C w4.heap.size 6 idn kn d (List.replicate 16 0, 0) s' w _ HI.out HG.out ?o1 ?o2).mono ?_); (case o1 => repeat (first | exact HB4.out | apply below_alloc)); (case o2 => exact impl_CountByLength.mk_sta HR.out HB4.out.size); rintro e w8 ⟨rfl, hs8, hb8⟩; have hco := blk_cell hs8.out.1 0; have HR8 := Aside0.mk hs8.out.2.2.1; have HB8 := Aside0.mk hb8; clear hs8 hb8))
  go_ret2
  exact ⟨_, rfl, Kd.R_mono HR8.out (fun _ _ => trivial), HB8.out⟩
theorem impl_CountByLength.calls (a0 : Int) (r1 : List Int) (r2 : Bool) (w : World) (h : impl_CountByLength.f a0 = some (r1, r2)) :
    Calls Try.prog 13 #[.int .i64 a0] w fun e w' => ∃ v0_ : Value, e = .returned (.tuple #[v0_, .bool r2]) ∧ Kd.R (Kd.int .i64) 3 w' w.heap.size (fun _ => True) v0_ r1 ∧ Below w.heap.size w w' := by
  unfold impl_CountByLength.f at h
  split at h
  · rename_i hn
    obtain ⟨idn, hi, h⟩ := Option.bind_eq_some_iff.1 h
    obtain ⟨kn, hi⟩ := impl_CountByLength.ev_some hi
    obtain ⟨s, hg, h⟩ := Option.bind_eq_some_iff.1 h
    obtain ⟨d, hg⟩ := impl_CountByLength.ev_some hg
    simp only [Option.some.injEq, Prod.mk.injEq] at h
    obtain ⟨rfl, rfl⟩ := h
    obtain rfl | rfl | rfl | rfl | rfl : a0 = 2 ∨ a0 = 3 ∨ a0 = 4 ∨ a0 = 5 ∨ a0 = 6 := by omega
    · exact impl_CountByLength.calls_2 idn kn d s w hi hg
    · exact impl_CountByLength.calls_3 idn kn d s w hi hg
    · exact impl_CountByLength.calls_4 idn kn d s w hi hg
    · exact impl_CountByLength.calls_5 idn kn d s w hi hg
    · exact impl_CountByLength.calls_6 idn kn d s w hi hg
  · rename_i hn
    simp only [Option.some.injEq, Prod.mk.injEq] at h
    obtain ⟨rfl, rfl⟩ := h
    have hbt : impl_between.f a0 2 6 = some false := by
      unfold impl_between.f
      by_cases h2 : a0 ≥ 2
      · rw [if_pos h2, decide_eq_false (by omega)]
      · rw [if_neg h2]
    have HBT := Aside0.mk hbt
    clear hn hbt
    go_enter Try.func13, Try.ntmps13
    go_wp2_with (go_at_call 60; (with_reducible refine (impl_between.calls a0 2 6 false _ HBT.out).mono ?_); rintro e w' ⟨rfl, ⟨nd, rfl⟩⟩)
    go_ret2
    exact ⟨_, rfl, Kd.R_nil _ _ _ _ _, pw_below_drewN (Below.refl _ _) nd⟩

/-! ### impl_CountAllLeast: function 11 -/
def impl_CountAllLeast.l0 : Nat → Bool → Int → List Int → Int → Int → Option (Int × Bool)
  | 0, _, _, _, _, _ => none
  | k + 1, x5, x6, x14, x15, x16 => if x16 < x15 then (if 0 ≤ x16 then (if x16 < (x14.length : Int) then (impl_CountAllLeast.l0 k x5 (wrap64 (x6 + (rd x14 x16))) x14 x15 (wrap64 (x16 + 1))) else (none)) else (none)) else (some (x6, x5))
def impl_CountAllLeast.f (k : Nat) (a0 : Int) : Option (Int × Bool) := (impl_CountByLength.f a0).bind fun bt197 => (impl_CountAllLeast.l0 k bt197.2 0 bt197.1 (bt197.1.length : Int) 0)
theorem impl_CountAllLeast.mono_l : ∀ k, (∀ y0 y1 y2 y3 y4, LeO (impl_CountAllLeast.l0 k y0 y1 y2 y3 y4) (impl_CountAllLeast.l0 (k + 1) y0 y1 y2 y3 y4))
  | 0 => fun _ _ _ _ _ r h => by simp [impl_CountAllLeast.l0] at h
  | k + 1 => by
    have ih0 := impl_CountAllLeast.mono_l k
    · intro y0 y1 y2 y3 y4
      unfold impl_CountAllLeast.l0
      repeat' first
      | (with_reducible exact ih0 _ _ _ _ _)
      | (with_reducible exact LeO.refl _)
      | (with_reducible exact LeO.none _)
      | (with_reducible refine LeO.ite ?_ ?_)
      | (with_reducible refine LeO.bind ?_ (fun _ => ?_))
      | exact ih0 _ _ _ _ _
      | exact LeO.none _
      | refine LeO.ite ?_ ?_
      | refine LeO.bind ?_ (fun _ => ?_)
theorem impl_CountAllLeast.mono : ∀ a0 k, LeO (impl_CountAllLeast.f k a0) (impl_CountAllLeast.f (k + 1) a0) := by
  intro a0 k
  have ih0 := impl_CountAllLeast.mono_l k
  unfold impl_CountAllLeast.f
  repeat' first
      | (with_reducible exact ih0 _ _ _ _ _)
      | (with_reducible exact LeO.refl _)
      | (with_reducible exact LeO.none _)
      | (with_reducible refine LeO.ite ?_ ?_)
      | (with_reducible refine LeO.bind ?_ (fun _ => ?_))
      | exact ih0 _ _ _ _ _
      | exact LeO.none _
      | refine LeO.ite ?_ ?_
      | refine LeO.bind ?_ (fun _ => ?_)
set_option maxHeartbeats 8000000 in
set_option maxRecDepth 100000 in
theorem impl_CountAllLeast.calls (k : Nat) (a0 : Int) (r1 : Int) (r2 : Bool) (w : World) (h : impl_CountAllLeast.f k a0 = some (r1, r2)) :
    Calls Try.prog 11 #[.int .i64 a0] w fun e w' => e = .returned (.tuple #[.int .i64 r1, .bool r2]) ∧ Below w.heap.size w w' := by
  have HB := Aside0.mk (Below.refl w.heap.size w)
  have H : ((impl_CountByLength.f a0).bind fun bt197 => (impl_CountAllLeast.l0 k bt197.2 0 bt197.1 (bt197.1.length : Int) 0)) = some (r1, r2) := h
  clear h
  replace H := Option.bind_eq_some_iff.mp H
  obtain ⟨⟨t197, t198⟩, A20, H⟩ := H
  replace H : (impl_CountAllLeast.l0 k t198 0 t197 (t197.length : Int) 0) = some (r1, r2) := H
  have A2 := Aside0.mk A20
  clear A20
  have H' := Aside0.mk H
  clear H
  go_enter Try.func11, Try.ntmps11
  go_wp2_with (first | ((with_reducible refine gate_callee (f := 13) rfl ?_); refine goesL_ (some 11) rfl rfl Try.func13 (by kernel_rfl) rfl #[.int .i64 a0] rfl (by (try simp only [List.map_toArray, List.map_cons, List.map_nil]); first | done | rfl | (simp only [List.length_drop, List.length_take]; rfl)) ?_; (with_reducible refine (impl_CountByLength.calls a0 t197 t198 _ A2.out).mono ?_); rintro e w3 ⟨v199, rfl, ho0, hb⟩; refine ⟨_, rfl, ?_⟩; have n0_ := Aside0.mk (Kd.R_lower ho0 (below_size (by repeat (first | (with_reducible first | exact HB.out | apply below_alloc | apply pw_below_drewN | apply below_drew1) | exact HB.out)))); have n1_ := Aside0.mk (below_step (by repeat (first | (with_reducible first | exact HB.out | apply below_alloc | apply pw_below_drewN | apply below_drew1) | exact HB.out)) hb); clear HB; have HO200 := n0_; have HB := n1_; clear n0_ n1_; (try clear hb); (try clear hb2); (try clear hk); (try clear hi); (try clear ho0); obtain ⟨Ao4, co4, eo4⟩ := Kd.R_slice HO200.out; subst eo4))
  go_loopg [6, 16] k (fun kq v6 v16 w' => ∃ (x6_1 : Int) (x16_1 : Int), v6 = .int .i64 x6_1 ∧ v16 = .int .i64 x16_1 ∧ Aside0 (impl_CountAllLeast.l0 kq t198 x6_1 t197 (t197.length : Int) x16_1 = some (r1, r2)) ∧ Aside0 (kq ≤ k) ∧ Aside0 (Kd.R (Kd.int .i64) 3 w' w.heap.size (fun _ => True) (.slice Ao4 t197.length co4) t197) ∧ Aside0 (Below w.heap.size w w'))
  case atStart => exact ⟨(0), (0), (by first | rfl | (simp; done) | (simp [*]; done)), (by first | rfl | (simp; done) | (simp [*]; done)), H', ⟨Nat.le_refl _⟩, ⟨by (with_reducible repeat (first | apply Kd.R_alloc | apply Kd.R_drewN | apply Kd.R_drew)); exact HO200.out⟩, ⟨by repeat (first | (with_reducible first | exact HB.out | apply below_alloc | apply pw_below_drewN | apply below_drew1) | exact HB.out)⟩⟩
  case round =>
    clear H'
    try clear c1
    try clear p2
    obtain ⟨x6_1, x16_1, rfl, rfl, HA, HK1, HO_14, HB⟩ := hrel
    cases gk with
    | zero => exact absurd HA.out (by simp [impl_CountAllLeast.l0])
    | succ k1 =>
      have H := HA.out
      clear HA
      simp only [impl_CountAllLeast.l0] at H
      by_cases c5 : x16_1 < (t197.length : Int)
      · rw [if_pos c5] at H
        have c5b0 : decide (x16_1 < (t197.length : Int)) = true := decide_eq_true c5
        clear c5
        by_cases c6 : 0 ≤ x16_1
        · rw [if_pos c6] at H
          have c6b0 : decide (0 ≤ x16_1) = true := decide_eq_true c6
          clear c6
          by_cases c7 : x16_1 < (t197.length : Int)
          · rw [if_pos c7] at H
            have c7b0 : decide (x16_1 < (t197.length : Int)) = true := decide_eq_true c7
            clear c7
            have H' := Aside0.mk H
            clear H
            have p201 : 0 ≤ (x16_1 : Int) := of_decide_eq_true (by first | (with_reducible assumption) | assumption)
            have q201 : x16_1 < (t197.length : Int) := of_decide_eq_true (by first | (with_reducible assumption) | assumption)
            obtain ⟨ad201, e201, hx201_0⟩ := Kd.at_int (Kd.R_reads' HO_14.out).2.2 x16_1 p201 q201
            cases e201
            replace p201 := eq_true p201
            replace q201 := eq_true q201
            go_wp2
            go_roundg k1
            case measure => have := HK1.out; omega
            case rel => exact ⟨(wrap64 (x6_1 + (rd t197 x16_1))), (wrap64 (x16_1 + 1)), (by first | rfl | (simp; done) | (simp [*]; done)), (by first | rfl | (simp; done) | (simp [*]; done)), H', ⟨by have := HK1.out; omega⟩, ⟨by (with_reducible repeat (first | apply Kd.R_alloc | apply Kd.R_drewN | apply Kd.R_drew)); exact HO_14.out⟩, ⟨by repeat (first | (with_reducible first | exact HB.out | apply below_alloc | apply pw_below_drewN | apply below_drew1) | exact HB.out)⟩⟩
          · rw [if_neg c7] at H
            exact absurd H (by simp)
        · rw [if_neg c6] at H
          exact absurd H (by simp)
      · rw [if_neg c5] at H
        have c5b0 : decide (x16_1 < (t197.length : Int)) = false := decide_eq_false c5
        clear c5
        simp only [Option.some.injEq, Prod.mk.injEq] at H
        obtain ⟨rfl, rfl⟩ := H
        go_wp2
        go_ret2
        exact ⟨by first | rfl | (simp [errW_none, errW_some] <;> rfl) | (simp [*, errW_none, errW_some] <;> rfl), by repeat (first | (with_reducible first | exact HB.out | apply below_alloc | apply pw_below_drewN | apply below_drew1) | exact HB.out)⟩

/-! ### laws_big: function 32 -/
def laws_big.f (l0 : List Int) (l1 : List Int) : Option (Bool) := if (l0.length : Int) > 1048576 then (some true) else (some (decide ((l1.length : Int) > (wrap64 (1048576 - (l0.length : Int))))))
set_option maxHeartbeats 8000000 in
set_option maxRecDepth 100000 in
theorem laws_big.calls (A0 : Option Addr) (c0 : Nat) (l0 : List Int) (A1 : Option Addr) (c1 : Nat) (l1 : List Int) (r : Bool) (w : World) (hr0 : Kd.C (Kd.int .u8) w A0 l0.length l0) (hc0 : l0.length ≤ c0) (hr1 : Kd.C (Kd.int .u8) w A1 l1.length l1) (hc1 : l1.length ≤ c1) (h : laws_big.f l0 l1 = some r) :
    Calls Try.prog 32 #[.slice A0 l0.length c0, .slice A1 l1.length c1] w fun e w' => e = .returned (.bool r) ∧ Drawn0 w w' := by
  have HR0 := Aside0.mk hr0
  have HC0 := Aside0.mk hc0
  clear hr0 hc0
  have HR1 := Aside0.mk hr1
  have HC1 := Aside0.mk hc1
  clear hr1 hc1
  have H : (if (l0.length : Int) > 1048576 then (some true) else (some (decide ((l1.length : Int) > (wrap64 (1048576 - (l0.length : Int))))))) = some r := h
  clear h
  by_cases c3 : (l0.length : Int) > 1048576
  · rw [if_pos c3] at H
    have c3b0 : decide (1048576 < (l0.length : Int)) = true := decide_eq_true c3
    have c3b1 : decide (1048576 < l0.length) = true := decide_eq_true (by omega)
    clear c3
    obtain rfl := Option.some.inj H
    go_enter Try.func32, Try.ntmps32
    go_wp2
    go_ret
    exact ⟨by first | rfl | (simp; done) | (simp [*]; done), by repeat (first | exact Drawn0.refl _ | apply Drawn0.step)⟩
  · rw [if_neg c3] at H
    have c3b0 : decide (1048576 < (l0.length : Int)) = false := decide_eq_false c3
    have c3b1 : decide (1048576 < l0.length) = false := decide_eq_false (by omega)
    clear c3
    obtain rfl := Option.some.inj H
    go_enter Try.func32, Try.ntmps32
    go_wp2
    go_ret
    exact ⟨by first | rfl | (simp; done) | (simp [*]; done), by repeat (first | exact Drawn0.refl _ | apply Drawn0.step)⟩

/-- A state of type 84 at block g of W; what its slices lead to came in by w0. -/
def IsS84 (w0 W : World) (g : Nat) (f0 : List Int) (f1 : Int) (f2 : Int) : Prop := ∃ A0 c0, W.heap[g]? = some (.cells #[.slice A0 f0.length c0, .int .i64 f1, .int .u64 f2] 84 (0, 0)) ∧ w0.heap.size ≤ g ∧ Kd.C (Kd.int .u8) w0 A0 f0.length f0
theorem IsS84.grown {w0 W : World} {g : Nat} {f0 : List Int} {f1 : Int} {f2 : Int} {W1 : World} {row : Option Nat} (h : IsS84 w0 W g f0 f1 f2) (hw : W.grownBy W1 row) (hne : some g ≠ row) : IsS84 w0 W1 g f0 f1 f2 := by
  obtain ⟨A0, c0, hb, hg, hr0⟩ := h
  exact ⟨A0, c0, blk_grown hb hw hne, hg, hr0⟩
theorem IsS84.own_neN {w0 W : World} {g : Nat} {f0 : List Int} {f1 : Int} {f2 : Int} {α : Type} {d : Kd α} {e : Nat} {base : Nat} {ok : Nat → Prop} {v : Value} {xs : List α} (h : IsS84 w0 W g f0 f1 f2) (ho : Kd.N d e W base ok v xs) (ht : e ≠ 84) : some g ≠ v.ownBlock := by
  obtain ⟨A0, c0, hb, hg, hr0⟩ := h
  exact Kd.N_ne ho hb ht
theorem IsS84.fresh {w0 W : World} {g : Nat} {f0 : List Int} {f1 : Int} {f2 : Int} (h : IsS84 w0 W g f0 f1 f2) : ∀ k, W.heap.size ≤ k → k ≠ g := by
  obtain ⟨A0, c0, hb, hg, hr0⟩ := h
  exact Kd.freshB hb
theorem IsS84.kept {w0 W : World} {g : Nat} {f0 : List Int} {f1 : Int} {f2 : Int} {W1 : World} {S : Nat → Prop} (h : IsS84 w0 W g f0 f1 f2) (hk : Kept W W1 S) (hne : ¬ S g) : IsS84 w0 W1 g f0 f1 f2 := by
  obtain ⟨A0, c0, hb, hg, hr0⟩ := h
  exact ⟨A0, c0, blk_kept hb hk hne, hg, hr0⟩
theorem IsS84.below {w0 W : World} {g : Nat} {f0 : List Int} {f1 : Int} {f2 : Int} {W1 : World} (h : IsS84 w0 W g f0 f1 f2) (hw : Below W.heap.size W W1) : IsS84 w0 W1 g f0 f1 f2 := h.grown (grown_of_below hw none) (by simp)
theorem IsS84.alloc {w0 W : World} {g : Nat} {f0 : List Int} {f1 : Int} {f2 : Int} (h : IsS84 w0 W g f0 f1 f2) (o : Obj) : IsS84 w0 (W.alloc o) g f0 f1 f2 := h.below (below_alloc (Below.refl _ _) o)
theorem IsS84.drewN {w0 W : World} {g : Nat} {f0 : List Int} {f1 : Int} {f2 : Int} (h : IsS84 w0 W g f0 f1 f2) (m : Nat) : IsS84 w0 (W.drewN m) g f0 f1 f2 := h
theorem IsS84.drew {w0 W : World} {g : Nat} {f0 : List Int} {f1 : Int} {f2 : Int} (h : IsS84 w0 W g f0 f1 f2) : IsS84 w0 W.drew g f0 f1 f2 := h
theorem IsS84.at_ {w0 W : World} {g : Nat} {f0 : List Int} {f1 : Int} {f2 : Int} {w' : World} {m : Nat} (hq : W.drewN m = w') (h : IsS84 w0 W g f0 f1 f2) : IsS84 w0 w' g f0 f1 f2 := by subst hq; exact IsS84.drewN h m
theorem IsS84.apart {w0 W : World} {g : Nat} {f0 : List Int} {f1 : Int} {f2 : Int} {α : Type} {d : Kd α} {e : Nat} {base : Nat} {ok : Nat → Prop} {v : Value} {xs : List α} (h : IsS84 w0 W g f0 f1 f2) (ho : d.R e W base ok v xs) (ht : ∀ q, q ∈ e :: d.E → q ≠ 84) : d.R e W base (fun k => ok k ∧ k ≠ g) v xs := by
  obtain ⟨A0, c0, hb, hg, hr0⟩ := h
  exact Kd.R_types ho hb ht
theorem IsS84.own_ne {w0 W : World} {g : Nat} {f0 : List Int} {f1 : Int} {f2 : Int} {α : Type} {d : Kd α} {e : Nat} {base : Nat} {ok : Nat → Prop} {v : Value} {xs : List α} (h : IsS84 w0 W g f0 f1 f2) (ho : d.R e W base ok v xs) (ht : e ≠ 84) : some g ≠ v.ownBlock := by
  obtain ⟨A0, c0, hb, hg, hr0⟩ := h
  exact Kd.R_ne ho hb ht
theorem IsS84.apartQ {w0 W : World} {g : Nat} {f0 : List Int} {f1 : Int} {f2 : Int} {α : Type} {d : Kd α} {e : Nat} {base : Nat} {ok : Nat → Prop} {v : Value} {xs : List α} (h : IsS84 w0 W g f0 f1 f2) (ho : d.Q e W base ok v xs) (ht : ∀ q, q ∈ e :: d.E → q ≠ 84) : d.Q e W base (fun k => ok k ∧ k ≠ g) v xs := by
  obtain ⟨A0, c0, hb, hg, hr0⟩ := h
  exact Kd.Q_types ho hb ht
theorem IsS84.own_neQ {w0 W : World} {g : Nat} {f0 : List Int} {f1 : Int} {f2 : Int} {α : Type} {d : Kd α} {e : Nat} {base : Nat} {ok : Nat → Prop} {v : Value} {xs : List α} (h : IsS84 w0 W g f0 f1 f2) (ho : d.Q e W base ok v xs) (ht : e ≠ 84) : some g ≠ v.ownBlock := by
  obtain ⟨A0, c0, hb, hg, hr0⟩ := h
  exact Kd.Q_ne ho hb ht
theorem IsS84.apartS {w0 W : World} {g : Nat} {f0 : List Int} {f1 : Int} {f2 : Int} {α : Type} {d : Kd α} {e : Nat} {base : Nat} {ok : Nat → Prop} {v : Value} {xs : List α} (h : IsS84 w0 W g f0 f1 f2) (ho : d.S e W base ok v xs) (ht : ∀ q, q ∈ e :: d.E → q ≠ 84) : d.S e W base (fun k => ok k ∧ k ≠ g) v xs := by
  obtain ⟨A0, c0, hb, hg, hr0⟩ := h
  exact Kd.S_types ho hb ht
theorem IsS84.own_neS {w0 W : World} {g : Nat} {f0 : List Int} {f1 : Int} {f2 : Int} {α : Type} {d : Kd α} {e : Nat} {base : Nat} {ok : Nat → Prop} {v : Value} {xs : List α} (h : IsS84 w0 W g f0 f1 f2) (ho : d.S e W base ok v xs) (ht : e ≠ 84) : some g ≠ v.ownBlock := by
  obtain ⟨A0, c0, hb, hg, hr0⟩ := h
  exact Kd.S_ne ho hb ht
theorem IsS84.lt {w0 W : World} {g : Nat} {f0 : List Int} {f1 : Int} {f2 : Int} (h : IsS84 w0 W g f0 f1 f2) : g < W.heap.size := by
  obtain ⟨A0, c0, hb, hg, hr0⟩ := h
  exact blk_lt hb
theorem IsS84.ge {w0 W : World} {g : Nat} {f0 : List Int} {f1 : Int} {f2 : Int} (h : IsS84 w0 W g f0 f1 f2) : w0.heap.size ≤ g := by
  obtain ⟨A0, c0, hb, hg, hr0⟩ := h
  exact hg
theorem IsS84.ne_blk {w0 W : World} {g : Nat} {f0 : List Int} {f1 : Int} {f2 : Int} {a : Nat} {cs : Array Value} {t : TypeId} {fr : Nat × Nat} (h : IsS84 w0 W g f0 f1 f2) (hb2 : W.heap[a]? = some (.cells cs t fr)) (ht : t ≠ 84) : g ≠ a := by
  obtain ⟨A0, c0, hb, hg, hr0⟩ := h
  rintro rfl
  rw [hb] at hb2
  injection hb2 with hb2
  injection hb2 with _ ht2
  exact ht ht2.symm
theorem IsS84.far {w0 W : World} {g : Nat} {f0 : List Int} {f1 : Int} {f2 : Int} {p : Addr} (h : IsS84 w0 W g f0 f1 f2) (hne : g ≠ p.block) (u : Value) : IsS84 w0 (W.setCell p u) g f0 f1 f2 := by
  obtain ⟨A0, c0, hb, hg, hr0⟩ := h
  exact ⟨A0, c0, blk_far hb hne u, hg, hr0⟩
theorem cellS84_0 {W : World} {g : Nat} {A0 : Option Addr} {c0 : Nat} {f0 : List Int} {f1 : Int} {f2 : Int} (h : W.heap[g]? = some (.cells #[.slice A0 f0.length c0, .int .i64 f1, .int .u64 f2] 84 (0, 0))) : W.cell? ⟨g, 0, none⟩ = some (.slice A0 f0.length c0) := (blk_cell h 0).trans rfl
theorem cellS84_1 {W : World} {g : Nat} {A0 : Option Addr} {c0 : Nat} {f0 : List Int} {f1 : Int} {f2 : Int} (h : W.heap[g]? = some (.cells #[.slice A0 f0.length c0, .int .i64 f1, .int .u64 f2] 84 (0, 0))) : W.cell? ⟨g, 1, none⟩ = some (.int .i64 f1) := (blk_cell h 1).trans rfl
theorem IsS84.set_1 {w0 W : World} {g : Nat} {f0 : List Int} {f1 : Int} {f2 : Int} (h : IsS84 w0 W g f0 f1 f2) (x : Int) : IsS84 w0 (W.setCell ⟨g, 1, none⟩ (.int .i64 x)) g f0 x f2 := by
  obtain ⟨A0, c0, hb, hg, hr0⟩ := h
  exact ⟨A0, c0, by simpa using blk_set hb 1 (.int .i64 x), hg, hr0⟩
theorem cellS84_2 {W : World} {g : Nat} {A0 : Option Addr} {c0 : Nat} {f0 : List Int} {f1 : Int} {f2 : Int} (h : W.heap[g]? = some (.cells #[.slice A0 f0.length c0, .int .i64 f1, .int .u64 f2] 84 (0, 0))) : W.cell? ⟨g, 2, none⟩ = some (.int .u64 f2) := (blk_cell h 2).trans rfl
theorem IsS84.set_2 {w0 W : World} {g : Nat} {f0 : List Int} {f1 : Int} {f2 : Int} (h : IsS84 w0 W g f0 f1 f2) (x : Int) : IsS84 w0 (W.setCell ⟨g, 2, none⟩ (.int .u64 x)) g f0 f1 x := by
  obtain ⟨A0, c0, hb, hg, hr0⟩ := h
  exact ⟨A0, c0, by simpa using blk_set hb 2 (.int .u64 x), hg, hr0⟩
theorem IsS84.new (w0 W : World) (A0 : Option Addr) (c0 : Nat) (f0 : List Int) (f1 : Int) (f2 : Int) (hB : Below w0.heap.size w0 W) (hr0 : Kd.C (Kd.int .u8) w0 A0 f0.length f0) : IsS84 w0 (W.alloc (.cells #[.slice A0 f0.length c0, .int .i64 f1, .int .u64 f2] 84)) W.heap.size f0 f1 f2 := ⟨A0, c0, by simpa using heap_alloc_new W _, hB.size, hr0⟩

/-! ### spec_l1Cur_next: function 114 -/
def spec_l1Cur_next.f (s0_0 : List Int) (s0_1 : Int) (s0_2 : Int) : Option (Int × Int × Int) := if s0_1 < (s0_0.length : Int) then (if 0 ≤ s0_1 then (if (wrap64 (s0_1 + 1)) ≤ (s0_0.length : Int) then (some (wrap64 (rd s0_0 s0_1), wrap64 (s0_1 + 1), IntKind.u64.wrap ((IntKind.u64.wrap ((IntKind.u64.wrap (s0_2 * 6364136223846793005)) + (IntKind.u64.wrap (wrap64 (rd s0_0 s0_1))))) + 1442695040888963407))) else (some (wrap64 (Go.bits .and .u64 ((IntKind.u64.wrap ((IntKind.u64.wrap ((IntKind.u64.wrap (s0_2 * 6364136223846793005)) + (IntKind.u64.wrap (wrap64 (rd s0_0 s0_1))))) + 1442695040888963407)) / 1099511627776) 255), wrap64 (s0_1 + 1), IntKind.u64.wrap ((IntKind.u64.wrap ((IntKind.u64.wrap (s0_2 * 6364136223846793005)) + (IntKind.u64.wrap (wrap64 (rd s0_0 s0_1))))) + 1442695040888963407)))) else (none)) else (if (wrap64 (s0_1 + 1)) ≤ (s0_0.length : Int) then (some (0, wrap64 (s0_1 + 1), IntKind.u64.wrap ((IntKind.u64.wrap ((IntKind.u64.wrap (s0_2 * 6364136223846793005)) + 0)) + 1442695040888963407))) else (some (wrap64 (Go.bits .and .u64 ((IntKind.u64.wrap ((IntKind.u64.wrap ((IntKind.u64.wrap (s0_2 * 6364136223846793005)) + 0)) + 1442695040888963407)) / 1099511627776) 255), wrap64 (s0_1 + 1), IntKind.u64.wrap ((IntKind.u64.wrap ((IntKind.u64.wrap (s0_2 * 6364136223846793005)) + 0)) + 1442695040888963407))))
set_option maxHeartbeats 8000000 in
set_option maxRecDepth 100000 in
theorem spec_l1Cur_next.calls (g : Nat) (s0_0 : List Int) (s0_1 : Int) (s0_2 : Int) (r1 : Int) (r2 : Int) (r3 : Int) (w0 w : World) (hI : IsS84 w0 w g s0_0 s0_1 s0_2) (hB : Below w0.heap.size w0 w) (h : spec_l1Cur_next.f s0_0 s0_1 s0_2 = some (r1, r2, r3)) :
    Calls Try.prog 114 #[.pointer (some ⟨g, 0, none⟩)] w fun e w' => e = .returned (.int .i64 r1) ∧ IsS84 w0 w' g s0_0 r2 r3 ∧ Below w0.heap.size w0 w' ∧ KeepBut w w' g none := by
  have HI0 := Aside0.mk hI
  have HK := Aside0.mk (KeepBut.refl w g none)
  have HL := Aside0.mk hB.size
  clear hI
  have HW0 := Aside0.mk hB.size
  have HB := Aside0.mk hB
  clear hB
  have H : (if s0_1 < (s0_0.length : Int) then (if 0 ≤ s0_1 then (if (wrap64 (s0_1 + 1)) ≤ (s0_0.length : Int) then (some (wrap64 (rd s0_0 s0_1), wrap64 (s0_1 + 1), IntKind.u64.wrap ((IntKind.u64.wrap ((IntKind.u64.wrap (s0_2 * 6364136223846793005)) + (IntKind.u64.wrap (wrap64 (rd s0_0 s0_1))))) + 1442695040888963407))) else (some (wrap64 (Go.bits .and .u64 ((IntKind.u64.wrap ((IntKind.u64.wrap ((IntKind.u64.wrap (s0_2 * 6364136223846793005)) + (IntKind.u64.wrap (wrap64 (rd s0_0 s0_1))))) + 1442695040888963407)) / 1099511627776) 255), wrap64 (s0_1 + 1), IntKind.u64.wrap ((IntKind.u64.wrap ((IntKind.u64.wrap (s0_2 * 6364136223846793005)) + (IntKind.u64.wrap (wrap64 (rd s0_0 s0_1))))) + 1442695040888963407)))) else (none)) else (if (wrap64 (s0_1 + 1)) ≤ (s0_0.length : Int) then (some (0, wrap64 (s0_1 + 1), IntKind.u64.wrap ((IntKind.u64.wrap ((IntKind.u64.wrap (s0_2 * 6364136223846793005)) + 0)) + 1442695040888963407))) else (some (wrap64 (Go.bits .and .u64 ((IntKind.u64.wrap ((IntKind.u64.wrap ((IntKind.u64.wrap (s0_2 * 6364136223846793005)) + 0)) + 1442695040888963407)) / 1099511627776) 255), wrap64 (s0_1 + 1), IntKind.u64.wrap ((IntKind.u64.wrap ((IntKind.u64.wrap (s0_2 * 6364136223846793005)) + 0)) + 1442695040888963407))))) = some (r1, r2, r3) := h
  clear h
  by_cases c2 : s0_1 < (s0_0.length : Int)
  · rw [if_pos c2] at H
    have c2b0 : decide (s0_1 < (s0_0.length : Int)) = true := decide_eq_true c2
    clear c2
    by_cases c3 : 0 ≤ s0_1
    · rw [if_pos c3] at H
      have c3b0 : decide (0 ≤ s0_1) = true := decide_eq_true c3
      clear c3
      by_cases c4 : (wrap64 (s0_1 + 1)) ≤ (s0_0.length : Int)
      · rw [if_pos c4] at H
        have c4b0 : decide ((wrap64 (s0_1 + 1)) ≤ (s0_0.length : Int)) = true := decide_eq_true c4
        clear c4
        simp only [Option.some.injEq, Prod.mk.injEq] at H
        obtain ⟨rfl, rfl, rfl⟩ := H
        obtain ⟨ASz5_0, cSz5_0, HGz5, hgz5, HSz5_0⟩ := HI0.out
        have hcz5_0 := cellS84_0 HGz5
        have hcz5_1 := cellS84_1 HGz5
        have hcz5_2 := cellS84_2 HGz5
        have hfz5_1 := blk_frozen HGz5 1
        have hfz5_2 := blk_frozen HGz5 2
        clear HGz5 hgz5
        have p202 : 0 ≤ (s0_1 : Int) := of_decide_eq_true (by first | (with_reducible assumption) | assumption)
        have q202 : s0_1 < (s0_0.length : Int) := of_decide_eq_true (by first | (with_reducible assumption) | assumption)
        obtain ⟨ad202, e202, hx202_0⟩ := Kd.at_int HSz5_0 s0_1 p202 q202
        cases e202
        replace hx202_0 := pw_cell_below HB.out hx202_0
        replace p202 := eq_true p202
        replace q202 := eq_true q202
        go_enter Try.func114, Try.ntmps114
        go_wp2
        repeat (go_quiet (fail); try go_wp2)
        go_ret
        exact ⟨by first | rfl | (simp [errW_none, errW_some] <;> rfl) | (simp [*, errW_none, errW_some] <;> rfl), by (try simp only [Int.add_zero]); repeat (first | (with_reducible first | exact HI0.out | apply IsS84.alloc | apply IsS84.drewN | apply IsS84.drew | apply IsS84.set_1 | apply IsS84.set_2) | exact HI0.out), by repeat (first | (with_reducible first | exact HB.out | apply below_alloc | apply pw_below_drewN | apply below_drew1 | refine below_set ?_ (IsS84.ge HI0.out)) | exact HB.out), by repeat (first | (with_reducible first | exact HK.out | apply KeepBut.set_ | apply keep_drewN | apply keep_drew | apply keep_alloc) | exact HK.out)⟩
      · rw [if_neg c4] at H
        have c4b0 : decide ((wrap64 (s0_1 + 1)) ≤ (s0_0.length : Int)) = false := decide_eq_false c4
        clear c4
        simp only [Option.some.injEq, Prod.mk.injEq] at H
        obtain ⟨rfl, rfl, rfl⟩ := H
        obtain ⟨ASz6_0, cSz6_0, HGz6, hgz6, HSz6_0⟩ := HI0.out
        have hcz6_0 := cellS84_0 HGz6
        have hcz6_1 := cellS84_1 HGz6
        have hcz6_2 := cellS84_2 HGz6
        have hfz6_1 := blk_frozen HGz6 1
        have hfz6_2 := blk_frozen HGz6 2
        clear HGz6 hgz6
        have p202 : 0 ≤ (s0_1 : Int) := of_decide_eq_true (by first | (with_reducible assumption) | assumption)
        have q202 : s0_1 < (s0_0.length : Int) := of_decide_eq_true (by first | (with_reducible assumption) | assumption)
        obtain ⟨ad202, e202, hx202_0⟩ := Kd.at_int HSz6_0 s0_1 p202 q202
        cases e202
        replace hx202_0 := pw_cell_below HB.out hx202_0
        replace p202 := eq_true p202
        replace q202 := eq_true q202
        go_enter Try.func114, Try.ntmps114
        go_wp2
        repeat (go_quiet (fail); try go_wp2)
        go_ret
        exact ⟨by first | rfl | (simp [errW_none, errW_some] <;> rfl) | (simp [*, errW_none, errW_some] <;> rfl), by (try simp only [Int.add_zero]); repeat (first | (with_reducible first | exact HI0.out | apply IsS84.alloc | apply IsS84.drewN | apply IsS84.drew | apply IsS84.set_1 | apply IsS84.set_2) | exact HI0.out), by repeat (first | (with_reducible first | exact HB.out | apply below_alloc | apply pw_below_drewN | apply below_drew1 | refine below_set ?_ (IsS84.ge HI0.out)) | exact HB.out), by repeat (first | (with_reducible first | exact HK.out | apply KeepBut.set_ | apply keep_drewN | apply keep_drew | apply keep_alloc) | exact HK.out)⟩
    · rw [if_neg c3] at H
      exact absurd H (by simp)
  · rw [if_neg c2] at H
    have c2b0 : decide (s0_1 < (s0_0.length : Int)) = false := decide_eq_false c2
    clear c2
    by_cases c7 : (wrap64 (s0_1 + 1)) ≤ (s0_0.length : Int)
    · rw [if_pos c7] at H
      have c7b0 : decide ((wrap64 (s0_1 + 1)) ≤ (s0_0.length : Int)) = true := decide_eq_true c7
      clear c7
      simp only [Option.some.injEq, Prod.mk.injEq] at H
      obtain ⟨rfl, rfl, rfl⟩ := H
      obtain ⟨ASz8_0, cSz8_0, HGz8, hgz8, HSz8_0⟩ := HI0.out
      have hcz8_0 := cellS84_0 HGz8
      have hcz8_1 := cellS84_1 HGz8
      have hcz8_2 := cellS84_2 HGz8
      have hfz8_1 := blk_frozen HGz8 1
      have hfz8_2 := blk_frozen HGz8 2
      clear HGz8 hgz8
      go_enter Try.func114, Try.ntmps114
      go_wp2
      repeat (go_quiet (fail); try go_wp2)
      go_ret
      exact ⟨by first | rfl | (simp [errW_none, errW_some] <;> rfl) | (simp [*, errW_none, errW_some] <;> rfl), by (try simp only [Int.add_zero]); repeat (first | (with_reducible first | exact HI0.out | apply IsS84.alloc | apply IsS84.drewN | apply IsS84.drew | apply IsS84.set_1 | apply IsS84.set_2) | exact HI0.out), by repeat (first | (with_reducible first | exact HB.out | apply below_alloc | apply pw_below_drewN | apply below_drew1 | refine below_set ?_ (IsS84.ge HI0.out)) | exact HB.out), by repeat (first | (with_reducible first | exact HK.out | apply KeepBut.set_ | apply keep_drewN | apply keep_drew | apply keep_alloc) | exact HK.out)⟩
    · rw [if_neg c7] at H
      have c7b0 : decide ((wrap64 (s0_1 + 1)) ≤ (s0_0.length : Int)) = false := decide_eq_false c7
      clear c7
      simp only [Option.some.injEq, Prod.mk.injEq] at H
      obtain ⟨rfl, rfl, rfl⟩ := H
      obtain ⟨ASz9_0, cSz9_0, HGz9, hgz9, HSz9_0⟩ := HI0.out
      have hcz9_0 := cellS84_0 HGz9
      have hcz9_1 := cellS84_1 HGz9
      have hcz9_2 := cellS84_2 HGz9
      have hfz9_1 := blk_frozen HGz9 1
      have hfz9_2 := blk_frozen HGz9 2
      clear HGz9 hgz9
      go_enter Try.func114, Try.ntmps114
      go_wp2
      repeat (go_quiet (fail); try go_wp2)
      go_ret
      exact ⟨by first | rfl | (simp [errW_none, errW_some] <;> rfl) | (simp [*, errW_none, errW_some] <;> rfl), by (try simp only [Int.add_zero]); repeat (first | (with_reducible first | exact HI0.out | apply IsS84.alloc | apply IsS84.drewN | apply IsS84.drew | apply IsS84.set_1 | apply IsS84.set_2) | exact HI0.out), by repeat (first | (with_reducible first | exact HB.out | apply below_alloc | apply pw_below_drewN | apply below_drew1 | refine below_set ?_ (IsS84.ge HI0.out)) | exact HB.out), by repeat (first | (with_reducible first | exact HK.out | apply KeepBut.set_ | apply keep_drewN | apply keep_drew | apply keep_alloc) | exact HK.out)⟩

/-! ### spec_l1Cur_pick: function 87 -/
def spec_l1Cur_pick.f (s0_0 : List Int) (s0_1 : Int) (s0_2 : Int) (a1 : Int) : Option (Int × Int × Int) := if a1 ≤ 1 then (some (0, s0_1, s0_2)) else ((spec_l1Cur_next.f s0_0 s0_1 s0_2).bind fun bt203 => (if a1 > 200 then ((spec_l1Cur_next.f s0_0 bt203.2.1 bt203.2.2).bind fun bt206 => (if a1 = 0 then (none) else (some (Int.tmod (wrap64 ((wrap64 (bt203.1 * 256)) + bt206.1)) a1, bt206.2.1, bt206.2.2)))) else (if a1 = 0 then (none) else (some (Int.tmod bt203.1 a1, bt203.2.1, bt203.2.2)))))
set_option maxHeartbeats 8000000 in
set_option maxRecDepth 100000 in
theorem spec_l1Cur_pick.calls (g : Nat) (s0_0 : List Int) (s0_1 : Int) (s0_2 : Int) (a1 : Int) (r1 : Int) (r2 : Int) (r3 : Int) (w0 w : World) (hI : IsS84 w0 w g s0_0 s0_1 s0_2) (hB : Below w0.heap.size w0 w) (h : spec_l1Cur_pick.f s0_0 s0_1 s0_2 a1 = some (r1, r2, r3)) :
    Calls Try.prog 87 #[.pointer (some ⟨g, 0, none⟩), .int .i64 a1] w fun e w' => e = .returned (.int .i64 r1) ∧ IsS84 w0 w' g s0_0 r2 r3 ∧ Below w0.heap.size w0 w' ∧ KeepBut w w' g none := by
  have HI0 := Aside0.mk hI
  have HK := Aside0.mk (KeepBut.refl w g none)
  have HL := Aside0.mk hB.size
  clear hI
  have HW0 := Aside0.mk hB.size
  have HB := Aside0.mk hB
  clear hB
  have H : (if a1 ≤ 1 then (some (0, s0_1, s0_2)) else ((spec_l1Cur_next.f s0_0 s0_1 s0_2).bind fun bt203 => (if a1 > 200 then ((spec_l1Cur_next.f s0_0 bt203.2.1 bt203.2.2).bind fun bt206 => (if a1 = 0 then (none) else (some (Int.tmod (wrap64 ((wrap64 (bt203.1 * 256)) + bt206.1)) a1, bt206.2.1, bt206.2.2)))) else (if a1 = 0 then (none) else (some (Int.tmod bt203.1 a1, bt203.2.1, bt203.2.2)))))) = some (r1, r2, r3) := h
  clear h
  by_cases c3 : a1 ≤ 1
  · rw [if_pos c3] at H
    have c3b0 : decide (a1 ≤ 1) = true := decide_eq_true c3
    clear c3
    simp only [Option.some.injEq, Prod.mk.injEq] at H
    obtain ⟨rfl, rfl, rfl⟩ := H
    go_enter Try.func87, Try.ntmps87
    go_wp2
    go_ret
    exact ⟨by first | rfl | (simp [errW_none, errW_some] <;> rfl) | (simp [*, errW_none, errW_some] <;> rfl), by repeat (first | (with_reducible first | exact HI0.out | apply IsS84.alloc | apply IsS84.drewN | apply IsS84.drew | apply IsS84.set_1 | apply IsS84.set_2) | exact HI0.out), by repeat (first | (with_reducible first | exact HB.out | apply below_alloc | apply pw_below_drewN | apply below_drew1 | refine below_set ?_ (IsS84.ge HI0.out)) | exact HB.out), by repeat (first | (with_reducible first | exact HK.out | apply KeepBut.set_ | apply keep_drewN | apply keep_drew | apply keep_alloc) | exact HK.out)⟩
  · rw [if_neg c3] at H
    have c3b0 : decide (a1 ≤ 1) = false := decide_eq_false c3
    clear c3
    replace H := Option.bind_eq_some_iff.mp H
    obtain ⟨⟨t203, t204, t205⟩, A40, H⟩ := H
    replace H : (if a1 > 200 then ((spec_l1Cur_next.f s0_0 t204 t205).bind fun bt206 => (if a1 = 0 then (none) else (some (Int.tmod (wrap64 ((wrap64 (t203 * 256)) + bt206.1)) a1, bt206.2.1, bt206.2.2)))) else (if a1 = 0 then (none) else (some (Int.tmod t203 a1, t204, t205)))) = some (r1, r2, r3) := H
    have A4 := Aside0.mk A40
    clear A40
    by_cases c5 : a1 > 200
    · rw [if_pos c5] at H
      have c5b0 : decide (200 < a1) = true := decide_eq_true c5
      clear c5
      replace H := Option.bind_eq_some_iff.mp H
      obtain ⟨⟨t206, t207, t208⟩, A60, H⟩ := H
      replace H : (if a1 = 0 then (none) else (some (Int.tmod (wrap64 ((wrap64 (t203 * 256)) + t206)) a1, t207, t208))) = some (r1, r2, r3) := H
      have A6 := Aside0.mk A60
      clear A60
      by_cases c7 : a1 = 0
      · rw [if_pos c7] at H
        exact absurd H (by simp)
      · rw [if_neg c7] at H
        have c7b0 : (a1 == 0) = false := beq_eq_false_iff_ne.mpr c7
        have c7b1 : (a1 != 0) = true := bne_iff_ne.mpr c7
        simp only [Option.some.injEq, Prod.mk.injEq] at H
        obtain ⟨rfl, rfl, rfl⟩ := H
        go_enter Try.func87, Try.ntmps87
        go_wp2_with (first | ((with_reducible refine gate_callee (f := 114) rfl ?_); refine goesL_ (some 9) rfl rfl Try.func114 (by kernel_rfl) rfl #[.pointer (some ⟨g, 0, none⟩)] rfl (by (try simp only [List.map_toArray, List.map_cons, List.map_nil]); first | done | rfl | (simp only [List.length_drop, List.length_take]; rfl)) ?_; (with_reducible refine (spec_l1Cur_next.calls g s0_0 s0_1 s0_2 t203 t204 t205 w0 _ ?side1 ?side2 A4.out).mono ?_); (case side1 => repeat (first | (with_reducible first | exact HI0.out | apply IsS84.alloc | apply IsS84.drewN | apply IsS84.drew | apply IsS84.set_1 | apply IsS84.set_2) | exact HI0.out)); (case side2 => repeat (first | (with_reducible first | exact HB.out | apply below_alloc | apply pw_below_drewN | apply below_drew1 | refine below_set ?_ (IsS84.ge HI0.out)) | exact HB.out)); rintro e w8 ⟨rfl, hi, hb, hk⟩; refine ⟨_, rfl, ?_⟩; have n0_ := Aside0.mk (KeepBut.trans (by repeat (first | (with_reducible first | exact HK.out | apply KeepBut.set_ | apply keep_drewN | apply keep_drew | apply keep_alloc) | exact HK.out)) hk (.inl rfl)); have n1_ := Aside0.mk (hb); have n2_ := Aside0.mk (hi); clear HK; clear HB; clear HI0; have HK := n0_; have HB := n1_; have HI0 := n2_; clear n0_ n1_ n2_; (try clear hb); (try clear hb2); (try clear hk); (try clear hi)) | ((with_reducible refine gate_callee (f := 114) rfl ?_); refine goesL_ (some 15) rfl rfl Try.func114 (by kernel_rfl) rfl #[.pointer (some ⟨g, 0, none⟩)] rfl (by (try simp only [List.map_toArray, List.map_cons, List.map_nil]); first | done | rfl | (simp only [List.length_drop, List.length_take]; rfl)) ?_; (with_reducible refine (spec_l1Cur_next.calls g s0_0 t204 t205 t206 t207 t208 w0 _ ?side1 ?side2 A6.out).mono ?_); (case side1 => repeat (first | (with_reducible first | exact HI0.out | apply IsS84.alloc | apply IsS84.drewN | apply IsS84.drew | apply IsS84.set_1 | apply IsS84.set_2) | exact HI0.out)); (case side2 => repeat (first | (with_reducible first | exact HB.out | apply below_alloc | apply pw_below_drewN | apply below_drew1 | refine below_set ?_ (IsS84.ge HI0.out)) | exact HB.out)); rintro e w9 ⟨rfl, hi, hb, hk⟩; refine ⟨_, rfl, ?_⟩; have n0_ := Aside0.mk (KeepBut.trans (by repeat (first | (with_reducible first | exact HK.out | apply KeepBut.set_ | apply keep_drewN | apply keep_drew | apply keep_alloc) | exact HK.out)) hk (.inl rfl)); have n1_ := Aside0.mk (hb); have n2_ := Aside0.mk (hi); clear HK; clear HB; clear HI0; have HK := n0_; have HB := n1_; have HI0 := n2_; clear n0_ n1_ n2_; (try clear hb); (try clear hb2); (try clear hk); (try clear hi)))
        go_ret
        exact ⟨by first | rfl | (simp [errW_none, errW_some] <;> rfl) | (simp [*, errW_none, errW_some] <;> rfl), by repeat (first | (with_reducible first | exact HI0.out | apply IsS84.alloc | apply IsS84.drewN | apply IsS84.drew | apply IsS84.set_1 | apply IsS84.set_2) | exact HI0.out), by repeat (first | (with_reducible first | exact HB.out | apply below_alloc | apply pw_below_drewN | apply below_drew1 | refine below_set ?_ (IsS84.ge HI0.out)) | exact HB.out), by repeat (first | (with_reducible first | exact HK.out | apply KeepBut.set_ | apply keep_drewN | apply keep_drew | apply keep_alloc) | exact HK.out)⟩
    · rw [if_neg c5] at H
      have c5b0 : decide (200 < a1) = false := decide_eq_false c5
      clear c5
      by_cases c10 : a1 = 0
      · rw [if_pos c10] at H
        exact absurd H (by simp)
      · rw [if_neg c10] at H
        have c10b0 : (a1 == 0) = false := beq_eq_false_iff_ne.mpr c10
        have c10b1 : (a1 != 0) = true := bne_iff_ne.mpr c10
        simp only [Option.some.injEq, Prod.mk.injEq] at H
        obtain ⟨rfl, rfl, rfl⟩ := H
        go_enter Try.func87, Try.ntmps87
        go_wp2_with (first | ((with_reducible refine gate_callee (f := 114) rfl ?_); refine goesL_ (some 9) rfl rfl Try.func114 (by kernel_rfl) rfl #[.pointer (some ⟨g, 0, none⟩)] rfl (by (try simp only [List.map_toArray, List.map_cons, List.map_nil]); first | done | rfl | (simp only [List.length_drop, List.length_take]; rfl)) ?_; (with_reducible refine (spec_l1Cur_next.calls g s0_0 s0_1 s0_2 t203 t204 t205 w0 _ ?side1 ?side2 A4.out).mono ?_); (case side1 => repeat (first | (with_reducible first | exact HI0.out | apply IsS84.alloc | apply IsS84.drewN | apply IsS84.drew | apply IsS84.set_1 | apply IsS84.set_2) | exact HI0.out)); (case side2 => repeat (first | (with_reducible first | exact HB.out | apply below_alloc | apply pw_below_drewN | apply below_drew1 | refine below_set ?_ (IsS84.ge HI0.out)) | exact HB.out)); rintro e w11 ⟨rfl, hi, hb, hk⟩; refine ⟨_, rfl, ?_⟩; have n0_ := Aside0.mk (KeepBut.trans (by repeat (first | (with_reducible first | exact HK.out | apply KeepBut.set_ | apply keep_drewN | apply keep_drew | apply keep_alloc) | exact HK.out)) hk (.inl rfl)); have n1_ := Aside0.mk (hb); have n2_ := Aside0.mk (hi); clear HK; clear HB; clear HI0; have HK := n0_; have HB := n1_; have HI0 := n2_; clear n0_ n1_ n2_; (try clear hb); (try clear hb2); (try clear hk); (try clear hi)))
        go_ret
        exact ⟨by first | rfl | (simp [errW_none, errW_some] <;> rfl) | (simp [*, errW_none, errW_some] <;> rfl), by repeat (first | (with_reducible first | exact HI0.out | apply IsS84.alloc | apply IsS84.drewN | apply IsS84.drew | apply IsS84.set_1 | apply IsS84.set_2) | exact HI0.out), by repeat (first | (with_reducible first | exact HB.out | apply below_alloc | apply pw_below_drewN | apply below_drew1 | refine below_set ?_ (IsS84.ge HI0.out)) | exact HB.out), by repeat (first | (with_reducible first | exact HK.out | apply KeepBut.set_ | apply keep_drewN | apply keep_drew | apply keep_alloc) | exact HK.out)⟩

/-! ### spec_l1Cur_among: function 91 -/
def spec_l1Cur_among.f (s0_0 : List Int) (s0_1 : Int) (s0_2 : Int) (l1 : List Int) : Option (Int × Int × Int) := (spec_l1Cur_pick.f s0_0 s0_1 s0_2 (l1.length : Int)).bind fun bt209 => (if 0 ≤ bt209.1 then (if bt209.1 < (l1.length : Int) then (some (rd l1 bt209.1, bt209.2.1, bt209.2.2)) else (none)) else (none))
set_option maxHeartbeats 8000000 in
set_option maxRecDepth 100000 in
theorem spec_l1Cur_among.calls (g : Nat) (s0_0 : List Int) (s0_1 : Int) (s0_2 : Int) (A1 : Option Addr) (c1 : Nat) (l1 : List Int) (r1 : Int) (r2 : Int) (r3 : Int) (w0 w : World) (hI : IsS84 w0 w g s0_0 s0_1 s0_2) (hB : Below w0.heap.size w0 w) (hr1 : Kd.C (Kd.int .i64) w A1 l1.length l1) (hc1 : l1.length ≤ c1) (hf1 : ∀ ad, A1 = some ad → 0 < l1.length → ad.block ≠ g) (h : spec_l1Cur_among.f s0_0 s0_1 s0_2 l1 = some (r1, r2, r3)) :
    Calls Try.prog 91 #[.pointer (some ⟨g, 0, none⟩), .slice A1 l1.length c1] w fun e w' => e = .returned (.int .i64 r1) ∧ IsS84 w0 w' g s0_0 r2 r3 ∧ Below w0.heap.size w0 w' ∧ KeepBut w w' g none := by
  have HR1 := Aside0.mk hr1
  have HC1 := Aside0.mk hc1
  clear hr1 hc1
  have HI0 := Aside0.mk hI
  have HK := Aside0.mk (KeepBut.refl w g none)
  have HL := Aside0.mk hB.size
  clear hI
  have HW0 := Aside0.mk hB.size
  have HB := Aside0.mk hB
  clear hB
  have H : ((spec_l1Cur_pick.f s0_0 s0_1 s0_2 (l1.length : Int)).bind fun bt209 => (if 0 ≤ bt209.1 then (if bt209.1 < (l1.length : Int) then (some (rd l1 bt209.1, bt209.2.1, bt209.2.2)) else (none)) else (none))) = some (r1, r2, r3) := h
  clear h
  replace H := Option.bind_eq_some_iff.mp H
  obtain ⟨⟨t209, t210, t211⟩, A30, H⟩ := H
  replace H : (if 0 ≤ t209 then (if t209 < (l1.length : Int) then (some (rd l1 t209, t210, t211)) else (none)) else (none)) = some (r1, r2, r3) := H
  have A3 := Aside0.mk A30
  clear A30
  by_cases c4 : 0 ≤ t209
  · rw [if_pos c4] at H
    have c4b0 : decide (0 ≤ t209) = true := decide_eq_true c4
    clear c4
    by_cases c5 : t209 < (l1.length : Int)
    · rw [if_pos c5] at H
      have c5b0 : decide (t209 < (l1.length : Int)) = true := decide_eq_true c5
      clear c5
      simp only [Option.some.injEq, Prod.mk.injEq] at H
      obtain ⟨rfl, rfl, rfl⟩ := H
      go_enter Try.func91, Try.ntmps91
      go_wp2_with (first | ((with_reducible refine gate_callee (f := 87) rfl ?_); refine goesL_ (some 9) rfl rfl Try.func87 (by kernel_rfl) rfl #[.pointer (some ⟨g, 0, none⟩), .int .i64 (l1.length : Int)] rfl (by (try simp only [List.map_toArray, List.map_cons, List.map_nil]); first | done | rfl | (simp only [List.length_drop, List.length_take]; rfl)) ?_; (with_reducible refine (spec_l1Cur_pick.calls g s0_0 s0_1 s0_2 (l1.length : Int) t209 t210 t211 w0 _ ?side1 ?side2 A3.out).mono ?_); (case side1 => repeat (first | (with_reducible first | exact HI0.out | apply IsS84.alloc | apply IsS84.drewN | apply IsS84.drew | apply IsS84.set_1 | apply IsS84.set_2) | exact HI0.out)); (case side2 => repeat (first | (with_reducible first | exact HB.out | apply below_alloc | apply pw_below_drewN | apply below_drew1 | refine below_set ?_ (IsS84.ge HI0.out)) | exact HB.out)); rintro e w6 ⟨rfl, hi, hb, hk⟩; refine ⟨_, rfl, ?_⟩; have n0_ := Aside0.mk (KeepBut.trans (by repeat (first | (with_reducible first | exact HK.out | apply KeepBut.set_ | apply keep_drewN | apply keep_drew | apply keep_alloc) | exact HK.out)) hk (.inl rfl)); have n1_ := Aside0.mk (hb); have n2_ := Aside0.mk (hi); clear HK; clear HB; clear HI0; have HK := n0_; have HB := n1_; have HI0 := n2_; clear n0_ n1_ n2_; (try clear hb); (try clear hb2); (try clear hk); (try clear hi); have p212 : 0 ≤ (t209 : Int) := of_decide_eq_true (by first | (with_reducible assumption) | assumption); have q212 : t209 < (l1.length : Int) := of_decide_eq_true (by first | (with_reducible assumption) | assumption); obtain ⟨ad212, e212, hx212_0⟩ := Kd.at_int HR1.out t209 p212 q212; cases e212; replace hx212_0 := keep_cell HK.out hx212_0 (by first | (rw [add_block]; exact hf1 _ rfl (by omega)) | exact hf1 _ rfl (by omega) | exact hf1 ad212 rfl (by omega)); replace p212 := eq_true p212; replace q212 := eq_true q212))
      go_ret
      exact ⟨by first | rfl | (simp [errW_none, errW_some] <;> rfl) | (simp [*, errW_none, errW_some] <;> rfl), by repeat (first | (with_reducible first | exact HI0.out | apply IsS84.alloc | apply IsS84.drewN | apply IsS84.drew | apply IsS84.set_1 | apply IsS84.set_2) | exact HI0.out), by repeat (first | (with_reducible first | exact HB.out | apply below_alloc | apply pw_below_drewN | apply below_drew1 | refine below_set ?_ (IsS84.ge HI0.out)) | exact HB.out), by repeat (first | (with_reducible first | exact HK.out | apply KeepBut.set_ | apply keep_drewN | apply keep_drew | apply keep_alloc) | exact HK.out)⟩
    · rw [if_neg c5] at H
      exact absurd H (by simp)
  · rw [if_neg c4] at H
    exact absurd H (by simp)

/-! ### spec_DrawCountAllLeast: function 81 -/
def spec_DrawCountAllLeast.f (l0 : List Int) : Option (Int) := (spec_l1Cur_among.f l0 0 0 (([2, 3, 4, 5, 4, 5, 6, 1, 7, (-1)] : List Int))).bind fun bt217 => (some bt217.1)
set_option maxHeartbeats 8000000 in
set_option maxRecDepth 100000 in
theorem spec_DrawCountAllLeast.calls (A0 : Option Addr) (c0 : Nat) (l0 : List Int) (r : Int) (w : World) (hr0 : Kd.C (Kd.int .u8) w A0 l0.length l0) (hc0 : l0.length ≤ c0) (h : spec_DrawCountAllLeast.f l0 = some r) :
    Calls Try.prog 81 #[.slice A0 l0.length c0] w fun e w' => e = .returned (.int .i64 r) ∧ Below w.heap.size w w' := by
  have hu84 := Try.underlying84
  have HR0 := Aside0.mk hr0
  have HC0 := Aside0.mk hc0
  clear hr0 hc0
  have HB := Aside0.mk (Below.refl w.heap.size w)
  have H : ((spec_l1Cur_among.f l0 0 0 (([2, 3, 4, 5, 4, 5, 6, 1, 7, (-1)] : List Int))).bind fun bt217 => (some bt217.1)) = some r := h
  clear h
  obtain ⟨y214, hy214⟩ : ∃ y_ : List Int, y_ = (([2, 3, 4, 5, 4, 5, 6, 1, 7, (-1)] : List Int)) := ⟨_, rfl⟩
  replace H : ((spec_l1Cur_among.f l0 0 0 y214).bind fun bt217 => (some bt217.1)) = some r := by first | (rw [hy214]; with_reducible exact H) | (have H2_ := (Option.bind_some _ _).symm.trans H; rw [hy214]; with_reducible exact H2_) | (have H2_ := (Option.bind_some _ _).symm.trans H; with_reducible exact H2_) | with_reducible exact H | (rw [hy214]; exact H) | exact H
  have Ny214 := Aside0.mk hy214
  clear hy214
  replace H := Option.bind_eq_some_iff.mp H
  obtain ⟨⟨t217, t218, t219⟩, A20, H⟩ := H
  replace H : (some t217) = some r := H
  have A2 := Aside0.mk A20
  clear A20
  obtain rfl := Option.some.inj H
  go_enter Try.func81, Try.ntmps81
  go_wp2_with (first | ((with_reducible refine gate_dst (N := 6) rfl ?_); refine box_event ?hg (N := 6) ?hd (cs := #[.slice A0 l0.length c0, .int .i64 0, .int .u64 0]) (t := 84) ?hr ?_; (case hd => rfl); (case hg => rfl); (case hr => first | (go_simp; done) | (go_simp; rfl)); intro gb213 hg w3 hbox hb; have n0_ := Aside0.mk (below_step (by repeat (first | (with_reducible first | exact HB.out | apply below_alloc | apply pw_below_drewN | apply below_drew1) | exact HB.out)) hb); have n1_ := Aside0.mk (hbox); have n2_ := Aside0.mk ((by rw [hg]; exact (below_size (by repeat (first | (with_reducible first | exact HB.out | apply below_alloc | apply pw_below_drewN | apply below_drew1) | exact HB.out))) : w.heap.size ≤ gb213)); have n3_ := Aside0.mk ((by rw [hg]; exact (below_size (by repeat (first | (with_reducible first | exact HB.out | apply below_alloc | apply pw_below_drewN | apply below_drew1) | exact HB.out))) : w.heap.size ≤ gb213)); clear HB; have HB := n0_; have BK213 := n1_; have GW213 := n2_; have GE213 := n3_; clear n0_ n1_ n2_ n3_; clear hb hbox hg) | ((with_reducible refine gate_dst (N := 8) rfl ?_); refine Kd.R_lit (Kd.int .i64) _ 3 ?hg (N := 8) ?hd (xs := ([2, 3, 4, 5, 4, 5, 6, 1, 7, (-1)] : List Int)) (inner := [.int .i64 2, .int .i64 3, .int .i64 4, .int .i64 5, .int .i64 4, .int .i64 5, .int .i64 6, .int .i64 1, .int .i64 7, .int .i64 (-1)]) (ok := fun _ => True) (okp := fun _ => True) ?hr ?hp (fun _ hk => hk) trivial (Below.refl _ _) (Nat.le_refl _) (by simp) ?_; (case hd => rfl); (case hg => rfl); (case hr => first | (go_simp; done) | (go_simp; rfl)); (case hp => exact (Reps.one (show Kd.M (Kd.int .i64) _ _ _ 2 [.int .i64 2] from rfl) (Reps.one (show Kd.M (Kd.int .i64) _ _ _ 3 [.int .i64 3] from rfl) (Reps.one (show Kd.M (Kd.int .i64) _ _ _ 4 [.int .i64 4] from rfl) (Reps.one (show Kd.M (Kd.int .i64) _ _ _ 5 [.int .i64 5] from rfl) (Reps.one (show Kd.M (Kd.int .i64) _ _ _ 4 [.int .i64 4] from rfl) (Reps.one (show Kd.M (Kd.int .i64) _ _ _ 5 [.int .i64 5] from rfl) (Reps.one (show Kd.M (Kd.int .i64) _ _ _ 6 [.int .i64 6] from rfl) (Reps.one (show Kd.M (Kd.int .i64) _ _ _ 1 [.int .i64 1] from rfl) (Reps.one (show Kd.M (Kd.int .i64) _ _ _ 7 [.int .i64 7] from rfl) (Reps.one (show Kd.M (Kd.int .i64) _ _ _ (-1) [.int .i64 (-1)] from rfl) (Reps.none _ _)))))))))))); intro v215 w4 ho5 hb hg_ hnew_; clear hg_ hnew_; (first | rw [← Ny214.out] at ho5 | (simp only [Int.reduceToNat] at ho5; rw [← Ny214.out] at ho5)); have n0_ := Aside0.mk (Kd.R_lower ho5 (below_size (by repeat (first | (with_reducible first | exact HB.out | apply below_alloc | apply pw_below_drewN | apply below_drew1 | refine below_set ?_ GE213.out) | exact HB.out)))); have n1_ := Aside0.mk (blk_below (g := gb213) (o := .cells #[.slice A0 l0.length c0, .int .i64 0, .int .u64 0] 84 (0, 0)) (by (with_reducible repeat (first | refine blk_drewN ?_ _ | refine blk_drew ?_ | refine blk_alloc ?_ _)); exact BK213.out) hb); have n2_ := Aside0.mk (below_step (by repeat (first | (with_reducible first | exact HB.out | apply below_alloc | apply pw_below_drewN | apply below_drew1 | refine below_set ?_ GE213.out) | exact HB.out)) hb); clear BK213; clear HB; have HO216 := n0_; have BK213 := n1_; have HB := n2_; clear n0_ n1_ n2_; clear hb ho5; obtain ⟨Ao6, co6, eo6⟩ := Kd.R_slice HO216.out; subst eo6) | ((with_reducible refine gate_callee (f := 91) rfl ?_); refine goesL_ (some 9) rfl rfl Try.func91 (by kernel_rfl) rfl #[.pointer (some ⟨gb213, 0, none⟩), .slice Ao6 y214.length co6] rfl (by (try simp only [List.map_toArray, List.map_cons, List.map_nil]); first | done | rfl | (simp only [List.length_drop, List.length_take]; rfl)) ?_; (with_reducible refine (spec_l1Cur_among.calls gb213 l0 0 0 _ _ y214 t217 t218 t219 w _ ?side1 ?side2 ?side3 ?side4 ?side5 A2.out).mono ?_); (case side1 => unfold IsS84; exact ⟨_, _, (by (with_reducible repeat (first | refine blk_drewN ?_ _ | refine blk_drew ?_ | refine blk_alloc ?_ _)); exact BK213.out), GW213.out, HR0.out⟩); (case side2 => repeat (first | (with_reducible first | exact HB.out | apply below_alloc | apply pw_below_drewN | apply below_drew1 | refine below_set ?_ GE213.out) | exact HB.out)); (case side3 => repeat (first | exact (Kd.R_reads' HO216.out).2.2 | (with_reducible refine Kd.C_alloc ?_ _) | (with_reducible refine Kd.C_drewN ?_ _) | (with_reducible refine Kd.C_drew ?_))); (case side4 => exact (Kd.R_reads' HO216.out).2.1); (case side5 => exact far_slice (Kd.R_ne HO216.out BK213.out (by decide))); rintro e w7 ⟨rfl, hi, hb, hk⟩; refine ⟨_, rfl, ?_⟩; have n0_ := Aside0.mk (Kd.R_mono (Kd.R_keep (IsS84.apart (show IsS84 w _ gb213 l0 0 0 from by unfold IsS84; exact ⟨_, _, (by (with_reducible repeat (first | refine blk_drewN ?_ _ | refine blk_drew ?_ | refine blk_alloc ?_ _)); exact BK213.out), GW213.out, HR0.out⟩) (by (with_reducible repeat (first | apply Kd.R_alloc | apply Kd.R_drewN | apply Kd.R_drew)); exact HO216.out) (by decide)) hk (fun _ h => h.2)) (fun _ h => h.1)); have n1_ := Aside0.mk (hb); have n2_ := Aside0.mk (hi); clear HO216; clear HB; clear BK213; have HO216 := n0_; have HB := n1_; have BK213 := n2_; clear n0_ n1_ n2_; (try clear hb); (try clear hb2); (try clear hk); (try clear hi)))
  go_ret
  exact ⟨by first | rfl | (simp [errW_none, errW_some] <;> rfl) | (simp [*, errW_none, errW_some] <;> rfl), by repeat (first | (with_reducible first | exact HB.out | apply below_alloc | apply pw_below_drewN | apply below_drew1 | refine below_set ?_ (IsS84.ge BK213.out)) | exact HB.out)⟩

/-! ### spec_DrawCountByLength: function 33 -/
def spec_DrawCountByLength.f (l0 : List Int) : Option (Int) := (spec_DrawCountAllLeast.f l0).bind fun t220 => (some t220)
set_option maxHeartbeats 8000000 in
set_option maxRecDepth 100000 in
theorem spec_DrawCountByLength.calls (A0 : Option Addr) (c0 : Nat) (l0 : List Int) (r : Int) (w : World) (hr0 : Kd.C (Kd.int .u8) w A0 l0.length l0) (hc0 : l0.length ≤ c0) (h : spec_DrawCountByLength.f l0 = some r) :
    Calls Try.prog 33 #[.slice A0 l0.length c0] w fun e w' => e = .returned (.int .i64 r) ∧ Below w.heap.size w w' := by
  have HR0 := Aside0.mk hr0
  have HC0 := Aside0.mk hc0
  clear hr0 hc0
  have HB := Aside0.mk (Below.refl w.heap.size w)
  have H : ((spec_DrawCountAllLeast.f l0).bind fun t220 => (some t220)) = some r := h
  clear h
  replace H := Option.bind_eq_some_iff.mp H
  obtain ⟨t220, A20, H⟩ := H
  replace H : (some t220) = some r := H
  have A2 := Aside0.mk A20
  clear A20
  obtain rfl := Option.some.inj H
  go_enter Try.func33, Try.ntmps33
  go_wp2_with (first | ((with_reducible refine gate_callee (f := 81) rfl ?_); refine goesL_ (some 4) rfl rfl Try.func81 (by kernel_rfl) rfl #[.slice A0 l0.length c0] rfl (by (try simp only [List.map_toArray, List.map_cons, List.map_nil]); first | done | rfl | (simp only [List.length_drop, List.length_take]; rfl)) ?_; (with_reducible refine (spec_DrawCountAllLeast.calls _ _ l0 t220 _ ?side1 ?side2 A2.out).mono ?_); (case side1 => repeat (first | exact HR0.out | (with_reducible refine Kd.C_alloc ?_ _) | (with_reducible refine Kd.C_drewN ?_ _) | (with_reducible refine Kd.C_drew ?_))); (case side2 => exact HC0.out); rintro e w3 ⟨rfl, hb⟩; refine ⟨_, rfl, ?_⟩; have n0_ := Aside0.mk (below_step (by repeat (first | (with_reducible first | exact HB.out | apply below_alloc | apply pw_below_drewN | apply below_drew1) | exact HB.out)) hb); clear HB; have HB := n0_; clear n0_; (try clear hb); (try clear hb2); (try clear hk); (try clear hi)))
  go_ret
  exact ⟨by first | rfl | (simp [errW_none, errW_some] <;> rfl) | (simp [*, errW_none, errW_some] <;> rfl), by repeat (first | (with_reducible first | exact HB.out | apply below_alloc | apply pw_below_drewN | apply below_drew1) | exact HB.out)⟩

/-! ### impl_LongestByFormula: function 34 -/
mutual
def impl_LongestByFormula.l0 : Nat → Int → Int → Int → Option (Int × Bool)
  | 0, _, _, _ => none
  | k + 1, x0, x4, x5 => if x5 ≤ (wrap64 (Int.tdiv (wrap64 (x0 * (wrap64 (x0 - 1)))) 2)) then (impl_LongestByFormula.l0 k x0 (wrap64 (x4 * x5)) (wrap64 (x5 + 1))) else (impl_LongestByFormula.l1 k x0 x4 1)
def impl_LongestByFormula.l1 : Nat → Int → Int → Int → Option (Int × Bool)
  | 0, _, _, _ => none
  | k + 1, x0, x4, x6 => if x6 < x0 then (impl_LongestByFormula.l2 k x0 x4 x6 (wrap64 (x0 - x6)) 0) else (some (x4, true))
def impl_LongestByFormula.l2 : Nat → Int → Int → Int → Int → Int → Option (Int × Bool)
  | 0, _, _, _, _, _ => none
  | k + 1, x0, x4, x6, x29, x30 => if x30 < x29 then (if (wrap64 ((wrap64 (2 * x6)) - 1)) = 0 then (none) else (impl_LongestByFormula.l2 k x0 (wrap64 (Int.tdiv x4 (wrap64 ((wrap64 (2 * x6)) - 1)))) x6 x29 (wrap64 (x30 + 1)))) else (impl_LongestByFormula.l1 k x0 x4 (wrap64 (x6 + 1)))
end
def impl_LongestByFormula.f (k : Nat) (a0 : Int) : Option (Int × Bool) := (impl_between.f a0 2 6).bind fun t221 => (if t221 = true then (impl_LongestByFormula.l0 k a0 1 2) else (some (0, false)))
theorem impl_LongestByFormula.mono_l : ∀ k, (∀ y0 y1 y2, LeO (impl_LongestByFormula.l0 k y0 y1 y2) (impl_LongestByFormula.l0 (k + 1) y0 y1 y2)) ∧ (∀ y0 y1 y2, LeO (impl_LongestByFormula.l1 k y0 y1 y2) (impl_LongestByFormula.l1 (k + 1) y0 y1 y2)) ∧ (∀ y0 y1 y2 y3 y4, LeO (impl_LongestByFormula.l2 k y0 y1 y2 y3 y4) (impl_LongestByFormula.l2 (k + 1) y0 y1 y2 y3 y4))
  | 0 => ⟨fun _ _ _ r h => by simp [impl_LongestByFormula.l0] at h, fun _ _ _ r h => by simp [impl_LongestByFormula.l1] at h, fun _ _ _ _ _ r h => by simp [impl_LongestByFormula.l2] at h⟩
  | k + 1 => by
    obtain ⟨ih0, ih1, ih2⟩ := impl_LongestByFormula.mono_l k
    refine ⟨?_, ?_, ?_⟩
    · intro y0 y1 y2
      unfold impl_LongestByFormula.l0
      repeat' first
      | (with_reducible exact ih0 _ _ _)
      | (with_reducible exact ih1 _ _ _)
      | (with_reducible exact ih2 _ _ _ _ _)
      | (with_reducible exact LeO.refl _)
      | (with_reducible exact LeO.none _)
      | (with_reducible refine LeO.ite ?_ ?_)
      | (with_reducible refine LeO.bind ?_ (fun _ => ?_))
      | exact ih0 _ _ _
      | exact ih1 _ _ _
      | exact ih2 _ _ _ _ _
      | exact LeO.none _
      | refine LeO.ite ?_ ?_
      | refine LeO.bind ?_ (fun _ => ?_)
    · intro y0 y1 y2
      unfold impl_LongestByFormula.l1
      repeat' first
      | (with_reducible exact ih0 _ _ _)
      | (with_reducible exact ih1 _ _ _)
      | (with_reducible exact ih2 _ _ _ _ _)
      | (with_reducible exact LeO.refl _)
      | (with_reducible exact LeO.none _)
      | (with_reducible refine LeO.ite ?_ ?_)
      | (with_reducible refine LeO.bind ?_ (fun _ => ?_))
      | exact ih0 _ _ _
      | exact ih1 _ _ _
      | exact ih2 _ _ _ _ _
      | exact LeO.none _
      | refine LeO.ite ?_ ?_
      | refine LeO.bind ?_ (fun _ => ?_)
    · intro y0 y1 y2 y3 y4
      unfold impl_LongestByFormula.l2
      repeat' first
      | (with_reducible exact ih0 _ _ _)
      | (with_reducible exact ih1 _ _ _)
      | (with_reducible exact ih2 _ _ _ _ _)
      | (with_reducible exact LeO.refl _)
      | (with_reducible exact LeO.none _)
      | (with_reducible refine LeO.ite ?_ ?_)
      | (with_reducible refine LeO.bind ?_ (fun _ => ?_))
      | exact ih0 _ _ _
      | exact ih1 _ _ _
      | exact ih2 _ _ _ _ _
      | exact LeO.none _
      | refine LeO.ite ?_ ?_
      | refine LeO.bind ?_ (fun _ => ?_)
theorem impl_LongestByFormula.mono : ∀ a0 k, LeO (impl_LongestByFormula.f k a0) (impl_LongestByFormula.f (k + 1) a0) := by
  intro a0 k
  obtain ⟨ih0, ih1, ih2⟩ := impl_LongestByFormula.mono_l k
  unfold impl_LongestByFormula.f
  repeat' first
      | (with_reducible exact ih0 _ _ _)
      | (with_reducible exact ih1 _ _ _)
      | (with_reducible exact ih2 _ _ _ _ _)
      | (with_reducible exact LeO.refl _)
      | (with_reducible exact LeO.none _)
      | (with_reducible refine LeO.ite ?_ ?_)
      | (with_reducible refine LeO.bind ?_ (fun _ => ?_))
      | exact ih0 _ _ _
      | exact ih1 _ _ _
      | exact ih2 _ _ _ _ _
      | exact LeO.none _
      | refine LeO.ite ?_ ?_
      | refine LeO.bind ?_ (fun _ => ?_)
set_option maxHeartbeats 8000000 in
set_option maxRecDepth 100000 in
theorem impl_LongestByFormula.calls (k : Nat) (a0 : Int) (r1 : Int) (r2 : Bool) (w : World) (h : impl_LongestByFormula.f k a0 = some (r1, r2)) :
    Calls Try.prog 34 #[.int .i64 a0] w fun e w' => e = .returned (.tuple #[.int .i64 r1, .bool r2]) ∧ Drawn0 w w' := by
  have H : ((impl_between.f a0 2 6).bind fun t221 => (if t221 = true then (impl_LongestByFormula.l0 k a0 1 2) else (some (0, false)))) = some (r1, r2) := h
  clear h
  replace H := Option.bind_eq_some_iff.mp H
  obtain ⟨t221, A20, H⟩ := H
  replace H : (if t221 = true then (impl_LongestByFormula.l0 k a0 1 2) else (some (0, false))) = some (r1, r2) := H
  have A2 := Aside0.mk A20
  clear A20
  by_cases c3 : t221 = true
  · subst c3
    have H1 : (impl_LongestByFormula.l0 k a0 1 2) = some (r1, r2) := by rw [if_pos rfl] at H; exact H
    clear H
    have H := H1
    clear H1
    have H' := Aside0.mk H
    clear H
    go_enter Try.func34, Try.ntmps34
    go_wp2_with (first | ((with_reducible refine gate_callee (f := 60) rfl ?_); refine goesL_ (some 8) rfl rfl Try.func60 (by kernel_rfl) rfl #[.int .i64 a0, .int .i64 2, .int .i64 6] rfl (by (try simp only [List.map_toArray, List.map_cons, List.map_nil]); first | done | rfl | (simp only [List.length_drop, List.length_take]; rfl)) ?_; (with_reducible refine (impl_between.calls a0 2 6 true _ A2.out).mono ?_); rintro e w' ⟨rfl, ⟨nd, rfl⟩⟩; refine ⟨_, rfl, ?_⟩))
    go_loopg [4, 5] k (fun kq v4 v5 w' => ∃ (x4_1 : Int) (x5_1 : Int), v4 = .int .i64 x4_1 ∧ v5 = .int .i64 x5_1 ∧ Aside0 (impl_LongestByFormula.l0 kq a0 x4_1 x5_1 = some (r1, r2)) ∧ Aside0 (kq ≤ k) ∧ Drawn0 w w')
    case atStart => exact ⟨(1), (2), (by first | rfl | (simp; done) | (simp [*]; done)), (by first | rfl | (simp; done) | (simp [*]; done)), H', ⟨Nat.le_refl _⟩, by repeat (first | exact Drawn0.refl _ | apply Drawn0.step)⟩
    case round =>
      clear H'
      try clear p2
      try clear c3
      obtain ⟨x4_1, x5_1, rfl, rfl, HA, HK1, ⟨m1, rfl⟩⟩ := hrel
      cases gk with
      | zero => exact absurd HA.out (by simp [impl_LongestByFormula.l0])
      | succ k1 =>
        have H := HA.out
        clear HA
        simp only [impl_LongestByFormula.l0] at H
        by_cases c4 : x5_1 ≤ (wrap64 (Int.tdiv (wrap64 (a0 * (wrap64 (a0 - 1)))) 2))
        · rw [if_pos c4] at H
          have c4b0 : decide (x5_1 ≤ (wrap64 (Int.tdiv (wrap64 (a0 * (wrap64 (a0 - 1)))) 2))) = true := decide_eq_true c4
          clear c4
          have H' := Aside0.mk H
          clear H
          go_wp2
          go_roundg k1
          case measure => have := HK1.out; omega
          case rel => exact ⟨(wrap64 (x4_1 * x5_1)), (wrap64 (x5_1 + 1)), (by first | rfl | (simp; done) | (simp [*]; done)), (by first | rfl | (simp; done) | (simp [*]; done)), H', ⟨by have := HK1.out; omega⟩, by repeat (first | exact Drawn0.refl _ | apply Drawn0.step)⟩
        · rw [if_neg c4] at H
          have c4b0 : decide (x5_1 ≤ (wrap64 (Int.tdiv (wrap64 (a0 * (wrap64 (a0 - 1)))) 2))) = false := decide_eq_false c4
          clear c4
          have H' := Aside0.mk H
          clear H
          go_wp2
          go_loopg [4, 6] k1 (fun kq v4 v6 w' => ∃ (x4_2 : Int) (x6_2 : Int), v4 = .int .i64 x4_2 ∧ v6 = .int .i64 x6_2 ∧ Aside0 (impl_LongestByFormula.l1 kq a0 x4_2 x6_2 = some (r1, r2)) ∧ Aside0 (kq ≤ k1) ∧ Drawn0 w w')
          case atStart => exact ⟨(x4_1), (1), (by first | rfl | (simp; done) | (simp [*]; done)), (by first | rfl | (simp; done) | (simp [*]; done)), H', ⟨Nat.le_refl _⟩, by repeat (first | exact Drawn0.refl _ | apply Drawn0.step)⟩
          case round =>
            clear H'
            try clear p2
            try clear c3
            try clear c4
            try clear c4b0
            try clear p2
            obtain ⟨x4_2, x6_2, rfl, rfl, HA, HK2, ⟨m2, rfl⟩⟩ := hrel
            cases gk with
            | zero => exact absurd HA.out (by simp [impl_LongestByFormula.l1])
            | succ k2 =>
              have H := HA.out
              clear HA
              simp only [impl_LongestByFormula.l1] at H
              by_cases c5 : x6_2 < a0
              · rw [if_pos c5] at H
                have c5b0 : decide (x6_2 < a0) = true := decide_eq_true c5
                clear c5
                have H' := Aside0.mk H
                clear H
                go_wp2
                go_loopg [4, 30] k2 (fun kq v4 v30 w' => ∃ (x4_3 : Int) (x30_3 : Int), v4 = .int .i64 x4_3 ∧ v30 = .int .i64 x30_3 ∧ Aside0 (impl_LongestByFormula.l2 kq a0 x4_3 x6_2 (wrap64 (a0 - x6_2)) x30_3 = some (r1, r2)) ∧ Aside0 (kq ≤ k2) ∧ Drawn0 w w')
                case atStart => exact ⟨(x4_2), (0), (by first | rfl | (simp; done) | (simp [*]; done)), (by first | rfl | (simp; done) | (simp [*]; done)), H', ⟨Nat.le_refl _⟩, by repeat (first | exact Drawn0.refl _ | apply Drawn0.step)⟩
                case round =>
                  clear H'
                  try clear p2
                  try clear c3
                  try clear c4
                  try clear c4b0
                  try clear c5
                  try clear c5b0
                  try clear p2
                  obtain ⟨x4_3, x30_3, rfl, rfl, HA, HK3, ⟨m3, rfl⟩⟩ := hrel
                  cases gk with
                  | zero => exact absurd HA.out (by simp [impl_LongestByFormula.l2])
                  | succ k3 =>
                    have H := HA.out
                    clear HA
                    simp only [impl_LongestByFormula.l2] at H
                    by_cases c6 : x30_3 < (wrap64 (a0 - x6_2))
                    · rw [if_pos c6] at H
                      have c6b0 : decide (x30_3 < (wrap64 (a0 - x6_2))) = true := decide_eq_true c6
                      clear c6
                      by_cases c7 : (wrap64 ((wrap64 (2 * x6_2)) - 1)) = 0
                      · rw [if_pos c7] at H
                        exact absurd H (by simp)
                      · rw [if_neg c7] at H
                        have c7b0 : ((wrap64 ((wrap64 (2 * x6_2)) - 1)) == 0) = false := beq_eq_false_iff_ne.mpr c7
                        have c7b1 : ((wrap64 ((wrap64 (2 * x6_2)) - 1)) != 0) = true := bne_iff_ne.mpr c7
                        have H' := Aside0.mk H
                        clear H
                        go_wp2
                        go_roundg k3
                        case measure => have := HK1.out; have := HK2.out; have := HK3.out; omega
                        case rel => exact ⟨(wrap64 (Int.tdiv x4_3 (wrap64 ((wrap64 (2 * x6_2)) - 1)))), (wrap64 (x30_3 + 1)), (by first | rfl | (simp; done) | (simp [*]; done)), (by first | rfl | (simp; done) | (simp [*]; done)), H', ⟨by have := HK1.out; have := HK2.out; have := HK3.out; omega⟩, by repeat (first | exact Drawn0.refl _ | apply Drawn0.step)⟩
                    · rw [if_neg c6] at H
                      have c6b0 : decide (x30_3 < (wrap64 (a0 - x6_2))) = false := decide_eq_false c6
                      clear c6
                      have H' := Aside0.mk H
                      clear H
                      go_wp2
                      go_roundg k3
                      case measure => have := HK1.out; have := HK2.out; have := HK3.out; omega
                      case rel => exact ⟨(x4_3), (wrap64 (x6_2 + 1)), (by first | rfl | (simp; done) | (simp [*]; done)), (by first | rfl | (simp; done) | (simp [*]; done)), H', ⟨by have := HK1.out; have := HK2.out; have := HK3.out; omega⟩, by repeat (first | exact Drawn0.refl _ | apply Drawn0.step)⟩
              · rw [if_neg c5] at H
                have c5b0 : decide (x6_2 < a0) = false := decide_eq_false c5
                clear c5
                simp only [Option.some.injEq, Prod.mk.injEq] at H
                obtain ⟨rfl, rfl⟩ := H
                go_wp2
                go_ret2
                exact ⟨by first | rfl | (simp; done) | (simp [*]; done), by repeat (first | exact Drawn0.refl _ | apply Drawn0.step)⟩
  · replace c3 := Bool.eq_false_iff.mpr c3
    subst c3
    have H1 : (some (0, false)) = some (r1, r2) := by rw [if_neg (show ¬ (false = true) by decide)] at H; exact H
    clear H
    have H := H1
    clear H1
    simp only [Option.some.injEq, Prod.mk.injEq] at H
    obtain ⟨rfl, rfl⟩ := H
    go_enter Try.func34, Try.ntmps34
    go_wp2_with (first | ((with_reducible refine gate_callee (f := 60) rfl ?_); refine goesL_ (some 8) rfl rfl Try.func60 (by kernel_rfl) rfl #[.int .i64 a0, .int .i64 2, .int .i64 6] rfl (by (try simp only [List.map_toArray, List.map_cons, List.map_nil]); first | done | rfl | (simp only [List.length_drop, List.length_take]; rfl)) ?_; (with_reducible refine (impl_between.calls a0 2 6 false _ A2.out).mono ?_); rintro e w' ⟨rfl, ⟨nd, rfl⟩⟩; refine ⟨_, rfl, ?_⟩))
    go_ret2
    exact ⟨by first | rfl | (simp; done) | (simp [*]; done), by repeat (first | exact Drawn0.refl _ | apply Drawn0.step)⟩

end
end Go.Proofs.Ytnddmmjofpfmfaa.PLc
