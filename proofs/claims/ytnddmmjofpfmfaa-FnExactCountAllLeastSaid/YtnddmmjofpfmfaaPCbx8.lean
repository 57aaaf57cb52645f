-- Written for this claim by a program of this session (myprint.py) over the kit's printer.
import Derived.Test.YtnddmmjofpfmfaaPCbx0
import Derived.Test.YtnddmmjofpfmfaaPCbx5
import Derived.Test.YtnddmmjofpfmfaaPCbx7
namespace Go.Proofs.Ytnddmmjofpfmfaa.PCb
noncomputable section
open Go.RowKit Go.Proofs.YtnddmmjofpfmfaaW.PrintWords Go.Proofs.YtnddmmjofpfmfaaW.PrintLast Go.Proofs.YtnddmmjofpfmfaaW.PrintMore
attribute [local go_sem] max2_int min2_int max_two min_two max_three min_three max_four min_four   -- for this text's walks alone
set_option linter.unusedVariables false
set_option linter.unusedSimpArgs false

/-! ### impl_CountByLength: function 13 -/
open Classical in
noncomputable def impl_CountByLength.ev {α : Type} (g : Nat → Option α) : Option α := if h : ∃ k r, g k = some r then g h.choose else none
theorem impl_CountByLength.ev_some {α : Type} {g : Nat → Option α} {r : α} (h : impl_CountByLength.ev g = some r) : ∃ k, g k = some r := by
  unfold impl_CountByLength.ev at h
  split at h
  · exact ⟨_, h⟩
  · cases h
/-- What the closure is handed: the counted orders' row, how many orders have been counted. -/
noncomputable def impl_CountByLength.cb (p : List Int) (s : List Int × Nat) : Option (List Int × Nat) := (impl_CountByLength.ev fun k => impl_inversions.f k p).bind fun i => if 0 ≤ i ∧ i < (s.1.length : Int) ∧ s.2 < 2000 then (impl_counter_count.f p).bind fun r => some (s.1.set i.toNat (wrap64 (rd s.1 i + r)), s.2 + 1) else none
def impl_CountByLength.lp (G : List Int → List Int → List Int × Nat → Option (List Int × Nat)) (done left : List Int) : Nat → Nat → List Int × Nat → Option (List Int × Nat)
  | 0, _, s => some s
  | m + 1, i, s => (slices_Clone_int_int.f done).bind fun c => if c.length < 1000 then (impl_without.f left (i : Int)).bind fun q => (G (c ++ [rd left (i : Int)]) q s).bind fun s' => impl_CountByLength.lp G done left m (i + 1) s' else none
noncomputable def impl_CountByLength.g : Nat → List Int → List Int → List Int × Nat → Option (List Int × Nat)
  | 0, _, _, _ => none
  | d + 1, done, left, s => (if left.length = 0 then impl_CountByLength.cb done s else some s).bind fun s1 => impl_CountByLength.lp (impl_CountByLength.g d) done left left.length 0 s1
/-- The world of a count: the variables' blocks, the row, the counter's memory. -/
structure impl_CountByLength.Sta (base : Nat) (w : World) (gO gC go N C B : Nat) (s : List Int × Nat) : Prop where mk :: (out : w.heap[gO]? = some (.cells #[.slice (some ⟨go, 0, none⟩) N C] 25 (0, 0)) ∧ w.heap[gC]? = some (.cells #[.map (some B)] 71 (0, 0)) ∧ Kd.R (Kd.int .i64) 3 w base (fun k_ => k_ = go) (.slice (some ⟨go, 0, none⟩) N C) s.1 ∧ impl_counter_count.Mem w B (1853020188851841 * s.2) ∧ base ≤ B ∧ gO ≠ go ∧ gC ≠ go ∧ B ≠ go ∧ gO ≠ B ∧ gC ≠ B)
theorem impl_CountByLength.Sta.kept {base : Nat} {w w' : World} {gO gC go N C B : Nat} {s : List Int × Nat} {S : Nat → Prop} (h : impl_CountByLength.Sta base w gO gC go N C B s) (hk : Kept w w' S) (hS : ∀ k, S k → k ≠ gO ∧ k ≠ gC ∧ k ≠ go ∧ k ≠ B) : impl_CountByLength.Sta base w' gO gC go N C B s := by
  obtain ⟨h1, h2, h3, h4, h5⟩ := h.out
  exact ⟨blk_kept h1 hk (fun e => (hS _ e).1 rfl), blk_kept h2 hk (fun e => (hS _ e).2.1 rfl), Kd.R_step h3 (fun k e hlt => hk.2 k hlt (fun x => (hS k x).2.2.1 e)), h4.kept hk (fun x => (hS _ x).2.2.2 rfl), h5⟩
theorem impl_CountByLength.Sta.below {base : Nat} {w w' : World} {gO gC go N C B : Nat} {s : List Int × Nat} (h : impl_CountByLength.Sta base w gO gC go N C B s) (hb : Below w.heap.size w w') : impl_CountByLength.Sta base w' gO gC go N C B s := h.kept (Kept.of_below hb (fun _ => False)) (fun _ e => e.elim)
theorem impl_CountByLength.room (m : Nat) (h : m < 2000) : 1853020188851841 * m + 1853020188851841 ≤ 4611686018427387904 := by
  have h1 : 1853020188851841 * (m + 1) ≤ 1853020188851841 * 2000 := Nat.mul_le_mul_left _ h
  exact Nat.le_trans h1 (by decide)
def impl_CountByLength.T62 : Bool × List (List Nat × List Nat) := (true, [([], []), ([], []), ([1], [1]), ([0, 2], [0, 2]), ([3], [3]), ([], []), ([], []), ([5, 6, 2], [5, 6]), ([4, 7], [4, 7]), ([0, 2, 0, 1, 2, 3, 4, 5, 6, 7, 8], [0, 2]), ([9, 8, 7, 0, 1, 2, 3, 4, 5, 6, 7, 8], [8, 9])])
def impl_CountByLength.B62 : List Nat := [0, 0, 2, 7, 15, 0, 0, 102, 255, 511, 1023]
theorem impl_CountByLength.tab62 : rtab .any (opsOf Try.f62 0) = impl_CountByLength.T62 := by kernel_rfl
theorem impl_CountByLength.bits62 : waitsOk impl_CountByLength.T62.2 impl_CountByLength.B62 = true := by kernel_rfl
set_option maxHeartbeats 8000000 in
set_option maxRecDepth 100000 in
theorem impl_CountByLength.calls_cb (p : List Int) (A : Option Addr) (c0 : Nat) (Pp : Nat → Prop) (i r : Int) (xs : List Int) (m : Nat) (gO gC go N C B : Nat) (w0 w : World) (hB : Below w0.heap.size w0 w) (hF : Kd.F (Kd.int .i64) w Pp A p.length p) (hPp : ∀ k, Pp k → k ≠ go ∧ k ≠ B) (hc : p.length ≤ c0)
    (hS : impl_CountByLength.Sta w0.heap.size w gO gC go N C B (xs, m)) (ki : Nat) (hi : impl_inversions.f ki p = some i) (h0 : 0 ≤ i) (h1 : i < (xs.length : Int)) (hm : m < 2000) (hr : impl_counter_count.f p = some r) :
    Calls Try.prog 62 #[.slice A p.length c0, .pointer (some ⟨gO, 0, none⟩), .pointer (some ⟨gC, 0, none⟩)] w fun e w' => e = .returned (.tuple #[]) ∧ impl_CountByLength.Sta w0.heap.size w' gO gC go N C B (xs.set i.toNat (wrap64 (rd xs i + r)), m + 1) ∧ Below w0.heap.size w0 w' ∧ Kept w w' (fun k_ => k_ = go ∨ k_ = B) := by
  have HN := Aside0.mk (Kd.R_reads' hS.out.2.2.1).1
  have p6 := eq_true h0
  have q6 : (i < (N : Int)) = True := eq_true (by have h2_ := HN.out; simp only at h2_; omega)
  obtain ⟨x, hx⟩ : ∃ x, x = rd xs i := ⟨_, rfl⟩
  rw [← hx]
  have HX := Aside0.mk hx
  have HF := Aside0.mk hF
  have HP := Aside0.mk hPp
  have HC := Aside0.mk hc
  have HS := Aside0.mk hS
  have HI := Aside0.mk hi
  have HRR := Aside0.mk hr
  have HM := Aside0.mk hm
  have HB := Aside0.mk hB
  have HK := Aside0.mk (Kept.refl w (fun k_ => k_ = go ∨ k_ = B))
  have H01 := Aside0.mk (And.intro h0 h1)
  have hcell : ∀ W m', impl_CountByLength.Sta w0.heap.size W gO gC go N C B (xs, m') → W.cell? ⟨gO, 0, none⟩ = some (.slice (some ⟨go, 0, none⟩) N C) ∧ W.cell? ⟨gC, 0, none⟩ = some (.map (some B)) ∧ W.cell? ⟨go, i.toNat, none⟩ = some (.int .i64 x) := fun W m' hW => ⟨blk_cell hW.out.1 0, blk_cell hW.out.2.1 0, by
    obtain ⟨ad, e, hc_⟩ := Kd.at_int (Kd.R_reads' hW.out.2.2.1).2.2 i h0 h1
    cases e
    rw [hx]
    rw [add_at, Nat.zero_add] at hc_
    exact hc_⟩
  have HCL := Aside0.mk hcell
  clear hx hF hPp hc hS hi hr hm hB h0 h1 hcell
  go_enter Try.func62, Try.ntmps62
  have n0_ := Aside0.mk (Kd.F_drew HF.out)
  have n1_ := Aside0.mk (HS.out.below (below_drew1 (Below.refl _ _)))
  have n2_ := Aside0.mk (below_drew1 HB.out)
  have n3_ := Aside0.mk (Kept.drew HK.out)
  clear HF HS HB HK
  have HF := n0_
  have HS := n1_
  have HB := n2_
  have HK := n3_
  clear n0_ n1_ n2_ n3_
  refine start_ (n := 11) (S := fun w' => w'.cell? ⟨gO, 0, none⟩ = some (.slice (some ⟨go, 0, none⟩) N C) ∧ w'.cell? ⟨gC, 0, none⟩ = some (.map (some B)) ∧ w'.cell? ⟨go, i.toNat, none⟩ = some (.int .i64 x)) (ds := [10]) #[false, false, false, false, false, false, false, false, false, false, false] (by kernel_rfl) rfl rfl (HCL.out _ _ HS.out) (fun hHeld => ?_)
  refine with_tabW impl_CountByLength.tab62 impl_CountByLength.bits62 (fun HT_ HW_ => ?_)
  generalize w.drew = w1 at HF HS HB HK hHeld ⊢
  refine pure_ (i := 1) (N := some 5) (v := ?_) (a' := ?_) #[false, true, false, false, false, false, false, false, false, false, false] rfl rfl (any_of HT_.out (by kernel_rfl)) (fun _ _ _ h => h) (Or.inl ⟨by rfl, ?_⟩) ?_ ?_
  rotate_left
  · intro w'
    go_simp
    with_reducible rfl
  rotate_left
  · simp only [Act.put, List.setIfInBounds_toArray, List.set_cons_zero, List.set_cons_succ, i64_w, i32_w]
    rfl
  refine pure_ (i := 6) (N := some 10) (v := ?_) (a' := ?_) #[false, true, false, false, false, false, true, false, false, false, false] rfl rfl (any_of HT_.out (by kernel_rfl)) (fun _ _ _ h => h) (Or.inl ⟨by rfl, ?_⟩) ?_ ?_
  rotate_left
  · intro w'
    go_simp
    with_reducible rfl
  rotate_left
  · simp only [Act.put, List.setIfInBounds_toArray, List.set_cons_zero, List.set_cons_succ, i64_w, i32_w]
    rfl
  refine take_ (i := 0) (N := some 4) (v := ?_) (a' := ?_) #[true, true, false, false, false, false, true, false, false, false, false] rfl rfl (take_ofW HT_.out HW_.out (by kernel_rfl)) (fun _ _ _ h => h) (Or.inl ⟨by rfl, ?_⟩) hHeld ?_ ?_
  rotate_left
  · rintro w' ⟨s0, s1, s2⟩
    go_simp
    with_reducible rfl
  rotate_left
  · simp only [Act.put, List.setIfInBounds_toArray, List.set_cons_zero, List.set_cons_succ, i64_w, i32_w]
    rfl
  refine take_ (i := 5) (N := some 9) (v := ?_) (a' := ?_) #[true, true, false, false, false, true, true, false, false, false, false] rfl rfl (take_ofW HT_.out HW_.out (by kernel_rfl)) (fun _ _ _ h => h) (Or.inl ⟨by rfl, ?_⟩) hHeld ?_ ?_
  rotate_left
  · rintro w' ⟨s0, s1, s2⟩
    go_simp
    with_reducible rfl
  rotate_left
  · simp only [Act.put, List.setIfInBounds_toArray, List.set_cons_zero, List.set_cons_succ, i64_w, i32_w]
    rfl
  refine one_ (i := 2) (N := some 6) #[true, true, true, false, false, true, true, false, false, false, false] rfl rfl (one_of HT_.out (by kernel_rfl)) (by decide) (fun K hK => ?_)
  refine goes_ Try.func63 (by kernel_rfl) rfl #[.slice A p.length c0] (by rfl) rfl rfl (by (try simp only [List.map_toArray, List.map_cons, List.map_nil]); first | done | rfl) ?_
  refine (impl_inversions.calls ki A c0 p i _ (Kd.F_now HF.out) HC.out HI.out).mono ?_
  rintro e w3 ⟨rfl, hb⟩
  refine ⟨_, rfl, ?_⟩
  have n0_ := Aside0.mk (Kd.F_below HF.out hb)
  have n1_ := Aside0.mk (HS.out.below hb)
  have n2_ := Aside0.mk (below_step HB.out hb)
  have n3_ := Aside0.mk (Kept.below HK.out hb)
  clear HF HS HB HK hb hHeld
  have HF := n0_
  have HS := n1_
  have HB := n2_
  have HK := n3_
  clear n0_ n1_ n2_ n3_
  refine hK.out _ _ (HCL.out _ _ HS.out) (fun hHeld => ?_)
  clear hK K
  refine norm_ (a' := ?_) ?_ ?_
  rotate_left
  · show Act.put _ (some 6) _ = _
    simp only [Act.put, List.setIfInBounds_toArray, List.set_cons_zero, List.set_cons_succ, i64_w, i32_w]
    rfl
  refine pure_ (i := 3) (N := some 7) (v := ?_) (a' := ?_) #[true, true, true, true, false, true, true, false, false, false, false] rfl rfl (any_of HT_.out (by kernel_rfl)) (fun _ _ _ h => h) (Or.inl ⟨by rfl, ?_⟩) ?_ ?_
  rotate_left
  · intro w'
    go_simp
    with_reducible rfl
  rotate_left
  · simp only [Act.put, List.setIfInBounds_toArray, List.set_cons_zero, List.set_cons_succ, i64_w, i32_w]
    rfl
  refine take_ (i := 4) (N := some 8) (v := ?_) (a' := ?_) #[true, true, true, true, true, true, true, false, false, false, false] rfl rfl (take_ofW HT_.out HW_.out (by kernel_rfl)) (fun _ _ _ h => h) (Or.inl ⟨by rfl, ?_⟩) hHeld ?_ ?_
  rotate_left
  · rintro w' ⟨s0, s1, s2⟩
    go_simp
    with_reducible rfl
  rotate_left
  · simp only [Act.put, List.setIfInBounds_toArray, List.set_cons_zero, List.set_cons_succ, i64_w, i32_w]
    rfl
  refine one_ (i := 7) (N := some 11) #[true, true, true, true, true, true, true, true, false, false, false] rfl rfl (one_of HT_.out (by kernel_rfl)) (by decide) (fun K hK => ?_)
  refine goes_ Try.func64 (by kernel_rfl) rfl #[.map (some B), .slice A p.length c0] (by rfl) rfl rfl (by (try simp only [List.map_toArray, List.map_cons, List.map_nil]); first | done | rfl) ?_
  refine (impl_counter_count.callsN B (1853020188851841 * m) A c0 p r w0 _ HB.out HS.out.out.2.2.2.2.1 HS.out.out.2.2.2.1 (impl_CountByLength.room m HM.out) (fun W' hk_ => Kd.F_now (Kd.F_kept HF.out hk_ (fun k_ h_ => (HP.out k_ h_).2))) HC.out HRR.out).mono ?_
  rintro e w4 ⟨rfl, hm4, hb4, hk4⟩
  refine ⟨_, rfl, ?_⟩
  have n4_ := Aside0.mk (show impl_CountByLength.Sta w0.heap.size w4 gO gC go N C B (xs, m + 1) from by
    obtain ⟨h1, h2, h3, h4, h5, d1, d2, d3, d4, d5⟩ := HS.out.out
    exact ⟨blk_kept h1 hk4 d4, blk_kept h2 hk4 d5, Kd.R_step h3 (fun k e_ hlt => hk4.2 k hlt (fun x_ => d3 (by rw [← x_, e_]))), hm4, h5, d1, d2, d3, d4, d5⟩)
  have n5_ := Aside0.mk (Kept.then_ HK.out hk4 (fun k_ h_ => .inl (.inr h_)))
  have n6_ := Aside0.mk hb4
  clear HS HF HK HB hm4 hb4 hk4 hHeld
  have HS := n4_
  have HK := n5_
  have HB := n6_
  clear n4_ n5_ n6_
  refine hK.out _ _ (HCL.out _ _ HS.out) (fun hHeld => ?_)
  clear hK K
  refine norm_ (a' := ?_) ?_ ?_
  rotate_left
  · show Act.put _ (some 11) _ = _
    simp only [Act.put, List.setIfInBounds_toArray, List.set_cons_zero, List.set_cons_succ, i64_w, i32_w]
    rfl
  refine pure_ (i := 8) (N := some 12) (v := ?_) (a' := ?_) #[true, true, true, true, true, true, true, true, true, false, false] rfl rfl (any_of HT_.out (by kernel_rfl)) (fun _ _ _ h => h) (Or.inl ⟨by rfl, ?_⟩) ?_ ?_
  rotate_left
  · intro w'
    go_simp
    with_reducible rfl
  rotate_left
  · simp only [Act.put, List.setIfInBounds_toArray, List.set_cons_zero, List.set_cons_succ, i64_w, i32_w]
    rfl
  refine pure_ (i := 9) (N := some 13) (v := ?_) (a' := ?_) #[true, true, true, true, true, true, true, true, true, true, false] rfl rfl (any_of HT_.out (by kernel_rfl)) (fun _ _ _ h => h) (Or.inl ⟨by rfl, ?_⟩) ?_ ?_
  rotate_left
  · intro w'
    go_simp
    with_reducible rfl
  rotate_left
  · simp only [Act.put, List.setIfInBounds_toArray, List.set_cons_zero, List.set_cons_succ, i64_w, i32_w]
    rfl
  refine last_ (i := 10) (N := none) #[true, true, true, true, true, true, true, true, true, true, true] rfl rfl (one_of HT_.out (by kernel_rfl)) (by decide) (fun K hK => ?_)
  have hs_ := (HCL.out _ _ HS.out).2.2
  obtain ⟨cells, hcs⟩ := Kd.R_typed HS.out.out.2.2.1 go rfl
  have hf_ := blk_frozen hcs i.toNat
  clear hcs
  refine skip_ (w1 := ?_) (by rfl) rfl ?_ ?_
  rotate_left
  · go_simp
    rfl
  refine hK.out _ _ ?_
  clear hK K
  refine done_ (done_of HT_.out (by kernel_rfl)) ?_
  first
  | go_end0
  | refine bodyPost_ret (results_none rfl _ _ _) rfl ?_
  obtain ⟨h1, h2, h3, h4, h5, d1, d2, d3, d4, d5⟩ := HS.out.out
  have hp_ := Kd.R_putg h3 i (wrap64 (x + r))
  have hk_ := Kept.of_grown (S := fun k_ => k_ = go) hp_.2 (Kept.refl _ _) (fun k_ e_ => .inl (by cases e_; rfl))
  exact ⟨rfl, ⟨blk_far h1 d1 _, blk_far h2 d2 _, hp_.1, h4.kept hk_ d3, h5, d1, d2, d3, d4, d5⟩, HB.out.grown hp_.2 HB.out.size (fun k_ e_ => by cases e_; exact Kd.R_base h3 _ rfl), Kept.then_ HK.out hk_ (fun k_ e_ => .inl (.inl e_))⟩
theorem impl_CountByLength.lit_C {W : World} {g e : Nat} {x : Int} (h : W.heap[g]? = some (.cells #[.int .i64 x] e (0, 0))) : Kd.C (Kd.int .i64) W (some ⟨g, 0, none⟩) 1 [x] :=
  ⟨rfl, by decide, fun _ => ⟨_, rfl, fun j p hj => by
    cases j with
    | zero =>
      simp at hj
      subst hj
      refine ⟨[.int .i64 x], rfl, rfl, fun i u hu => ?_⟩
      cases i with
      | zero => simp at hu; subst hu; rw [add_at]; exact blk_cell h 0
      | succ i => simp at hu
    | succ j => simp at hj⟩⟩
def impl_CountByLength.T95 : Bool × List (List Nat × List Nat) := (true, [([], []), ([], []), ([1], [1]), ([], []), ([3], [3]), ([2, 4, 2], [2, 4]), ([], []), ([], []), ([6, 7, 5], [6, 7]), ([0, 5, 8, 8], [0, 5, 8])])
def impl_CountByLength.B95 : List Nat := [0, 0, 2, 0, 8, 30, 0, 0, 254, 511]
theorem impl_CountByLength.tab95 : rtab .any (opsOf Try.f95 5) = impl_CountByLength.T95 := by kernel_rfl
theorem impl_CountByLength.bits95 : waitsOk impl_CountByLength.T95.2 impl_CountByLength.B95 = true := by kernel_rfl
abbrev impl_CountByLength.fW (gO gC : Nat) : Value := .func (.func 62) #[] #[.pointer (some ⟨gO, 0, none⟩), .pointer (some ⟨gC, 0, none⟩)]
abbrev impl_CountByLength.fA (gW gA : Nat) : Value := .func (.func 95) #[] #[.pointer (some ⟨gW, 0, none⟩), .pointer (some ⟨gA, 0, none⟩)]
set_option maxHeartbeats 8000000 in
set_option maxRecDepth 100000 in
theorem impl_CountByLength.calls_add (gO gC go N C B gW gA : Nat) (hW1 : gW ≠ go ∧ gW ≠ B) (hA1 : gA ≠ go ∧ gA ≠ B) (w0 : World) : ∀ (d : Nat) (done : List Int) (Pd : Nat → Prop) (A1 : Option Addr) (c1 : Nat) (left : List Int) (Pl : Nat → Prop) (A2 : Option Addr) (c2 : Nat) (s s' : List Int × Nat) (w : World) (hB : Below w0.heap.size w0 w) (h1 : Kd.F (Kd.int .i64) w Pd A1 done.length done) (h1p : ∀ k, Pd k → k ≠ go ∧ k ≠ B) (hc1 : done.length ≤ c1) (h2 : Kd.F (Kd.int .i64) w Pl A2 left.length left) (h2p : ∀ k, Pl k → k ≠ go ∧ k ≠ B) (hc2 : left.length ≤ c2)
    (hbW : w.heap[gW]? = some (.cells #[impl_CountByLength.fW gO gC] 73 (0, 0))) (hbA : w.heap[gA]? = some (.cells #[impl_CountByLength.fA gW gA] 93 (0, 0))) (hS : impl_CountByLength.Sta w0.heap.size w gO gC go N C B s) (h : impl_CountByLength.g d done left s = some s'),
    Calls Try.prog 95 #[.slice A1 done.length c1, .slice A2 left.length c2, .pointer (some ⟨gW, 0, none⟩), .pointer (some ⟨gA, 0, none⟩)] w fun e w' => e = .returned (.tuple #[]) ∧ impl_CountByLength.Sta w0.heap.size w' gO gC go N C B s' ∧ Below w0.heap.size w0 w' ∧ Kept w w' (fun k_ => k_ = go ∨ k_ = B)
  | 0, _, _, _, _, _, _, _, _, _, _, _, _, _, _, _, _, _, _, _, _, _, h => by cases h
  | d + 1, done, Pd, A1, c1, left, Pl, A2, c2, s, s', w, hB, h1, h1p, hc1, h2, h2p, hc2, hbW, hbA, hS, h => by
    obtain ⟨s1, hs1, h⟩ := Option.bind_eq_some_iff.1 h
    have HB := Aside0.mk hB
    have H1 := Aside0.mk h1
    have HP1 := Aside0.mk h1p
    have HC1 := Aside0.mk hc1
    have H2 := Aside0.mk h2
    have HP2 := Aside0.mk h2p
    have HC2 := Aside0.mk hc2
    have BKW := Aside0.mk hbW
    have BKA := Aside0.mk hbA
    have HS := Aside0.mk hS
    have HL := Aside0.mk h
    have HDW := Aside0.mk hW1
    have HDA := Aside0.mk hA1
    have hcW : w.cell? ⟨gW, 0, none⟩ = some (impl_CountByLength.fW gO gC) := blk_cell hbW 0
    clear hB h1 h1p hc1 h2 h2p hc2 hbW hbA hS h hW1 hA1
    by_cases c : left.length = 0
    · rw [if_pos c] at hs1
      have cb : ((left.length : Int) == 0) = true := beq_iff_eq.mpr (by omega)
      have cd : decide ((left.length : Int) = 0) = true := decide_eq_true (by omega)
      have HNZ := Aside0.mk c
      unfold impl_CountByLength.cb at hs1
      obtain ⟨i, hi, hs1⟩ := Option.bind_eq_some_iff.1 hs1
      obtain ⟨ki, hi⟩ := impl_CountByLength.ev_some hi
      split at hs1
      case isFalse => cases hs1
      rename_i hx
      obtain ⟨r, hr, hs1⟩ := Option.bind_eq_some_iff.1 hs1
      obtain rfl := Option.some.inj hs1
      have HI := Aside0.mk hi
      have HXX := Aside0.mk hx
      have HRR := Aside0.mk hr
      clear hi hx hr hs1 c
      go_enter Try.func95, Try.ntmps95
      go_wp2_with (go_at_call 62; (refine (impl_CountByLength.calls_cb done A1 c1 Pd i r s.1 s.2 gO gC go N C B w0 _ HB.out H1.out HP1.out HC1.out HS.out ki HI.out HXX.out.1 HXX.out.2.1 HXX.out.2.2 HRR.out).mono ?_); rintro e w2 ⟨rfl, hs2, hb2, hk2⟩; have HS2 := Aside0.mk hs2; have HB2 := Aside0.mk hb2; have HK2 := Aside0.mk hk2; clear hs2 hb2 hk2 HS hcW)
      go_loopg [16] 0 (fun kq v16 w' => v16 = .int .i64 0 ∧ w' = w2)
      case atStart => exact ⟨rfl, rfl⟩
      case round =>
        obtain ⟨rfl, rfl⟩ := hrel
        have ct : decide ((0 : Int) < (left.length : Int)) = false := decide_eq_false (by have := HNZ.out; omega)
        have ct2 : decide (0 < left.length) = false := decide_eq_false (by have := HNZ.out; omega)
        have H := HL.out
        rw [HNZ.out] at H
        simp only [impl_CountByLength.lp, Option.some.injEq] at H
        have HE := Aside0.mk H
        clear H
        go_wp2
        first
        | go_end0
        | refine bodyPost_ret (results_none rfl _ _ _) rfl ?_
        exact ⟨rfl, by rw [← HE.out]; exact HS2.out, HB2.out, HK2.out⟩
    · rw [if_neg c] at hs1
      obtain rfl := Option.some.inj hs1
      have cb : ((left.length : Int) == 0) = false := beq_eq_false_iff_ne.mpr (by omega)
      have cd : decide ((left.length : Int) = 0) = false := decide_eq_false (by omega)
      clear c hs1
      have HMX := Aside0.mk (Kd.F_max H2.out)
      go_enter Try.func95, Try.ntmps95
      go_wp2
      go_loopg [16] left.length (fun kq v16 w' => ∃ (i : Nat) (si : List Int × Nat), v16 = .int .i64 (i : Int) ∧ Aside0 (i + kq = left.length) ∧ Aside0 (impl_CountByLength.lp (impl_CountByLength.g d) done left kq i si = some s') ∧ Aside0 (impl_CountByLength.Sta w0.heap.size w' gO gC go N C B si) ∧ Aside0 (Below w0.heap.size w0 w') ∧ Aside0 (Kept w w' (fun k_ => k_ = go ∨ k_ = B)))
      case atStart => exact ⟨0, s, rfl, ⟨by omega⟩, HL, ⟨HS.out⟩, ⟨HB.out⟩, ⟨Kept.refl _ _⟩⟩
      case round =>
        clear HS HB HL hcW
        obtain ⟨i, si, rfl, HI, HA, HS, HB, HK⟩ := hrel
        cases gk with
        | zero =>
          have H := HA.out
          simp only [impl_CountByLength.lp, Option.some.injEq] at H
          have HE := Aside0.mk H
          have HI0 := HI.out
          have ct : decide ((i : Int) < (left.length : Int)) = false := decide_eq_false (by omega)
          clear H
          go_wp2
          first
          | go_end0
          | refine bodyPost_ret (results_none rfl _ _ _) rfl ?_
          exact ⟨rfl, by rw [← HE.out]; exact HS.out, HB.out, HK.out⟩
        | succ k1 =>
          have H := HA.out
          simp only [impl_CountByLength.lp] at H
          obtain ⟨cl, hcl, H⟩ := Option.bind_eq_some_iff.1 H
          by_cases hc1 : cl.length < 1000
          case neg => rw [if_neg hc1] at H; cases H
          rw [if_pos hc1] at H
          obtain ⟨q, hq, H⟩ := Option.bind_eq_some_iff.1 H
          obtain ⟨s2, hg, H⟩ := Option.bind_eq_some_iff.1 H
          have HI0 := HI.out
          have p9 : (0 : Int) ≤ (i : Int) := by omega
          have q9 : (i : Int) < left.length := by omega
          have ct : decide ((i : Int) < (left.length : Int)) = true := decide_eq_true q9
          have HF1 := Aside0.mk (Kd.F_kept H1.out HK.out (fun k_ h_ e_ => e_.elim (HP1.out k_ h_).1 (HP1.out k_ h_).2))
          have HF2 := Aside0.mk (Kd.F_kept H2.out HK.out (fun k_ h_ e_ => e_.elim (HP2.out k_ h_).1 (HP2.out k_ h_).2))
          have BKW2 := Aside0.mk (blk_kept BKW.out HK.out (fun e_ => e_.elim HDW.out.1 HDW.out.2))
          have BKA2 := Aside0.mk (blk_kept BKA.out HK.out (fun e_ => e_.elim HDA.out.1 HDA.out.2))
          obtain ⟨ad9, e9, hx9⟩ := Kd.at_int (Kd.F_now HF2.out) (i : Int) p9 q9
          subst e9
          simp only [Int.toNat_natCast] at hx9
          obtain ⟨x, hx⟩ : ∃ x, x = rd left (i : Int) := ⟨_, rfl⟩
          rw [← hx] at hx9 hg
          obtain ⟨y5, ny5⟩ : ∃ y, y = cl ++ [x] := ⟨_, rfl⟩
          rw [← ny5] at hg
          have NY := Aside0.mk ny5
          have HCL := Aside0.mk hcl
          have HQ := Aside0.mk hq
          have HG := Aside0.mk hg
          have HT := Aside0.mk H
          have HCC := Aside0.mk hc1
          clear hcl hq hg H hc1 hx ny5
          replace p9 := eq_true p9
          replace q9 := eq_true q9
          go_wp2
          clear hx9
          have n0_ := Aside0.mk (Kd.F_drew HF1.out)
          have n1_ := Aside0.mk (Kd.F_drew HF2.out)
          have n2_ := Aside0.mk (blk_drew BKW2.out)
          have n3_ := Aside0.mk (blk_drew BKA2.out)
          have n4_ := Aside0.mk (HS.out.below (below_drew1 (Below.refl _ _)))
          have n5_ := Aside0.mk (below_drew1 HB.out)
          have n6_ := Aside0.mk (Kept.drew HK.out)
          clear HF1 HF2 BKW2 BKA2 HS HB HK
          have HF1 := n0_
          have HF2 := n1_
          have BKW2 := n2_
          have BKA2 := n3_
          have HS := n4_
          have HB := n5_
          have HK := n6_
          clear n0_ n1_ n2_ n3_ n4_ n5_ n6_
          refine start_ (n := 10) (S := fun w' => w'.cell? ⟨gA, 0, none⟩ = some (impl_CountByLength.fA gW gA)) (ds := [9]) #[false, false, false, false, false, false, false, false, false, false] (by kernel_rfl) rfl rfl (blk_cell BKA2.out 0) (fun hHeld => ?_)
          refine with_tabW impl_CountByLength.tab95 impl_CountByLength.bits95 (fun HT_ HW_ => ?_)
          generalize wr.drew = w1 at HF1 HF2 BKW2 BKA2 HS HB HK hHeld ⊢
          have HBL := Aside0.mk (Below.refl w1.heap.size w1)
          have HLT := Aside0.mk (show go < w1.heap.size ∧ B < w1.heap.size from ⟨Kd.R_lt HS.out.out.2.2.1 go rfl, HS.out.out.2.2.2.1.lt⟩)
          refine pure_ (i := 1) (N := some 22) (v := ?_) (a' := ?_) #[false, true, false, false, false, false, false, false, false, false] rfl rfl (any_of HT_.out (by kernel_rfl)) (fun _ _ _ h => h) (Or.inl ⟨by rfl, ?_⟩) ?_ ?_
          rotate_left
          · intro w'
            go_simp
            with_reducible rfl
          rotate_left
          · simp only [Act.put, List.setIfInBounds_toArray, List.set_cons_zero, List.set_cons_succ, i64_w, i32_w]
            rfl
          refine pure_ (i := 3) (N := some 24) (v := ?_) (a' := ?_) #[false, true, false, true, false, false, false, false, false, false] rfl rfl (any_of HT_.out (by kernel_rfl)) (fun _ _ _ h => h) (Or.inl ⟨by rfl, ?_⟩) ?_ ?_
          rotate_left
          · intro w'
            go_simp
            with_reducible rfl
          rotate_left
          · simp only [Act.put, List.setIfInBounds_toArray, List.set_cons_zero, List.set_cons_succ, i64_w, i32_w]
            rfl
          refine pure_ (i := 6) (N := some 27) (v := ?_) (a' := ?_) #[false, true, false, true, false, false, true, false, false, false] rfl rfl (any_of HT_.out (by kernel_rfl)) (fun _ _ _ h => h) (Or.inl ⟨by rfl, ?_⟩) ?_ ?_
          rotate_left
          · intro w'
            go_simp
            with_reducible rfl
          rotate_left
          · simp only [Act.put, List.setIfInBounds_toArray, List.set_cons_zero, List.set_cons_succ, i64_w, i32_w]
            rfl
          refine pure_ (i := 7) (N := some 28) (v := ?_) (a' := ?_) #[false, true, false, true, false, false, true, true, false, false] rfl rfl (any_of HT_.out (by kernel_rfl)) (fun _ _ _ h => h) (Or.inl ⟨by rfl, ?_⟩) ?_ ?_
          rotate_left
          · intro w'
            go_simp
            with_reducible rfl
          rotate_left
          · simp only [Act.put, List.setIfInBounds_toArray, List.set_cons_zero, List.set_cons_succ, i64_w, i32_w]
            rfl
          refine take_ (i := 0) (N := some 21) (v := ?_) (a' := ?_) #[true, true, false, true, false, false, true, true, false, false] rfl rfl (take_ofW HT_.out HW_.out (by kernel_rfl)) (fun _ _ _ h => h) (Or.inl ⟨by rfl, ?_⟩) hHeld ?_ ?_
          rotate_left
          · rintro w' s0
            go_simp
            with_reducible rfl
          rotate_left
          · simp only [Act.put, List.setIfInBounds_toArray, List.set_cons_zero, List.set_cons_succ, i64_w, i32_w]
            rfl
          refine two_ (i := 2) (j := 4) (Ni := some 23) (Nj := some 25) #[true, true, true, true, false, false, true, true, false, false] #[true, true, false, true, true, false, true, true, false, false] rfl rfl rfl rfl (two_of HT_.out (by kernel_rfl)) (by decide) (by decide) (fun K hK => ?_) (fun K hK => ?_)
          · refine goes_ Try.func96 (by kernel_rfl) rfl #[.slice A1 done.length c1] (by rfl) rfl rfl (by (try simp only [List.map_toArray, List.map_cons, List.map_nil]); first | done | rfl) ?_
            refine (slices_Clone_int_int.calls A1 c1 done cl _ (Kd.F_now (Kd.F_below HF1.out HBL.out)) HC1.out HCL.out).mono ?_
            rintro e w4 ⟨v4, rfl, hr4, hb⟩
            refine ⟨_, rfl, ?_⟩
            have HR4 := Aside0.mk (Kd.R_lower hr4 HBL.out.size)
            have n0_ := Aside0.mk (below_step HBL.out hb)
            clear HBL hHeld hr4 hb
            have HBL := n0_
            clear n0_
            refine hK.out _ _ (blk_cell (blk_below BKA2.out HBL.out) 0) (fun hHeld => ?_)
            clear hK K
            refine norm_ (a' := ?_) ?_ ?_
            rotate_left
            · show Act.put _ (some 23) _ = _
              simp only [Act.put, List.setIfInBounds_toArray, List.set_cons_zero, List.set_cons_succ, i64_w, i32_w]
              rfl
            refine one_ (i := 4) (N := some 25) #[true, true, true, true, true, false, true, true, false, false] rfl rfl (one_of HT_.out (by kernel_rfl)) (by decide) (fun K hK => ?_)
            refine value_ (w1 := w4.alloc (.cells #[.int .i64 x] 3)) (v := .slice (some ⟨w4.heap.size, 0, none⟩) 1 1) (by rfl) rfl ?_ ?_
            · go_simp
            have hb := below_alloc (Below.refl w4.heap.size w4) (.cells #[.int .i64 x] 3 (0, 0))
            have BKL := Aside0.mk (blk_new w4 (.cells #[.int .i64 x] 3 (0, 0)))
            have n0_ := Aside0.mk (below_step HBL.out hb)
            have n1_ := Aside0.mk (Kd.R_below HR4.out hb)
            clear HBL HR4 hHeld hb
            have HBL := n0_
            have HR4 := n1_
            clear n0_ n1_
            obtain ⟨GL, hGL⟩ : ∃ G_, G_ = w4.heap.size := ⟨_, rfl⟩
            rw [← hGL] at BKL ⊢
            clear hGL
            generalize w4.alloc (.cells #[.int .i64 x] 3) = w5 at HBL BKL HR4 ⊢
            refine hK.out _ _ (blk_cell (blk_below BKA2.out HBL.out) 0) (fun hHeld => ?_)
            clear hK K
            refine norm_ (a' := ?_) ?_ ?_
            rotate_left
            · show Act.put _ (some 25) _ = _
              simp only [Act.put, List.setIfInBounds_toArray, List.set_cons_zero, List.set_cons_succ, i64_w, i32_w]
              rfl
            refine one_ (i := 5) (N := some 26) #[true, true, true, true, true, true, true, true, false, false] rfl rfl (one_of HT_.out (by kernel_rfl)) (by decide) (fun K hK => ?_)
            refine Kd.R_append_rows_step (Kd.int .i64) (w0 := w1) w1.heap.size (by rfl) (.tmp 23) (.tmp 25) 25 3 (.int .i64 0) 8 rfl Try.underlying25 info3 rfl (by decide) (by omega) v4 cl [x] (some ⟨GL, 0, none⟩) 1 1 (fun _ => True) (fun _ => False) rfl rfl HR4.out (impl_CountByLength.lit_C BKL.out) (fun _ _ h_ => h_) (fun _ h_ => h_.elim) (fun _ _ => trivial) HBL.out HBL.out.size (by have := HCC.out; omega) ?_
            intro v5 w6 ho hb hg hat
            rw [← NY.out] at ho
            have HR5 := Aside0.mk ho
            clear HBL HR4 BKL hHeld
            have HBL := Aside0.mk hb
            clear ho hb hg hat
            obtain ⟨A5, c5, e5⟩ := Kd.R_slice HR5.out
            subst e5
            refine hK.out _ _ (blk_cell (blk_below BKA2.out HBL.out) 0) (fun hHeld => ?_)
            clear hK K
            refine norm_ (a' := ?_) ?_ ?_
            rotate_left
            · show Act.put _ (some 26) _ = _
              simp only [Act.put, List.setIfInBounds_toArray, List.set_cons_zero, List.set_cons_succ, i64_w, i32_w]
              rfl
            refine one_ (i := 8) (N := some 29) #[true, true, true, true, true, true, true, true, true, false] rfl rfl (one_of HT_.out (by kernel_rfl)) (by decide) (fun K hK => ?_)
            refine goes_ Try.func97 (by kernel_rfl) rfl #[.slice (some ad9) left.length c2, .int .i64 (i : Int)] (by rfl) rfl rfl (by (try simp only [List.map_toArray, List.map_cons, List.map_nil]); first | done | rfl) ?_
            refine (impl_without.calls (some ad9) c2 left (i : Int) q _ (Kd.F_now (Kd.F_below HF2.out HBL.out)) HC2.out HQ.out).mono ?_
            rintro e w7 ⟨v6, rfl, hr6, hb⟩
            refine ⟨_, rfl, ?_⟩
            have HR6 := Aside0.mk (Kd.R_lower hr6 HBL.out.size)
            have n0_ := Aside0.mk (below_step HBL.out hb)
            have n1_ := Aside0.mk (Kd.R_below HR5.out hb)
            clear HBL HR5 hHeld hr6 hb
            have HBL := n0_
            have HR5 := n1_
            clear n0_ n1_
            obtain ⟨A6, c6, e6⟩ := Kd.R_slice HR6.out
            subst e6
            refine hK.out _ _ (blk_cell (blk_below BKA2.out HBL.out) 0) (fun hHeld => ?_)
            clear hK K
            refine norm_ (a' := ?_) ?_ ?_
            rotate_left
            · show Act.put _ (some 29) _ = _
              simp only [Act.put, List.setIfInBounds_toArray, List.set_cons_zero, List.set_cons_succ, i64_w, i32_w]
              rfl
            refine last_ (i := 9) (N := some 30) #[true, true, true, true, true, true, true, true, true, true] rfl rfl (one_of HT_.out (by kernel_rfl)) (by decide) (fun K hK => ?_)
            refine call_ 95 #[.slice A5 y5.length c5, .slice A6 q.length c6, .pointer (some ⟨gW, 0, none⟩), .pointer (some ⟨gA, 0, none⟩)] (by rfl) rfl ?hrun ?_
            case hrun =>
              have he := enters_ (P := Try.prog) (f := 95) (fn := Try.f95) Try.func95 rfl rfl #[.slice A5 y5.length c5, .slice A6 q.length c6, .pointer (some ⟨gW, 0, none⟩), .pointer (some ⟨gA, 0, none⟩)] w7
              unfold execOp
              simp [resolve, Deferred.ofValue, invoke, Act.eval, he]
            refine (impl_CountByLength.calls_add gO gC go N C B gW gA HDW.out HDA.out w0 d y5 (fun k_ => some k_ = (Value.slice A5 y5.length c5).ownBlock) A5 c5 q (fun k_ => some k_ = (Value.slice A6 q.length c6).ownBlock) A6 c6 si s2 w7 (below_step HB.out HBL.out) (Kd.R_F (Kd.R_tight rfl HR5.out)) (fun k_ h_ => by have h1_ := Kd.R_base HR5.out k_ h_.symm; have h2_ := HLT.out; omega) (Kd.R_reads' HR5.out).2.1 (Kd.R_F (Kd.R_tight rfl HR6.out)) (fun k_ h_ => by have h1_ := Kd.R_base HR6.out k_ h_.symm; have h2_ := HLT.out; omega) (Kd.R_reads' HR6.out).2.1 (blk_below BKW2.out HBL.out) (blk_below BKA2.out HBL.out) (HS.out.below HBL.out) HG.out).mono ?_
            rintro e w8 ⟨rfl, hs8, hb8, hk8⟩
            refine ⟨_, rfl, ?_⟩
            have HS8 := Aside0.mk hs8
            have HB8 := Aside0.mk hb8
            have HK8 := Aside0.mk (Kept.then_ (Kept.below HK.out HBL.out) hk8 (fun _ h_ => .inl h_))
            clear hs8 hb8 hk8 HS HB HK HBL hHeld HF1 HF2 BKW2 BKA2
            refine hK.out _ _ ?_
            clear hK K
            refine norm_ (a' := ?_) ?_ ?_
            rotate_left
            · show Act.put _ (some 30) _ = _
              simp only [Act.put, List.setIfInBounds_toArray, List.set_cons_zero, List.set_cons_succ, i64_w, i32_w]
              rfl
            refine done_ (done_of HT_.out (by kernel_rfl)) ?_
            try go_wp2
            go_roundg k1
            case measure => omega
            case rel => exact ⟨i + 1, s2, (by have h_ := HMX.out; first | rfl | (simp; done) | (simp [wrap64]; omega)), ⟨by omega⟩, HT, HS8, HB8, HK8⟩
          · refine value_ (w1 := w1.alloc (.cells #[.int .i64 x] 3)) (v := .slice (some ⟨w1.heap.size, 0, none⟩) 1 1) (by rfl) rfl ?_ ?_
            · go_simp
            have hb := below_alloc (Below.refl w1.heap.size w1) (.cells #[.int .i64 x] 3 (0, 0))
            have BKL := Aside0.mk (blk_new w1 (.cells #[.int .i64 x] 3 (0, 0)))
            have n0_ := Aside0.mk (below_step HBL.out hb)
            clear HBL hHeld hb
            have HBL := n0_
            clear n0_
            obtain ⟨GL, hGL⟩ : ∃ G_, G_ = w1.heap.size := ⟨_, rfl⟩
            rw [← hGL] at BKL ⊢
            clear hGL
            generalize w1.alloc (.cells #[.int .i64 x] 3) = w5 at HBL BKL ⊢
            refine hK.out _ _ (blk_cell (blk_below BKA2.out HBL.out) 0) (fun hHeld => ?_)
            clear hK K
            refine norm_ (a' := ?_) ?_ ?_
            rotate_left
            · show Act.put _ (some 25) _ = _
              simp only [Act.put, List.setIfInBounds_toArray, List.set_cons_zero, List.set_cons_succ, i64_w, i32_w]
              rfl
            refine one_ (i := 2) (N := some 23) #[true, true, true, true, true, false, true, true, false, false] rfl rfl (one_of HT_.out (by kernel_rfl)) (by decide) (fun K hK => ?_)
            refine goes_ Try.func96 (by kernel_rfl) rfl #[.slice A1 done.length c1] (by rfl) rfl rfl (by (try simp only [List.map_toArray, List.map_cons, List.map_nil]); first | done | rfl) ?_
            refine (slices_Clone_int_int.calls A1 c1 done cl _ (Kd.F_now (Kd.F_below HF1.out HBL.out)) HC1.out HCL.out).mono ?_
            rintro e w4 ⟨v4, rfl, hr4, hb⟩
            refine ⟨_, rfl, ?_⟩
            have HR4 := Aside0.mk (Kd.R_lower hr4 HBL.out.size)
            have n0_ := Aside0.mk (below_step HBL.out hb)
            have n1_ := Aside0.mk (blk_below BKL.out hb)
            clear HBL BKL hHeld hr4 hb
            have HBL := n0_
            have BKL := n1_
            clear n0_ n1_
            refine hK.out _ _ (blk_cell (blk_below BKA2.out HBL.out) 0) (fun hHeld => ?_)
            clear hK K
            refine norm_ (a' := ?_) ?_ ?_
            rotate_left
            · show Act.put _ (some 23) _ = _
              simp only [Act.put, List.setIfInBounds_toArray, List.set_cons_zero, List.set_cons_succ, i64_w, i32_w]
              rfl
            refine one_ (i := 5) (N := some 26) #[true, true, true, true, true, true, true, true, false, false] rfl rfl (one_of HT_.out (by kernel_rfl)) (by decide) (fun K hK => ?_)
            refine Kd.R_append_rows_step (Kd.int .i64) (w0 := w1) w1.heap.size (by rfl) (.tmp 23) (.tmp 25) 25 3 (.int .i64 0) 8 rfl Try.underlying25 info3 rfl (by decide) (by omega) v4 cl [x] (some ⟨GL, 0, none⟩) 1 1 (fun _ => True) (fun _ => False) rfl rfl HR4.out (impl_CountByLength.lit_C BKL.out) (fun _ _ h_ => h_) (fun _ h_ => h_.elim) (fun _ _ => trivial) HBL.out HBL.out.size (by have := HCC.out; omega) ?_
            intro v5 w6 ho hb hg hat
            rw [← NY.out] at ho
            have HR5 := Aside0.mk ho
            clear HBL HR4 BKL hHeld
            have HBL := Aside0.mk hb
            clear ho hb hg hat
            obtain ⟨A5, c5, e5⟩ := Kd.R_slice HR5.out
            subst e5
            refine hK.out _ _ (blk_cell (blk_below BKA2.out HBL.out) 0) (fun hHeld => ?_)
            clear hK K
            refine norm_ (a' := ?_) ?_ ?_
            rotate_left
            · show Act.put _ (some 26) _ = _
              simp only [Act.put, List.setIfInBounds_toArray, List.set_cons_zero, List.set_cons_succ, i64_w, i32_w]
              rfl
            refine one_ (i := 8) (N := some 29) #[true, true, true, true, true, true, true, true, true, false] rfl rfl (one_of HT_.out (by kernel_rfl)) (by decide) (fun K hK => ?_)
            refine goes_ Try.func97 (by kernel_rfl) rfl #[.slice (some ad9) left.length c2, .int .i64 (i : Int)] (by rfl) rfl rfl (by (try simp only [List.map_toArray, List.map_cons, List.map_nil]); first | done | rfl) ?_
            refine (impl_without.calls (some ad9) c2 left (i : Int) q _ (Kd.F_now (Kd.F_below HF2.out HBL.out)) HC2.out HQ.out).mono ?_
            rintro e w7 ⟨v6, rfl, hr6, hb⟩
            refine ⟨_, rfl, ?_⟩
            have HR6 := Aside0.mk (Kd.R_lower hr6 HBL.out.size)
            have n0_ := Aside0.mk (below_step HBL.out hb)
            have n1_ := Aside0.mk (Kd.R_below HR5.out hb)
            clear HBL HR5 hHeld hr6 hb
            have HBL := n0_
            have HR5 := n1_
            clear n0_ n1_
            obtain ⟨A6, c6, e6⟩ := Kd.R_slice HR6.out
            subst e6
            refine hK.out _ _ (blk_cell (blk_below BKA2.out HBL.out) 0) (fun hHeld => ?_)
            clear hK K
            refine norm_ (a' := ?_) ?_ ?_
            rotate_left
            · show Act.put _ (some 29) _ = _
              simp only [Act.put, List.setIfInBounds_toArray, List.set_cons_zero, List.set_cons_succ, i64_w, i32_w]
              rfl
            refine last_ (i := 9) (N := some 30) #[true, true, true, true, true, true, true, true, true, true] rfl rfl (one_of HT_.out (by kernel_rfl)) (by decide) (fun K hK => ?_)
            refine call_ 95 #[.slice A5 y5.length c5, .slice A6 q.length c6, .pointer (some ⟨gW, 0, none⟩), .pointer (some ⟨gA, 0, none⟩)] (by rfl) rfl ?hrun ?_
            case hrun =>
              have he := enters_ (P := Try.prog) (f := 95) (fn := Try.f95) Try.func95 rfl rfl #[.slice A5 y5.length c5, .slice A6 q.length c6, .pointer (some ⟨gW, 0, none⟩), .pointer (some ⟨gA, 0, none⟩)] w7
              unfold execOp
              simp [resolve, Deferred.ofValue, invoke, Act.eval, he]
            refine (impl_CountByLength.calls_add gO gC go N C B gW gA HDW.out HDA.out w0 d y5 (fun k_ => some k_ = (Value.slice A5 y5.length c5).ownBlock) A5 c5 q (fun k_ => some k_ = (Value.slice A6 q.length c6).ownBlock) A6 c6 si s2 w7 (below_step HB.out HBL.out) (Kd.R_F (Kd.R_tight rfl HR5.out)) (fun k_ h_ => by have h1_ := Kd.R_base HR5.out k_ h_.symm; have h2_ := HLT.out; omega) (Kd.R_reads' HR5.out).2.1 (Kd.R_F (Kd.R_tight rfl HR6.out)) (fun k_ h_ => by have h1_ := Kd.R_base HR6.out k_ h_.symm; have h2_ := HLT.out; omega) (Kd.R_reads' HR6.out).2.1 (blk_below BKW2.out HBL.out) (blk_below BKA2.out HBL.out) (HS.out.below HBL.out) HG.out).mono ?_
            rintro e w8 ⟨rfl, hs8, hb8, hk8⟩
            refine ⟨_, rfl, ?_⟩
            have HS8 := Aside0.mk hs8
            have HB8 := Aside0.mk hb8
            have HK8 := Aside0.mk (Kept.then_ (Kept.below HK.out HBL.out) hk8 (fun _ h_ => .inl h_))
            clear hs8 hb8 hk8 HS HB HK HBL hHeld HF1 HF2 BKW2 BKA2
            refine hK.out _ _ ?_
            clear hK K
            refine norm_ (a' := ?_) ?_ ?_
            rotate_left
            · show Act.put _ (some 30) _ = _
              simp only [Act.put, List.setIfInBounds_toArray, List.set_cons_zero, List.set_cons_succ, i64_w, i32_w]
              rfl
            refine done_ (done_of HT_.out (by kernel_rfl)) ?_
            try go_wp2
            go_roundg k1
            case measure => omega
            case rel => exact ⟨i + 1, s2, (by have h_ := HMX.out; first | rfl | (simp; done) | (simp [wrap64]; omega)), ⟨by omega⟩, HT, HS8, HB8, HK8⟩
def impl_CountByLength.T61 : Bool × List (List Nat × List Nat) := (true, [([], []), ([], []), ([1], [1]), ([0, 2, 2], [0, 2])])
def impl_CountByLength.B61 : List Nat := [0, 0, 2, 7]
theorem impl_CountByLength.tab61 : rtab .any (opsOf Try.f61 3) = impl_CountByLength.T61 := by kernel_rfl
theorem impl_CountByLength.bits61 : waitsOk impl_CountByLength.T61.2 impl_CountByLength.B61 = true := by kernel_rfl
theorem impl_CountByLength.run_store_func (P : Program) (w : World) (a : Addr) (m : Mode) (fn : Fn) (first captured : Array Value) : (store a (.func fn first captured) m).run P w = stored P w a (.func fn first captured) m := run_store P w a _ m rfl
attribute [local go_sem] impl_CountByLength.run_store_func
set_option maxHeartbeats 8000000 in
set_option maxRecDepth 100000 in
theorem impl_CountByLength.calls_orders (gO gC go N C B : Nat) (n : Int) (idn : List Int) (kn d : Nat) (s s' : List Int × Nat) (w0 w : World) (hidn : impl_identity.f kn n = some idn) (hg : impl_CountByLength.g d [] idn s = some s') (hB : Below w0.heap.size w0 w) (hS : impl_CountByLength.Sta w0.heap.size w gO gC go N C B s) :
    Calls Try.prog 61 #[.int .i64 n, impl_CountByLength.fW gO gC] w fun e w' => e = .returned (.tuple #[]) ∧ impl_CountByLength.Sta w0.heap.size w' gO gC go N C B s' ∧ Below w0.heap.size w0 w' := by
  have HI := Aside0.mk hidn
  have HG := Aside0.mk hg
  have HB := Aside0.mk hB
  have HS := Aside0.mk hS
  have HLT := Aside0.mk (show go < w.heap.size ∧ B < w.heap.size from ⟨Kd.R_lt hS.out.2.2.1 go rfl, hS.out.2.2.2.1.lt⟩)
  clear hidn hg hB hS
  go_enter Try.func61, Try.ntmps61
  go_wp2
  have hb := below_alloc (below_alloc (Below.refl w.heap.size w) (.cells #[impl_CountByLength.fW gO gC] 73 (0, 0))) (.cells #[impl_CountByLength.fA w.heap.size (w.heap.size + 1)] 93 (0, 0))
  have BKW := Aside0.mk (blk_drew (blk_alloc (blk_new w (.cells #[impl_CountByLength.fW gO gC] 73 (0, 0))) (.cells #[impl_CountByLength.fA w.heap.size (w.heap.size + 1)] 93 (0, 0))))
  have BKA := Aside0.mk (blk_drew (show ((w.alloc (.cells #[impl_CountByLength.fW gO gC] 73 (0, 0))).alloc (.cells #[impl_CountByLength.fA w.heap.size (w.heap.size + 1)] 93 (0, 0))).heap[w.heap.size + 1]? = some (.cells #[impl_CountByLength.fA w.heap.size (w.heap.size + 1)] 93 (0, 0)) from by have h_ := blk_new (w.alloc (.cells #[impl_CountByLength.fW gO gC] 73 (0, 0))) (.cells #[impl_CountByLength.fA w.heap.size (w.heap.size + 1)] 93 (0, 0)); simpa using h_))
  have HBL := Aside0.mk (below_drew1 hb)
  clear hb
  have HDW := Aside0.mk (show w.heap.size ≠ go ∧ w.heap.size ≠ B from by have h_ := HLT.out; omega)
  have HDA := Aside0.mk (show w.heap.size + 1 ≠ go ∧ w.heap.size + 1 ≠ B from by have h_ := HLT.out; omega)
  refine start_ (n := 4) (S := fun w' => w'.cell? ⟨w.heap.size + 1, 0, none⟩ = some (impl_CountByLength.fA w.heap.size (w.heap.size + 1))) (ds := [3]) #[false, false, false, false] (by kernel_rfl) rfl rfl (blk_cell BKA.out 0) (fun hHeld => ?_)
  refine with_tabW impl_CountByLength.tab61 impl_CountByLength.bits61 (fun HT_ HW_ => ?_)
  generalize ((w.alloc (.cells #[impl_CountByLength.fW gO gC] 73 (0, 0))).alloc (.cells #[impl_CountByLength.fA w.heap.size (w.heap.size + 1)] 93 (0, 0))).drew = w1 at HBL BKW BKA hHeld ⊢
  refine pure_ (i := 1) (N := some 7) (v := ?_) (a' := ?_) #[false, true, false, false] rfl rfl (any_of HT_.out (by kernel_rfl)) (fun _ _ _ h => h) (Or.inl ⟨by rfl, ?_⟩) ?_ ?_
  rotate_left
  · intro w'
    go_simp
    with_reducible rfl
  rotate_left
  · simp only [Act.put, List.setIfInBounds_toArray, List.set_cons_zero, List.set_cons_succ, i64_w, i32_w]
    rfl
  refine take_ (i := 0) (N := some 6) (v := ?_) (a' := ?_) #[true, true, false, false] rfl rfl (take_ofW HT_.out HW_.out (by kernel_rfl)) (fun _ _ _ h => h) (Or.inl ⟨by rfl, ?_⟩) hHeld ?_ ?_
  rotate_left
  · rintro w' s0
    go_simp
    with_reducible rfl
  rotate_left
  · simp only [Act.put, List.setIfInBounds_toArray, List.set_cons_zero, List.set_cons_succ, i64_w, i32_w]
    rfl
  refine one_ (i := 2) (N := some 8) #[true, true, true, false] rfl rfl (one_of HT_.out (by kernel_rfl)) (by decide) (fun K hK => ?_)
  refine goes_ Try.func98 (by kernel_rfl) rfl #[.int .i64 n] (by rfl) rfl rfl (by (try simp only [List.map_toArray, List.map_cons, List.map_nil]); first | done | rfl) ?_
  refine (impl_identity.calls kn n idn _ HI.out).mono ?_
  rintro e w3 ⟨v3, rfl, hr3, hb⟩
  refine ⟨_, rfl, ?_⟩
  have HR3 := Aside0.mk (Kd.R_lower hr3 HBL.out.size)
  have n0_ := Aside0.mk (below_step HBL.out hb)
  have n1_ := Aside0.mk (blk_below BKW.out hb)
  have n2_ := Aside0.mk (blk_below BKA.out hb)
  clear HBL BKW BKA hHeld hr3 hb
  have HBL := n0_
  have BKW := n1_
  have BKA := n2_
  clear n0_ n1_ n2_
  obtain ⟨A3, c3, e3⟩ := Kd.R_slice HR3.out
  subst e3
  refine hK.out _ _ (blk_cell BKA.out 0) (fun hHeld => ?_)
  clear hK K
  refine norm_ (a' := ?_) ?_ ?_
  rotate_left
  · show Act.put _ (some 8) _ = _
    simp only [Act.put, List.setIfInBounds_toArray, List.set_cons_zero, List.set_cons_succ, i64_w, i32_w]
    rfl
  refine last_ (i := 3) (N := some 9) #[true, true, true, true] rfl rfl (one_of HT_.out (by kernel_rfl)) (by decide) (fun K hK => ?_)
  refine call_ 95 #[.slice none 0 0, .slice A3 idn.length c3, .pointer (some ⟨w.heap.size, 0, none⟩), .pointer (some ⟨w.heap.size + 1, 0, none⟩)] (by rfl) rfl ?hrun ?_
  case hrun =>
    have he := enters_ (P := Try.prog) (f := 95) (fn := Try.f95) Try.func95 rfl rfl #[.slice none 0 0, .slice A3 idn.length c3, .pointer (some ⟨w.heap.size, 0, none⟩), .pointer (some ⟨w.heap.size + 1, 0, none⟩)] w3
    unfold execOp
    simp [resolve, Deferred.ofValue, invoke, Act.eval, he]
  refine (impl_CountByLength.calls_add gO gC go N C B w.heap.size (w.heap.size + 1) HDW.out HDA.out w0 d [] (fun _ => False) none 0 idn (fun k_ => some k_ = (Value.slice A3 idn.length c3).ownBlock) A3 c3 s s' w3 (below_step HB.out HBL.out) (Kd.F_nil _ _ _) (fun _ h_ => h_.elim) (Nat.le_refl _) (Kd.R_F (Kd.R_tight rfl HR3.out)) (fun k_ h_ => by have h1_ := Kd.R_base HR3.out k_ h_.symm; have h2_ := HLT.out; omega) (Kd.R_reads' HR3.out).2.1 BKW.out BKA.out (HS.out.below HBL.out) HG.out).mono ?_
  rintro e w8 ⟨rfl, hs8, hb8, hk8⟩
  refine ⟨_, rfl, ?_⟩
  refine hK.out _ _ ?_
  clear hK K
  refine norm_ (a' := ?_) ?_ ?_
  rotate_left
  · show Act.put _ (some 9) _ = _
    simp only [Act.put, List.setIfInBounds_toArray, List.set_cons_zero, List.set_cons_succ, i64_w, i32_w]
    rfl
  refine done_ (done_of HT_.out (by kernel_rfl)) ?_
  first
  | go_end0
  | refine bodyPost_ret (results_none rfl _ _ _) rfl ?_
  exact ⟨rfl, hs8, hb8⟩
theorem impl_CountByLength.mk_sta {base : Nat} {w4 : World} {go N C : Nat} {xs : List Int} (hR : Kd.R (Kd.int .i64) 3 w4 base (fun k_ => k_ = go) (.slice (some ⟨go, 0, none⟩) N C) xs) (hb : base ≤ w4.heap.size) :
    impl_CountByLength.Sta base (((w4.alloc (.map #[] 0)).alloc (.cells #[.slice (some ⟨go, 0, none⟩) N C] 25 (0, 0))).alloc (.cells #[.map (some w4.heap.size)] 71 (0, 0))) (w4.heap.size + 1) (w4.heap.size + 1 + 1) go N C w4.heap.size (xs, 0) := by
  have hlt := Kd.R_lt hR go rfl
  have b1 := blk_new (w4.alloc (.map #[] 0)) (.cells #[.slice (some ⟨go, 0, none⟩) N C] 25 (0, 0))
  have b2 := blk_new ((w4.alloc (.map #[] 0)).alloc (.cells #[.slice (some ⟨go, 0, none⟩) N C] 25 (0, 0))) (.cells #[.map (some w4.heap.size)] 71 (0, 0))
  have e1 : (w4.alloc (.map #[] 0)).heap.size = w4.heap.size + 1 := by simp
  have e2 : ((w4.alloc (.map #[] 0)).alloc (.cells #[.slice (some ⟨go, 0, none⟩) N C] 25 (0, 0))).heap.size = w4.heap.size + 1 + 1 := by simp
  rw [e1] at b1
  rw [e2] at b2
  refine ⟨blk_alloc b1 _, b2, Kd.R_alloc (Kd.R_alloc (Kd.R_alloc hR _) _) _, ?_, hb, by omega, by omega, by omega, by omega, by omega⟩
  exact ((impl_counter_count.Mem.made w4).below (below_alloc (Below.refl _ _) _)).below (below_alloc (Below.refl _ _) _)
noncomputable def impl_CountByLength.f (n : Int) : Option (List Int × Bool) := if 2 ≤ n ∧ n ≤ 6 then (impl_CountByLength.ev fun k => impl_identity.f k n).bind fun idn => (impl_CountByLength.ev fun d => impl_CountByLength.g d [] idn (List.replicate (n * (n - 1) / 2 + 1).toNat 0, 0)).bind fun s => some (s.1, true) else some ([], false)
set_option maxHeartbeats 8000000 in
set_option maxRecDepth 100000 in
theorem impl_CountByLength.calls_2 (idn : List Int) (kn d : Nat) (s' : List Int × Nat) (w : World) (hi : impl_identity.f kn 2 = some idn) (hg : impl_CountByLength.g d [] idn (List.replicate ((2 : Int) * (2 - 1) / 2 + 1).toNat 0, 0) = some s') :
    Calls Try.prog 13 #[.int .i64 2] w fun e w' => ∃ v0_ : Value, e = .returned (.tuple #[v0_, .bool true]) ∧ Kd.R (Kd.int .i64) 3 w' w.heap.size (fun _ => True) v0_ s'.1 ∧ Below w.heap.size w w' := by
  have HI := Aside0.mk hi
  have HG := Aside0.mk (show impl_CountByLength.g d [] idn (List.replicate 2 0, 0) = some s' from hg)
  have HBT := Aside0.mk (show impl_between.f 2 2 6 = some true from rfl)
  have HB := Aside0.mk (Below.refl w.heap.size w)
  clear hi hg
  have hmm := @run_makeMap Try.prog
  go_enter Try.func13, Try.ntmps13
  go_wp2_with (first | (go_at_call 60; (with_reducible refine (impl_between.calls 2 2 6 true _ HBT.out).mono ?_); rintro e w' ⟨rfl, ⟨nd, rfl⟩⟩) | ((with_reducible refine gate_dst (N := 15) rfl ?_); refine Kd.R_make (Kd.int .i64) (w0 := w) w.heap.size 3 rfl (N := 15) rfl 25 _ _ rfl (2 : Int) rfl rfl Try.underlying25 (.int .i64 0) 8 info3 rfl (by decide) (by omega) 0 (ok := fun _ => True) (okp := fun _ => True) rfl (fun _ hk => hk) trivial (by decide) (by decide) ?hbm ?hsz ?_; (case hbm => exact pw_below_drewN HB.out nd); (case hsz => exact Nat.le_refl _); intro v16 w4 ho5 hb hg_ hnew_; obtain ⟨G, C, eG, hGb, hGl, _⟩ := Kd.R_form ho5 (by decide); subst eG; have HR := Aside0.mk (show Kd.R (Kd.int .i64) 3 w4 w.heap.size (fun k_ => k_ = G) (.slice (some ⟨G, 0, none⟩) 2 C) (List.replicate 2 0) from Kd.R_mono (Kd.R_tight rfl ho5) (fun k_ e_ => by simpa [Value.ownBlock] using e_)); have HB4 := Aside0.mk hb; clear hg_ hnew_ hb ho5 hGb hGl) | (go_at_call 61; (refine (impl_CountByLength.calls_orders (w4.heap.size + 1) (w4.heap.size + 1 + 1) G 2 C w4.heap.size 2 idn kn d (List.replicate 2 0, 0) s' w _ HI.out HG.out ?o1 ?o2).mono ?_); (case o1 => repeat (first | exact HB4.out | apply below_alloc)); (case o2 => exact impl_CountByLength.mk_sta HR.out HB4.out.size); rintro e w8 ⟨rfl, hs8, hb8⟩; have hco := blk_cell hs8.out.1 0; have HR8 := Aside0.mk hs8.out.2.2.1; have HB8 := Aside0.mk hb8; clear hs8 hb8))
  go_ret2
  exact ⟨_, rfl, Kd.R_mono HR8.out (fun _ _ => trivial), HB8.out⟩
set_option maxHeartbeats 8000000 in
set_option maxRecDepth 100000 in
theorem impl_CountByLength.calls_3 (idn : List Int) (kn d : Nat) (s' : List Int × Nat) (w : World) (hi : impl_identity.f kn 3 = some idn) (hg : impl_CountByLength.g d [] idn (List.replicate ((3 : Int) * (3 - 1) / 2 + 1).toNat 0, 0) = some s') :
    Calls Try.prog 13 #[.int .i64 3] w fun e w' => ∃ v0_ : Value, e = .returned (.tuple #[v0_, .bool true]) ∧ Kd.R (Kd.int .i64) 3 w' w.heap.size (fun _ => True) v0_ s'.1 ∧ Below w.heap.size w w' := by
  have HI := Aside0.mk hi
  have HG := Aside0.mk (show impl_CountByLength.g d [] idn (List.replicate 4 0, 0) = some s' from hg)
  have HBT := Aside0.mk (show impl_between.f 3 2 6 = some true from rfl)
  have HB := Aside0.mk (Below.refl w.heap.size w)
  clear hi hg
  have hmm := @run_makeMap Try.prog
  go_enter Try.func13, Try.ntmps13
  go_wp2_with (first | (go_at_call 60; (with_reducible refine (impl_between.calls 3 2 6 true _ HBT.out).mono ?_); rintro e w' ⟨rfl, ⟨nd, rfl⟩⟩) | ((with_reducible refine gate_dst (N := 15) rfl ?_); refine Kd.R_make (Kd.int .i64) (w0 := w) w.heap.size 3 rfl (N := 15) rfl 25 _ _ rfl (4 : Int) rfl rfl Try.underlying25 (.int .i64 0) 8 info3 rfl (by decide) (by omega) 0 (ok := fun _ => True) (okp := fun _ => True) rfl (fun _ hk => hk) trivial (by decide) (by decide) ?hbm ?hsz ?_; (case hbm => exact pw_below_drewN HB.out nd); (case hsz => exact Nat.le_refl _); intro v16 w4 ho5 hb hg_ hnew_; obtain ⟨G, C, eG, hGb, hGl, _⟩ := Kd.R_form ho5 (by decide); subst eG; have HR := Aside0.mk (show Kd.R (Kd.int .i64) 3 w4 w.heap.size (fun k_ => k_ = G) (.slice (some ⟨G, 0, none⟩) 4 C) (List.replicate 4 0) from Kd.R_mono (Kd.R_tight rfl ho5) (fun k_ e_ => by simpa [Value.ownBlock] using e_)); have HB4 := Aside0.mk hb; clear hg_ hnew_ hb ho5 hGb hGl) | (go_at_call 61; (refine (impl_CountByLength.calls_orders (w4.heap.size + 1) (w4.heap.size + 1 + 1) G 4 C w4.heap.size 3 idn kn d (List.replicate 4 0, 0) s' w _ HI.out HG.out ?o1 ?o2).mono ?_); (case o1 => repeat (first | exact HB4.out | apply below_alloc)); (case o2 => exact impl_CountByLength.mk_sta HR.out HB4.out.size); rintro e w8 ⟨rfl, hs8, hb8⟩; have hco := blk_cell hs8.out.1 0; have HR8 := Aside0.mk hs8.out.2.2.1; have HB8 := Aside0.mk hb8; clear hs8 hb8))
  go_ret2
  exact ⟨_, rfl, Kd.R_mono HR8.out (fun _ _ => trivial), HB8.out⟩
set_option maxHeartbeats 8000000 in
set_option maxRecDepth 100000 in
theorem impl_CountByLength.calls_4 (idn : List Int) (kn d : Nat) (s' : List Int × Nat) (w : World) (hi : impl_identity.f kn 4 = some idn) (hg : impl_CountByLength.g d [] idn (List.replicate ((4 : Int) * (4 - 1) / 2 + 1).toNat 0, 0) = some s') :
    Calls Try.prog 13 #[.int .i64 4] w fun e w' => ∃ v0_ : Value, e = .returned (.tuple #[v0_, .bool true]) ∧ Kd.R (Kd.int .i64) 3 w' w.heap.size (fun _ => True) v0_ s'.1 ∧ Below w.heap.size w w' := by
  have HI := Aside0.mk hi
  have HG := Aside0.mk (show impl_CountByLength.g d [] idn (List.replicate 7 0, 0) = some s' from hg)
  have HBT := Aside0.mk (show impl_between.f 4 2 6 = some true from rfl)
  have HB := Aside0.mk (Below.refl w.heap.size w)
  clear hi hg
  have hmm := @run_makeMap Try.prog
  go_enter Try.func13, Try.ntmps13
  go_wp2_with (first | (go_at_call 60; (with_reducible refine (impl_between.calls 4 2 6 true _ HBT.out).mono ?_); rintro e w' ⟨rfl, ⟨nd, rfl⟩⟩) | ((with_reducible refine gate_dst (N := 15) rfl ?_); refine Kd.R_make (Kd.int .i64) (w0 := w) w.heap.size 3 rfl (N := 15) rfl 25 _ _ rfl (7 : Int) rfl rfl Try.underlying25 (.int .i64 0) 8 info3 rfl (by decide) (by omega) 0 (ok := fun _ => True) (okp := fun _ => True) rfl (fun _ hk => hk) trivial (by decide) (by decide) ?hbm ?hsz ?_; (case hbm => exact pw_below_drewN HB.out nd); (case hsz => exact Nat.le_refl _); intro v16 w4 ho5 hb hg_ hnew_; obtain ⟨G, C, eG, hGb, hGl, _⟩ := Kd.R_form ho5 (by decide); subst eG; have HR := Aside0.mk (show Kd.R (Kd.int .i64) 3 w4 w.heap.size (fun k_ => k_ = G) (.slice (some ⟨G, 0, none⟩) 7 C) (List.replicate 7 0) from Kd.R_mono (Kd.R_tight rfl ho5) (fun k_ e_ => by simpa [Value.ownBlock] using e_)); have HB4 := Aside0.mk hb; clear hg_ hnew_ hb ho5 hGb hGl) | (go_at_call 61; (refine (impl_CountByLength.calls_orders (w4.heap.size + 1) (w4.heap.size + 1 + 1) G 7 C w4.heap.size 4 idn kn d (List.replicate 7 0, 0) s' w _ HI.out HG.out ?o1 ?o2).mono ?_); (case o1 => repeat (first | exact HB4.out | apply below_alloc)); (case o2 => exact impl_CountByLength.mk_sta HR.out HB4.out.size); rintro e w8 ⟨rfl, hs8, hb8⟩; have hco := blk_cell hs8.out.1 0; have HR8 := Aside0.mk hs8.out.2.2.1; have HB8 := Aside0.mk hb8; clear hs8 hb8))
  go_ret2
  exact ⟨_, rfl, Kd.R_mono HR8.out (fun _ _ => trivial), HB8.out⟩
set_option maxHeartbeats 8000000 in
set_option maxRecDepth 100000 in
theorem impl_CountByLength.calls_5 (idn : List Int) (kn d : Nat) (s' : List Int × Nat) (w : World) (hi : impl_identity.f kn 5 = some idn) (hg : impl_CountByLength.g d [] idn (List.replicate ((5 : Int) * (5 - 1) / 2 + 1).toNat 0, 0) = some s') :
    Calls Try.prog 13 #[.int .i64 5] w fun e w' => ∃ v0_ : Value, e = .returned (.tuple #[v0_, .bool true]) ∧ Kd.R (Kd.int .i64) 3 w' w.heap.size (fun _ => True) v0_ s'.1 ∧ Below w.heap.size w w' := by
  have HI := Aside0.mk hi
  have HG := Aside0.mk (show impl_CountByLength.g d [] idn (List.replicate 11 0, 0) = some s' from hg)
  have HBT := Aside0.mk (show impl_between.f 5 2 6 = some true from rfl)
  have HB := Aside0.mk (Below.refl w.heap.size w)
  clear hi hg
  have hmm := @run_makeMap Try.prog
  go_enter Try.func13, Try.ntmps13
  go_wp2_with (first | (go_at_call 60; (with_reducible refine (impl_between.calls 5 2 6 true _ HBT.out).mono ?_); rintro e w' ⟨rfl, ⟨nd, rfl⟩⟩) | ((with_reducible refine gate_dst (N := 15) rfl ?_); refine Kd.R_make (Kd.int .i64) (w0 := w) w.heap.size 3 rfl (N := 15) rfl 25 _ _ rfl (11 : Int) rfl rfl Try.underlying25 (.int .i64 0) 8 info3 rfl (by decide) (by omega) 0 (ok := fun _ => True) (okp := fun _ => True) rfl (fun _ hk => hk) trivial (by decide) (by decide) ?hbm ?hsz ?_; (case hbm => exact pw_below_drewN HB.out nd); (case hsz => exact Nat.le_refl _); intro v16 w4 ho5 hb hg_ hnew_; obtain ⟨G, C, eG, hGb, hGl, _⟩ := Kd.R_form ho5 (by decide); subst eG; have HR := Aside0.mk (show Kd.R (Kd.int .i64) 3 w4 w.heap.size (fun k_ => k_ = G) (.slice (some ⟨G, 0, none⟩) 11 C) (List.replicate 11 0) from Kd.R_mono (Kd.R_tight rfl ho5) (fun k_ e_ => by simpa [Value.ownBlock] using e_)); have HB4 := Aside0.mk hb; clear hg_ hnew_ hb ho5 hGb hGl) | (go_at_call 61; (refine (impl_CountByLength.calls_orders (w4.heap.size + 1) (w4.heap.size + 1 + 1) G 11 C w4.heap.size 5 idn kn d (List.replicate 11 0, 0) s' w _ HI.out HG.out ?o1 ?o2).mono ?_); (case o1 => repeat (first | exact HB4.out | apply below_alloc)); (case o2 => exact impl_CountByLength.mk_sta HR.out HB4.out.size); rintro e w8 ⟨rfl, hs8, hb8⟩; have hco := blk_cell hs8.out.1 0; have HR8 := Aside0.mk hs8.out.2.2.1; have HB8 := Aside0.mk hb8; clear hs8 hb8))
  go_ret2
  exact ⟨_, rfl, Kd.R_mono HR8.out (fun _ _ => trivial), HB8.out⟩
set_option maxHeartbeats 8000000 in
set_option maxRecDepth 100000 in
theorem impl_CountByLength.calls_6 (idn : List Int) (kn d : Nat) (s' : List Int × Nat) (w : World) (hi : impl_identity.f kn 6 = some idn) (hg : impl_CountByLength.g d [] idn (List.replicate ((6 : Int) * (6 - 1) / 2 + 1).toNat 0, 0) = some s') :
    Calls Try.prog 13 #[.int .i64 6] w fun e w' => ∃ v0_ : Value, e = .returned (.tuple #[v0_, .bool true]) ∧ Kd.R (Kd.int .i64) 3 w' w.heap.size (fun _ => True) v0_ s'.1 ∧ Below w.heap.size w w' := by
  have HI := Aside0.mk hi
  have HG := Aside0.mk (show impl_CountByLength.g d [] idn (List.replicate 16 0, 0) = some s' from hg)
  have HBT := Aside0.mk (show impl_between.f 6 2 6 = some true from rfl)
  have HB := Aside0.mk (Below.refl w.heap.size w)
  clear hi hg
  have hmm := @run_makeMap Try.prog
  go_enter Try.func13, Try.ntmps13
  go_wp2_with (first | (go_at_call 60; (with_reducible refine (impl_between.calls 6 2 6 true _ HBT.out).mono ?_); rintro e w' ⟨rfl, ⟨nd, rfl⟩⟩) | ((with_reducible refine gate_dst (N := 15) rfl ?_); refine Kd.R_make (Kd.int .i64) (w0 := w) w.heap.size 3 rfl (N := 15) rfl 25 _ _ rfl (16 : Int) rfl rfl Try.underlying25 (.int .i64 0) 8 info3 rfl (by decide) (by omega) 0 (ok := fun _ => True) (okp := fun _ => True) rfl (fun _ hk => hk) trivial (by decide) (by decide) ?hbm ?hsz ?_; (case hbm => exact pw_below_drewN HB.out nd); (case hsz => exact Nat.le_refl _); intro v16 w4 ho5 hb hg_ hnew_; obtain ⟨G, C, eG, hGb, hGl, _⟩ := Kd.R_form ho5 (by decide); subst eG; have HR := Aside0.mk (show Kd.R (Kd.int .i64) 3 w4 w.heap.size (fun k_ => k_ = G) (.slice (some ⟨G, 0, none⟩) 16 C) (List.replicate 16 0) from Kd.R_mono (Kd.R_tight rfl ho5) (fun k_ e_ => by simpa [Value.ownBlock] using e_)); have HB4 := Aside0.mk hb; clear hg_ hnew_ hb ho5 hGb hGl) | (go_at_call 61; (refine (impl_CountByLength.calls_orders (w4.heap.size + 1) (w4.heap.size + 1 + 1) G 16 C w4.heap.size 6 idn kn d (List.replicate 16 0, 0) s' w _ HI.out HG.out ?o1 ?o2).mono ?_); (case o1 => repeat (first | exact HB4.out | apply below_alloc)); (case o2 => exact impl_CountByLength.mk_sta HR.out HB4.out.size); rintro e w8 ⟨rfl, hs8, hb8⟩; have hco := blk_cell hs8.out.1 0; have HR8 := Aside0.mk hs8.out.2.2.1; have HB8 := Aside0.mk hb8; clear hs8 hb8))
  go_ret2
  exact ⟨_, rfl, Kd.R_mono HR8.out (fun _ _ => trivial), HB8.out⟩
theorem impl_CountByLength.calls (a0 : Int) (r1 : List Int) (r2 : Bool) (w : World) (h : impl_CountByLength.f a0 = some (r1, r2)) :
    Calls Try.prog 13 #[.int .i64 a0] w fun e w' => ∃ v0_ : Value, e = .returned (.tuple #[v0_, .bool r2]) ∧ Kd.R (Kd.int .i64) 3 w' w.heap.size (fun _ => True) v0_ r1 ∧ Below w.heap.size w w' := by
  unfold impl_CountByLength.f at h
  split at h
  · rename_i hn
    obtain ⟨idn, hi, h⟩ := Option.bind_eq_some_iff.1 h
    obtain ⟨kn, hi⟩ := impl_CountByLength.ev_some hi
    obtain ⟨s, hg, h⟩ := Option.bind_eq_some_iff.1 h
    obtain ⟨d, hg⟩ := impl_CountByLength.ev_some hg
    simp only [Option.some.injEq, Prod.mk.injEq] at h
    obtain ⟨rfl, rfl⟩ := h
    obtain rfl | rfl | rfl | rfl | rfl : a0 = 2 ∨ a0 = 3 ∨ a0 = 4 ∨ a0 = 5 ∨ a0 = 6 := by omega
    · exact impl_CountByLength.calls_2 idn kn d s w hi hg
    · exact impl_CountByLength.calls_3 idn kn d s w hi hg
    · exact impl_CountByLength.calls_4 idn kn d s w hi hg
    · exact impl_CountByLength.calls_5 idn kn d s w hi hg
    · exact impl_CountByLength.calls_6 idn kn d s w hi hg
  · rename_i hn
    simp only [Option.some.injEq, Prod.mk.injEq] at h
    obtain ⟨rfl, rfl⟩ := h
    have hbt : impl_between.f a0 2 6 = some false := by
      unfold impl_between.f
      by_cases h2 : a0 ≥ 2
      · rw [if_pos h2, decide_eq_false (by omega)]
      · rw [if_neg h2]
    have HBT := Aside0.mk hbt
    clear hn hbt
    go_enter Try.func13, Try.ntmps13
    go_wp2_with (go_at_call 60; (with_reducible refine (impl_between.calls a0 2 6 false _ HBT.out).mono ?_); rintro e w' ⟨rfl, ⟨nd, rfl⟩⟩)
    go_ret2
    exact ⟨_, rfl, Kd.R_nil _ _ _ _ _, pw_below_drewN (Below.refl _ _) nd⟩

end
end Go.Proofs.Ytnddmmjofpfmfaa.PCb
