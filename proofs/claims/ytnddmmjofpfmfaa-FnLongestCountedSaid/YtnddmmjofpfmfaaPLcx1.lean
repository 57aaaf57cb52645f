-- Written for this claim by a program of this session (myprint.py) over the kit's printer.
import Derived.Test.YtnddmmjofpfmfaaPLcx0
namespace Go.Proofs.Ytnddmmjofpfmfaa.PLc
noncomputable section
open Go.RowKit Go.Proofs.YtnddmmjofpfmfaaW.PrintWords Go.Proofs.YtnddmmjofpfmfaaW.PrintLast Go.Proofs.YtnddmmjofpfmfaaW.PrintMore
attribute [local go_sem] max2_int min2_int max_two min_two max_three min_three max_four min_four   -- for this text's walks alone
set_option linter.unusedVariables false
set_option linter.unusedSimpArgs false

/-! ### spec_l1In: function 55 -/
def spec_l1In.f (a0 : Int) (a1 : Int) (a2 : Int) : Option (Bool) := if a0 ≥ a1 then (some (decide (a0 ≤ a2))) else (some false)
set_option maxHeartbeats 8000000 in
set_option maxRecDepth 100000 in
theorem spec_l1In.calls (a0 : Int) (a1 : Int) (a2 : Int) (r : Bool) (w : World) (h : spec_l1In.f a0 a1 a2 = some r) :
    Calls Try.prog 55 #[.int .i64 a0, .int .i64 a1, .int .i64 a2] w fun e w' => e = .returned (.bool r) ∧ Drawn0 w w' := by
  have H : (if a0 ≥ a1 then (some (decide (a0 ≤ a2))) else (some false)) = some r := h
  clear h
  by_cases c4 : a0 ≥ a1
  · rw [if_pos c4] at H
    have c4b0 : decide (a1 ≤ a0) = true := decide_eq_true c4
    clear c4
    obtain rfl := Option.some.inj H
    go_enter Try.func55, Try.ntmps55
    go_wp2
    go_ret
    exact ⟨by first | rfl | (simp; done) | (simp [*]; done), by repeat (first | exact Drawn0.refl _ | apply Drawn0.step)⟩
  · rw [if_neg c4] at H
    have c4b0 : decide (a1 ≤ a0) = false := decide_eq_false c4
    clear c4
    obtain rfl := Option.some.inj H
    go_enter Try.func55, Try.ntmps55
    go_wp2
    go_ret
    exact ⟨by first | rfl | (simp; done) | (simp [*]; done), by repeat (first | exact Drawn0.refl _ | apply Drawn0.step)⟩

/-! ### spec_alNew: function 56 -/
def spec_alNew.fc : Nat → Nat
  | 0 => 1
  | n + 1 => (n + 1) * spec_alNew.fc n
theorem spec_alNew.fc_le : ∀ n, n < 9 → spec_alNew.fc n ≤ 40320 := by decide
theorem spec_alNew.fc_pos : ∀ n, 1 ≤ spec_alNew.fc n
  | 0 => Nat.le_refl _
  | n + 1 => by rw [spec_alNew.fc]; exact Nat.mul_pos (by omega) (spec_alNew.fc_pos n)
def spec_alNew.f (n : Int) : Option Nat := if 0 ≤ n ∧ n ≤ 8 then some (spec_alNew.fc n.toNat) else none
theorem spec_alNew.mul_ok (a j : Nat) (h : (j + 1) * a ≤ 40320) : wrap64 ((a : Int) * ((j : Int) + 1)) = (((j + 1) * a : Nat) : Int) := by
  have h2 : (a : Int) * ((j : Int) + 1) = (((j + 1) * a : Nat) : Int) := by
    rw [Int.natCast_mul, Int.mul_comm]; rfl
  rw [h2]
  generalize (j + 1) * a = p at h ⊢
  unfold wrap64; omega
theorem spec_alNew.set_next (i m : Nat) : (List.replicate i (-1 : Int) ++ List.replicate (m + 1) (0 : Int)).set i (-1) = List.replicate (i + 1) (-1) ++ List.replicate m 0 := by
  rw [List.set_append_right _ _ (by simp), List.length_replicate, Nat.sub_self, List.replicate_succ, List.set_cons_zero, List.replicate_succ' (n := i), List.append_assoc]
  rfl
/-- A new counter: its block, its row. -/
structure spec_alNew.Made (n : Nat) (w w' : World) (v : Value) : Prop where mk :: (out : ∃ B G C : Nat, v = .pointer (some ⟨B, 0, none⟩) ∧ w.heap.size ≤ G ∧ G < B ∧ w'.heap[B]? = some (.cells #[.slice (some ⟨G, 0, none⟩) (spec_alNew.fc n) C] 92 (0, 0)) ∧ Kd.R (Kd.int .i64) 3 w' w.heap.size (fun k_ => k_ = G) (.slice (some ⟨G, 0, none⟩) (spec_alNew.fc n) C) (List.replicate (spec_alNew.fc n) (-1)))
set_option maxHeartbeats 4000000 in
set_option maxRecDepth 100000 in
theorem spec_alNew.calls (n : Nat) (hn : n ≤ 8) (w : World) :
    Calls Try.prog 56 #[.int .i64 n] w fun e w' => ∃ v_ : Value, e = .returned v_ ∧ spec_alNew.Made n w w' v_ ∧ Below w.heap.size w w' := by
  have hfl := spec_alNew.fc_le n (by omega)
  have hfp := spec_alNew.fc_pos n
  have hu1 := Try.underlying92
  go_enter Try.func56, Try.ntmps56
  go_wp2
  go_loopg [3, 4] (n + 1) (fun gg v3 v4 w' => ∃ (j q : Nat), v3 = .int .i64 (spec_alNew.fc j) ∧ v4 = .int .i64 ((j + 1 : Nat) : Int) ∧ 1 ≤ j ∧ j ≤ n + 1 ∧ (j ≤ n ∨ j = 1) ∧ n + 1 - j ≤ gg ∧ w' = w.drewN q)
  case atStart => exact ⟨1, 0, by first | rfl | (simp [spec_alNew.fc]; done), by first | rfl | (simp; done), by omega, by omega, by omega, by omega, by first | rfl | (simp; done)⟩
  case round =>
    obtain ⟨j, q, rfl, rfl, hj1, hjn, hj2, hgk, rfl⟩ := hrel
    by_cases hlt : j + 1 ≤ n
    · have hltz : ((j + 1 : Nat) : Int) ≤ (n : Int) := by omega
      have hb := spec_alNew.fc_le (j + 1) (by omega)
      have he : spec_alNew.fc (j + 1) = (j + 1) * spec_alNew.fc j := rfl
      have hw : wrap64 ((spec_alNew.fc j : Int) * ((j : Int) + 1)) = ((spec_alNew.fc (j + 1) : Nat) : Int) := spec_alNew.mul_ok _ j hb
      have hw2 : wrap64 (((j + 1 : Nat) : Int) + 1) = ((j + 1 + 1 : Nat) : Int) := by unfold wrap64; omega
      go_wp2
      go_roundg (n + 1 - (j + 1))
      case measure => omega
      case rel => exact ⟨j + 1, _, by rw [hw], by first | rfl | (congr 1; omega), by omega, by omega, by omega, by omega, rfl⟩
    · have hltz : ¬ ((j + 1 : Nat) : Int) ≤ (n : Int) := by omega
      have hfj : spec_alNew.fc j = spec_alNew.fc n := by
        rcases Nat.lt_or_ge n 1 with h | h
        · obtain rfl : n = 0 := by omega
          obtain rfl : j = 1 := by omega
          rfl
        · obtain rfl : j = n := by omega
          rfl
      rw [hfj]
      obtain ⟨N, hN⟩ : ∃ N, N = spec_alNew.fc n := ⟨_, rfl⟩
      rw [← hN] at hfl hfp ⊢
      have HNN := Aside0.mk hN
      clear hN
      clear hfj hj2 hj1 hjn hgk hlt
      have HB := Aside0.mk (Below.refl w.heap.size w)
      have hN0 : (0 : Int) ≤ (N : Int) := Int.natCast_nonneg N
      go_wp2_with (first | ((with_reducible refine gate_dst (N := 16) rfl ?_); refine Kd.R_make (Kd.int .i64) _ 3 rfl (N := 16) rfl 25 _ _ rfl (N : Int) rfl rfl Try.underlying25 (.int .i64 0) 8 info3 rfl (by decide) (by omega) 0 (ok := fun _ => True) (okp := fun _ => True) rfl (fun _ hk => hk) trivial hN0 (by rw [Int.toNat_natCast]; omega) (Below.refl _ _) (Nat.le_refl _) ?_; intro v16 w4 ho5 hb hg_ hnew_; rw [Int.toNat_natCast] at ho5; obtain ⟨G, C, eG, hGb, hGl, _⟩ := Kd.R_form ho5 (by rw [List.length_replicate]; omega); rw [List.length_replicate] at eG; subst eG; have HR := Aside0.mk (Kd.R_tight rfl ho5); have HGB := Aside0.mk (And.intro hGb hGl); clear hGb hGl; have HB4 := Aside0.mk (below_step (by repeat (first | (with_reducible first | exact HB.out | apply below_alloc | apply pw_below_drewN | apply below_drew1) | exact HB.out)) hb); have HSZ := Aside0.mk (below_size (w := w) (by repeat (first | (with_reducible first | exact HB.out | apply below_alloc | apply pw_below_drewN | apply below_drew1) | exact HB.out))); clear hg_ hnew_ hb ho5) | ((with_reducible refine gate_dst (N := 18) rfl ?_); refine box_event ?hg (N := 18) ?hd (cs := #[.slice (some ⟨G, 0, none⟩) N C]) (t := 92) ?hr ?_; (case hd => rfl); (case hg => rfl); (case hr => first | (go_simp; done) | (go_simp; rfl)); intro gb hg w5 hbox hb; have hcellB : w5.cell? ⟨gb, 0, none⟩ = some (.slice (some ⟨G, 0, none⟩) N C) := blk_cell hbox 0; have HBOX := Aside0.mk hbox; have HB5 := Aside0.mk (below_step HB4.out hb); have HR5 := Aside0.mk (Kd.R_below HR.out hb); have HG5 := Aside0.mk hg; clear hbox hb hg))
      have hgne : gb ≠ G := by have h1 := HG5.out; have h2 := HGB.out.2; omega
      have HNE := Aside0.mk hgne
      have HR6 := Aside0.mk (show Kd.R (Kd.int .i64) 3 w5 w.heap.size (fun k_ => k_ = G) (.slice (some ⟨G, 0, none⟩) N C) (List.replicate 0 (-1) ++ List.replicate (N - 0) 0) from Kd.R_mono (Kd.R_lower HR5.out HSZ.out) (fun k_ h_ => Option.some.inj (show some k_ = some G from h_)))
      clear HR5 HR hgne hcellB HB HB4 hltz
      go_loopg [24] N (fun gg v24 w' => ∃ (i : Nat), v24 = .int .i64 i ∧ i ≤ N ∧ N - i ≤ gg ∧ Aside0 (Kd.R (Kd.int .i64) 3 w' w.heap.size (fun k_ => k_ = G) (.slice (some ⟨G, 0, none⟩) N C) (List.replicate i (-1) ++ List.replicate (N - i) 0)) ∧ Aside0 (w'.heap[gb]? = some (.cells #[.slice (some ⟨G, 0, none⟩) N C] 92 (0, 0))) ∧ Aside0 (Below w.heap.size w w'))
      case atStart => exact ⟨0, rfl, Nat.zero_le _, by omega, HR6, HBOX, HB5⟩
      case round =>
        clear HR6 HBOX HB5
        obtain ⟨i, rfl, hi, hgk, HRX, HBX, HBB⟩ := hrel
        by_cases hlt : i < N
        · have hltz : (i : Int) < (N : Int) := by omega
          have h0z : (0 : Int) ≤ (i : Int) := Int.natCast_nonneg i
          have hcellB := blk_cell HBX.out 0
          obtain ⟨hx0, hf0⟩ := Kd.R_celln 0 HRX.out (i : Int) h0z hltz
          have HP7 := Kd.R_putg HRX.out (i : Int) (-1)
          rw [Int.toNat_natCast] at hx0 hf0 HP7
          have hset : (List.replicate i (-1 : Int) ++ List.replicate (N - i) (0 : Int)).set i (-1) = List.replicate (i + 1) (-1) ++ List.replicate (N - (i + 1)) 0 := by
            rw [show N - i = (N - (i + 1)) + 1 by omega]
            exact spec_alNew.set_next i _
          have HSET := Aside0.mk hset
          have hge : w.heap.size ≤ G := HGB.out.1
          have HGE := Aside0.mk hge
          clear hset hge
          have p5 := eq_true h0z
          have q5 := eq_true hltz
          go_wp2_with (first | ((with_reducible refine gate_store (t := 3) (p := 32) rfl ?_); refine store_event (t := 3) (p := 32) (v := ?vo) (w1 := (wr.setCell ⟨G, i, none⟩ (.int .i64 (-1)))) ?hg ?ho ?hn ?hr ?_; (case ho => rfl); (case hg => rfl); (case hn => rfl); (case hr => first | (go_simp; done) | (go_simp; rfl)); intro w8 hw; have n0_ := Aside0.mk (show Kd.R (Kd.int .i64) 3 w8 w.heap.size (fun k_ => k_ = G) (.slice (some ⟨G, 0, none⟩) N C) (List.replicate (i + 1) (-1) ++ List.replicate (N - (i + 1)) 0) from by rw [← HSET.out, hw]; exact HP7.1); have n1_ := Aside0.mk (show w8.heap[gb]? = some (.cells #[.slice (some ⟨G, 0, none⟩) N C] 92 (0, 0)) from by rw [hw]; exact blk_far HBX.out HNE.out _); have n2_ := Aside0.mk (show Below w.heap.size w w8 from by rw [hw]; exact below_set HBB.out HGE.out); clear HP7 hw))
          go_roundg (N - (i + 1))
          case measure => omega
          case rel => exact ⟨i + 1, (by first | go_num | (congr 1; unfold wrap64; omega)), by omega, by omega, n0_, n1_, n2_⟩
        · have hltz : ¬ (i : Int) < (N : Int) := by omega
          have hie : i = N := by omega
          subst hie
          go_wp2
          go_ret
          exact ⟨_, rfl, ⟨gb, G, C, rfl, HGB.out.1, by have h1 := HG5.out; have h2 := HGB.out.2; omega, by rw [← HNN.out]; exact HBX.out, by have h_ := HRX.out; rw [Nat.sub_self, List.replicate_zero, List.append_nil] at h_; rw [← HNN.out]; exact h_⟩, HBB.out⟩

/-! ### spec_l1Own: function 75 -/
def spec_l1Own.f (l0 : List Int) : Option (List Int) := (some (([] : List Int) : List Int)).bind fun y101 => (if y101.length + l0.length < 17592186044416 then (some (y101 ++ l0)) else (none))
set_option maxHeartbeats 8000000 in
set_option maxRecDepth 100000 in
theorem spec_l1Own.calls (A0 : Option Addr) (c0 : Nat) (l0 : List Int) (r : List Int) (w : World) (hr0 : Kd.C (Kd.int .i64) w A0 l0.length l0) (hc0 : l0.length ≤ c0) (h : spec_l1Own.f l0 = some r) :
    Calls Try.prog 75 #[.slice A0 l0.length c0] w fun e w' => ∃ v0_ : Value, e = .returned (v0_) ∧ Kd.R (Kd.int .i64) 3 w' w.heap.size (fun _ => True) v0_ r ∧ Below w.heap.size w w' := by
  have HR0 := Aside0.mk hr0
  have HC0 := Aside0.mk hc0
  clear hr0 hc0
  have HB := Aside0.mk (Below.refl w.heap.size w)
  have H : ((some (([] : List Int) : List Int)).bind fun y101 => (if y101.length + l0.length < 17592186044416 then (some (y101 ++ l0)) else (none))) = some r := h
  clear h
  obtain ⟨y101, hy101⟩ : ∃ y_ : List Int, y_ = (([] : List Int)) := ⟨_, rfl⟩
  replace H : (if y101.length + l0.length < 17592186044416 then (some (y101 ++ l0)) else (none)) = some r := by first | (rw [hy101]; with_reducible exact H) | (have H2_ := (Option.bind_some _ _).symm.trans H; rw [hy101]; with_reducible exact H2_) | (have H2_ := (Option.bind_some _ _).symm.trans H; with_reducible exact H2_) | with_reducible exact H | (rw [hy101]; exact H) | exact H
  have Ny101 := Aside0.mk hy101
  clear hy101
  by_cases c2 : y101.length + l0.length < 17592186044416
  · rw [if_pos c2] at H
    have LMc2 := Aside0.mk c2
    clear c2
    obtain ⟨y104, hy104⟩ : ∃ y_ : List Int, y_ = (y101 ++ l0) := ⟨_, rfl⟩
    replace H : (some y104) = some r := by first | (rw [hy104]; with_reducible exact H) | (have H2_ := (Option.bind_some _ _).symm.trans H; rw [hy104]; with_reducible exact H2_) | (have H2_ := (Option.bind_some _ _).symm.trans H; with_reducible exact H2_) | with_reducible exact H | (rw [hy104]; exact H) | exact H
    have Ny104 := Aside0.mk hy104
    clear hy104
    obtain rfl := Option.some.inj H
    go_enter Try.func75, Try.ntmps75
    go_wp2_with (first | ((with_reducible refine gate_dst (N := 3) rfl ?_); refine Kd.R_lit (Kd.int .i64) _ 3 ?hg (N := 3) ?hd (xs := ([] : List Int)) (inner := []) (ok := fun _ => True) (okp := fun _ => True) ?hr ?hp (fun _ hk => hk) trivial (Below.refl _ _) (Nat.le_refl _) (by simp) ?_; (case hd => rfl); (case hg => rfl); (case hr => first | (go_simp; done) | (go_simp; rfl)); (case hp => exact (Reps.none _ _)); intro v102 w3 ho4 hb hg_ hnew_; clear hg_ hnew_; (first | rw [← Ny101.out] at ho4 | (simp only [Int.reduceToNat] at ho4; rw [← Ny101.out] at ho4)); have n0_ := Aside0.mk (Kd.R_lower ho4 (below_size (by repeat (first | (with_reducible first | exact HB.out | apply below_alloc | apply pw_below_drewN | apply below_drew1) | exact HB.out)))); have n1_ := Aside0.mk (below_step (by repeat (first | (with_reducible first | exact HB.out | apply below_alloc | apply pw_below_drewN | apply below_drew1) | exact HB.out)) hb); clear HB; have HO103 := n0_; have HB := n1_; clear n0_ n1_; clear hb ho4) | ((with_reducible refine gate_builtin (b := .append) (xs := #[.tmp 3, .tmp 4]) rfl ?_); at_builtin; refine Kd.R_append_rows (Kd.int .i64) (w0 := w) w.heap.size rfl (.tmp 3) (.tmp 4) 25 3 (.int .i64 0) 8 rfl Try.underlying25 info3 rfl (by decide) (by omega) v102 y101 l0 _ _ _ (fun _ => True) (fun _ => False) rfl rfl ?aO ?aR (fun _ _ h => h) (fun _ h => h.elim) ?aF ?aB ?aS ?aL ?_; (case aR => repeat (first | exact (Kd.C_below HR0.out HB.out) | (with_reducible refine Kd.C_alloc ?_ _) | (with_reducible refine Kd.C_drewN ?_ _) | (with_reducible refine Kd.C_drew ?_))); (case aB => exact (by repeat (first | (with_reducible first | exact HB.out | apply below_alloc | apply pw_below_drewN | apply below_drew1) | exact HB.out))); (case aF => exact (fun _ _ => trivial)); (case aO => exact (by (with_reducible repeat (first | apply Kd.R_alloc | apply Kd.R_drewN | apply Kd.R_drew)); exact HO103.out)); (case aS => exact (below_size (by repeat (first | (with_reducible first | exact HB.out | apply below_alloc | apply pw_below_drewN | apply below_drew1) | exact HB.out)))); (case aL => have := LMc2.out; omega); intro v105 w5 ho hb hg hat; rw [← Ny104.out] at ho; have n0_ := Aside0.mk (hb); have n1_ := Aside0.mk (ho); clear HB; clear HO103; have HB := n0_; have HO106 := n1_; clear n0_ n1_; clear ho hb hg hat))
    go_ret
    exact ⟨_, by first | rfl | (simp [errW_none, errW_some] <;> rfl) | (simp [*, errW_none, errW_some] <;> rfl), by (with_reducible repeat (first | apply Kd.R_alloc | apply Kd.R_drewN | apply Kd.R_drew)); exact HO106.out, by repeat (first | (with_reducible first | exact HB.out | apply below_alloc | apply pw_below_drewN | apply below_drew1) | exact HB.out)⟩
  · rw [if_neg c2] at H
    exact absurd H (by simp)

/-! ### spec_l1Has: function 93 -/
def spec_l1Has.l0 : Nat → Int → List Int → Int → Int → Option (Bool)
  | 0, _, _, _, _ => none
  | k + 1, x1, x7, x8, x9 => if x9 < x8 then (if 0 ≤ x9 then (if x9 < (x7.length : Int) then (if (rd x7 x9) = x1 then (some true) else (spec_l1Has.l0 k x1 x7 x8 (wrap64 (x9 + 1)))) else (none)) else (none)) else (some false)
def spec_l1Has.f (k : Nat) (l0 : List Int) (a1 : Int) : Option (Bool) := spec_l1Has.l0 k a1 l0 (l0.length : Int) 0
theorem spec_l1Has.mono_l : ∀ k, (∀ y0 y1 y2 y3, LeO (spec_l1Has.l0 k y0 y1 y2 y3) (spec_l1Has.l0 (k + 1) y0 y1 y2 y3))
  | 0 => fun _ _ _ _ r h => by simp [spec_l1Has.l0] at h
  | k + 1 => by
    have ih0 := spec_l1Has.mono_l k
    · intro y0 y1 y2 y3
      unfold spec_l1Has.l0
      repeat' first
      | (with_reducible exact ih0 _ _ _ _)
      | (with_reducible exact LeO.refl _)
      | (with_reducible exact LeO.none _)
      | (with_reducible refine LeO.ite ?_ ?_)
      | (with_reducible refine LeO.bind ?_ (fun _ => ?_))
      | exact ih0 _ _ _ _
      | exact LeO.none _
      | refine LeO.ite ?_ ?_
      | refine LeO.bind ?_ (fun _ => ?_)
theorem spec_l1Has.mono : ∀ a0 a1 k, LeO (spec_l1Has.f k a0 a1) (spec_l1Has.f (k + 1) a0 a1) := by
  intro a0 a1 k
  have ih0 := spec_l1Has.mono_l k
  unfold spec_l1Has.f
  repeat' first
      | (with_reducible exact ih0 _ _ _ _)
      | (with_reducible exact LeO.refl _)
      | (with_reducible exact LeO.none _)
      | (with_reducible refine LeO.ite ?_ ?_)
      | (with_reducible refine LeO.bind ?_ (fun _ => ?_))
      | exact ih0 _ _ _ _
      | exact LeO.none _
      | refine LeO.ite ?_ ?_
      | refine LeO.bind ?_ (fun _ => ?_)
set_option maxHeartbeats 8000000 in
set_option maxRecDepth 100000 in
theorem spec_l1Has.calls (k : Nat) (A0 : Option Addr) (c0 : Nat) (l0 : List Int) (a1 : Int) (r : Bool) (w : World) (hr0 : Kd.C (Kd.int .i64) w A0 l0.length l0) (hc0 : l0.length ≤ c0) (h : spec_l1Has.f k l0 a1 = some r) :
    Calls Try.prog 93 #[.slice A0 l0.length c0, .int .i64 a1] w fun e w' => e = .returned (.bool r) ∧ Drawn0 w w' := by
  have HR0 := Aside0.mk hr0
  have HC0 := Aside0.mk hc0
  clear hr0 hc0
  have H : (spec_l1Has.l0 k a1 l0 (l0.length : Int) 0) = some r := h
  clear h
  have H' := Aside0.mk H
  clear H
  go_enter Try.func93, Try.ntmps93
  go_wp2
  go_loopg [9] k (fun kq v9 w' => ∃ (x9_1 : Int), v9 = .int .i64 x9_1 ∧ Aside0 (spec_l1Has.l0 kq a1 l0 (l0.length : Int) x9_1 = some r) ∧ Aside0 (kq ≤ k) ∧ Drawn0 w w')
  case atStart => exact ⟨(0), (by first | rfl | (simp; done) | (simp [*]; done)), H', ⟨Nat.le_refl _⟩, by repeat (first | exact Drawn0.refl _ | apply Drawn0.step)⟩
  case round =>
    clear H'
    try clear p2
    obtain ⟨x9_1, rfl, HA, HK1, ⟨m1, rfl⟩⟩ := hrel
    cases gk with
    | zero => exact absurd HA.out (by simp [spec_l1Has.l0])
    | succ k1 =>
      have H := HA.out
      clear HA
      simp only [spec_l1Has.l0] at H
      by_cases c3 : x9_1 < (l0.length : Int)
      · rw [if_pos c3] at H
        have c3b0 : decide (x9_1 < (l0.length : Int)) = true := decide_eq_true c3
        clear c3
        by_cases c4 : 0 ≤ x9_1
        · rw [if_pos c4] at H
          have c4b0 : decide (0 ≤ x9_1) = true := decide_eq_true c4
          clear c4
          by_cases c5 : x9_1 < (l0.length : Int)
          · rw [if_pos c5] at H
            have c5b0 : decide (x9_1 < (l0.length : Int)) = true := decide_eq_true c5
            clear c5
            by_cases c6 : (rd l0 x9_1) = a1
            · rw [if_pos c6] at H
              have c6b0 : ((rd l0 x9_1) == a1) = true := beq_iff_eq.mpr c6
              have c6b1 : ((rd l0 x9_1) != a1) = false := bne_eq_false_iff_eq.mpr c6
              clear c6
              obtain rfl := Option.some.inj H
              have p107 : 0 ≤ (x9_1 : Int) := of_decide_eq_true (by first | (with_reducible assumption) | assumption)
              have q107 : x9_1 < (l0.length : Int) := of_decide_eq_true (by first | (with_reducible assumption) | assumption)
              obtain ⟨ad107, e107, hx107_0⟩ := Kd.at_int HR0.out x9_1 p107 q107
              cases e107
              replace p107 := eq_true p107
              replace q107 := eq_true q107
              go_wp2
              go_ret
              exact ⟨by first | rfl | (simp; done) | (simp [*]; done), by repeat (first | exact Drawn0.refl _ | apply Drawn0.step)⟩
            · rw [if_neg c6] at H
              have c6b0 : ((rd l0 x9_1) == a1) = false := beq_eq_false_iff_ne.mpr c6
              have c6b1 : ((rd l0 x9_1) != a1) = true := bne_iff_ne.mpr c6
              have H' := Aside0.mk H
              clear H
              have p107 : 0 ≤ (x9_1 : Int) := of_decide_eq_true (by first | (with_reducible assumption) | assumption)
              have q107 : x9_1 < (l0.length : Int) := of_decide_eq_true (by first | (with_reducible assumption) | assumption)
              obtain ⟨ad107, e107, hx107_0⟩ := Kd.at_int HR0.out x9_1 p107 q107
              cases e107
              replace p107 := eq_true p107
              replace q107 := eq_true q107
              go_wp2
              go_roundg k1
              case measure => have := HK1.out; omega
              case rel => exact ⟨(wrap64 (x9_1 + 1)), (by first | rfl | (simp; done) | (simp [*]; done)), H', ⟨by have := HK1.out; omega⟩, by repeat (first | exact Drawn0.refl _ | apply Drawn0.step)⟩
          · rw [if_neg c5] at H
            exact absurd H (by simp)
        · rw [if_neg c4] at H
          exact absurd H (by simp)
      · rw [if_neg c3] at H
        have c3b0 : decide (x9_1 < (l0.length : Int)) = false := decide_eq_false c3
        clear c3
        obtain rfl := Option.some.inj H
        go_wp2
        go_ret
        exact ⟨by first | rfl | (simp; done) | (simp [*]; done), by repeat (first | exact Drawn0.refl _ | apply Drawn0.step)⟩

/-! ### spec_alOrders: function 57 -/
mutual
def spec_alOrders.l0 : Nat → Int → List (List Int) → Option ((List (List Int)))
  | 0, _, _ => none
  | k + 1, x0, x3 => if 0 < (x3.length : Int) then (if ((rd_L1 x3 0).length : Int) < x0 then (spec_alOrders.l1 k x0 ([] : List (List Int)) x3 (x3.length : Int) 0) else (some x3)) else (none)
def spec_alOrders.l1 : Nat → Int → List (List Int) → List (List Int) → Int → Int → Option ((List (List Int)))
  | 0, _, _, _, _, _ => none
  | k + 1, x0, x4, x15, x16, x17 => if x17 < x16 then (if 0 ≤ x17 then (if x17 < (x15.length : Int) then (spec_alOrders.l2 k x0 x4 (rd_L1 x15 x17) 0 x15 x16 x17) else (none)) else (none)) else (spec_alOrders.l0 k x0 x4)
def spec_alOrders.l2 : Nat → Int → List (List Int) → List Int → Int → List (List Int) → Int → Int → Option ((List (List Int)))
  | 0, _, _, _, _, _, _, _ => none
  | k + 1, x0, x4, x6, x7, x15, x16, x17 => if x7 < x0 then ((spec_l1Has.f k x6 x7).bind fun t113 => (if t113 = true then (spec_alOrders.l2 k x0 x4 x6 (wrap64 (x7 + 1)) x15 x16 x17) else ((spec_l1Own.f x6).bind fun t114 => (if t114.length < 17592186044416 then (if x4.length < 5864062014805 then (spec_alOrders.l2 k x0 (x4 ++ [(t114 ++ [x7])]) x6 (wrap64 (x7 + 1)) x15 x16 x17) else (none)) else (none))))) else (spec_alOrders.l1 k x0 x4 x15 x16 (wrap64 (x17 + 1)))
end
def spec_alOrders.f (k : Nat) (a0 : Int) : Option ((List (List Int))) := spec_alOrders.l0 k a0 (([[]] : List (List Int)))
theorem spec_alOrders.mono_l : ∀ k, (∀ y0 y1, LeO (spec_alOrders.l0 k y0 y1) (spec_alOrders.l0 (k + 1) y0 y1)) ∧ (∀ y0 y1 y2 y3 y4, LeO (spec_alOrders.l1 k y0 y1 y2 y3 y4) (spec_alOrders.l1 (k + 1) y0 y1 y2 y3 y4)) ∧ (∀ y0 y1 y2 y3 y4 y5 y6, LeO (spec_alOrders.l2 k y0 y1 y2 y3 y4 y5 y6) (spec_alOrders.l2 (k + 1) y0 y1 y2 y3 y4 y5 y6))
  | 0 => ⟨fun _ _ r h => by simp [spec_alOrders.l0] at h, fun _ _ _ _ _ r h => by simp [spec_alOrders.l1] at h, fun _ _ _ _ _ _ _ r h => by simp [spec_alOrders.l2] at h⟩
  | k + 1 => by
    obtain ⟨ih0, ih1, ih2⟩ := spec_alOrders.mono_l k
    refine ⟨?_, ?_, ?_⟩
    · intro y0 y1
      unfold spec_alOrders.l0
      repeat' first
      | (with_reducible exact ih0 _ _)
      | (with_reducible exact ih1 _ _ _ _ _)
      | (with_reducible exact ih2 _ _ _ _ _ _ _)
      | (with_reducible exact spec_l1Has.mono _ _ _)
      | (with_reducible exact LeO.refl _)
      | (with_reducible exact LeO.none _)
      | (with_reducible refine LeO.ite ?_ ?_)
      | (with_reducible refine LeO.bind ?_ (fun _ => ?_))
      | exact ih0 _ _
      | exact ih1 _ _ _ _ _
      | exact ih2 _ _ _ _ _ _ _
      | exact spec_l1Has.mono _ _ _
      | exact LeO.none _
      | refine LeO.ite ?_ ?_
      | refine LeO.bind ?_ (fun _ => ?_)
    · intro y0 y1 y2 y3 y4
      unfold spec_alOrders.l1
      repeat' first
      | (with_reducible exact ih0 _ _)
      | (with_reducible exact ih1 _ _ _ _ _)
      | (with_reducible exact ih2 _ _ _ _ _ _ _)
      | (with_reducible exact spec_l1Has.mono _ _ _)
      | (with_reducible exact LeO.refl _)
      | (with_reducible exact LeO.none _)
      | (with_reducible refine LeO.ite ?_ ?_)
      | (with_reducible refine LeO.bind ?_ (fun _ => ?_))
      | exact ih0 _ _
      | exact ih1 _ _ _ _ _
      | exact ih2 _ _ _ _ _ _ _
      | exact spec_l1Has.mono _ _ _
      | exact LeO.none _
      | refine LeO.ite ?_ ?_
      | refine LeO.bind ?_ (fun _ => ?_)
    · intro y0 y1 y2 y3 y4 y5 y6
      unfold spec_alOrders.l2
      repeat' first
      | (with_reducible exact ih0 _ _)
      | (with_reducible exact ih1 _ _ _ _ _)
      | (with_reducible exact ih2 _ _ _ _ _ _ _)
      | (with_reducible exact spec_l1Has.mono _ _ _)
      | (with_reducible exact LeO.refl _)
      | (with_reducible exact LeO.none _)
      | (with_reducible refine LeO.ite ?_ ?_)
      | (with_reducible refine LeO.bind ?_ (fun _ => ?_))
      | exact ih0 _ _
      | exact ih1 _ _ _ _ _
      | exact ih2 _ _ _ _ _ _ _
      | exact spec_l1Has.mono _ _ _
      | exact LeO.none _
      | refine LeO.ite ?_ ?_
      | refine LeO.bind ?_ (fun _ => ?_)
theorem spec_alOrders.mono : ∀ a0 k, LeO (spec_alOrders.f k a0) (spec_alOrders.f (k + 1) a0) := by
  intro a0 k
  obtain ⟨ih0, ih1, ih2⟩ := spec_alOrders.mono_l k
  unfold spec_alOrders.f
  repeat' first
      | (with_reducible exact ih0 _ _)
      | (with_reducible exact ih1 _ _ _ _ _)
      | (with_reducible exact ih2 _ _ _ _ _ _ _)
      | (with_reducible exact spec_l1Has.mono _ _ _)
      | (with_reducible exact LeO.refl _)
      | (with_reducible exact LeO.none _)
      | (with_reducible refine LeO.ite ?_ ?_)
      | (with_reducible refine LeO.bind ?_ (fun _ => ?_))
      | exact ih0 _ _
      | exact ih1 _ _ _ _ _
      | exact ih2 _ _ _ _ _ _ _
      | exact spec_l1Has.mono _ _ _
      | exact LeO.none _
      | refine LeO.ite ?_ ?_
      | refine LeO.bind ?_ (fun _ => ?_)
set_option maxHeartbeats 8000000 in
set_option maxRecDepth 100000 in
theorem spec_alOrders.calls (k : Nat) (a0 : Int) (r : List (List Int)) (w : World) (h : spec_alOrders.f k a0 = some r) :
    Calls Try.prog 57 #[.int .i64 a0] w fun e w' => ∃ v0_ : Value, e = .returned (v0_) ∧ Kd.S (Kd.slice 3 (Kd.int .i64)) 25 w' w.heap.size (fun _ => True) v0_ r ∧ Below w.heap.size w w' := by
  have HB := Aside0.mk (Below.refl w.heap.size w)
  have H : (spec_alOrders.l0 k a0 (([[]] : List (List Int)))) = some r := h
  clear h
  obtain ⟨y108, hy108⟩ : ∃ y_ : List (List Int), y_ = (([[]] : List (List Int))) := ⟨_, rfl⟩
  replace H : (spec_alOrders.l0 k a0 y108) = some r := by first | (rw [hy108]; with_reducible exact H) | (have H2_ := (Option.bind_some _ _).symm.trans H; rw [hy108]; with_reducible exact H2_) | (have H2_ := (Option.bind_some _ _).symm.trans H; with_reducible exact H2_) | with_reducible exact H | (rw [hy108]; exact H) | exact H
  have Ny108 := Aside0.mk hy108
  clear hy108
  have H' := Aside0.mk H
  clear H
  go_enter Try.func57, Try.ntmps57
  go_wp2_with (first | ((with_reducible refine gate_dst (N := 8) rfl ?_); refine Kd.S_lit (Kd.slice 3 (Kd.int .i64)) _ 25 ?hg (N := 8) ?hd (xs := ([[]] : List (List Int))) (inner := [.slice none 0 0]) (ok := fun _ => True) (okp := fun _ => True) ?hr ?hp (fun _ hk => hk) trivial (Below.refl _ _) (Nat.le_refl _) (by simp) ?_; (case hd => rfl); (case hg => rfl); (case hr => first | (go_simp; done) | (go_simp; rfl)); (case hp => exact (Reps.one (show Kd.M (Kd.slice 3 (Kd.int .i64)) _ _ _ [] [.slice none 0 0] from ⟨_, rfl, Kd.R_nil _ _ _ _ _⟩) (Reps.none _ _))); intro v109 w2 ho3 hb hg_ hnew_; clear hg_ hnew_; (first | rw [← Ny108.out] at ho3 | (simp only [Int.reduceToNat] at ho3; rw [← Ny108.out] at ho3)); have n0_ := Aside0.mk (Kd.S_lower ho3 (below_size (by repeat (first | (with_reducible first | exact HB.out | apply below_alloc | apply pw_below_drewN | apply below_drew1) | exact HB.out)))); have n1_ := Aside0.mk (below_step (by repeat (first | (with_reducible first | exact HB.out | apply below_alloc | apply pw_below_drewN | apply below_drew1) | exact HB.out)) hb); clear HB; have HO110 := n0_; have HB := n1_; clear n0_ n1_; clear hb ho3))
  go_loopg [3] k (fun kq v3 w' => ∃ (x3_1 : List (List Int)), Aside0 (spec_alOrders.l0 kq a0 x3_1 = some r) ∧ Aside0 (kq ≤ k) ∧ Aside0 (Kd.S (Kd.slice 3 (Kd.int .i64)) 25 w' w.heap.size (fun _ => True) v3 x3_1) ∧ Aside0 (Below w.heap.size w w'))
  case atStart => exact ⟨(y108), H', ⟨Nat.le_refl _⟩, ⟨by (with_reducible repeat (first | apply Kd.S_alloc | apply Kd.S_drewN | apply Kd.S_drew)); exact HO110.out⟩, ⟨by repeat (first | (with_reducible first | exact HB.out | apply below_alloc | apply pw_below_drewN | apply below_drew1) | exact HB.out)⟩⟩
  case round =>
    clear H'
    try clear p2
    obtain ⟨x3_1, HA, HK1, HO_3, HB⟩ := hrel
    cases gk with
    | zero => exact absurd HA.out (by simp [spec_alOrders.l0])
    | succ k1 =>
      have H := HA.out
      clear HA
      simp only [spec_alOrders.l0] at H
      by_cases c4 : 0 < (x3_1.length : Int)
      · rw [if_pos c4] at H
        have c4b0 : decide (0 < (x3_1.length : Int)) = true := decide_eq_true c4
        have c4b1 : decide (0 < x3_1.length) = true := decide_eq_true (by omega)
        clear c4
        by_cases c5 : ((rd_L1 x3_1 0).length : Int) < a0
        · rw [if_pos c5] at H
          have c5b0 : decide (((rd_L1 x3_1 0).length : Int) < a0) = true := decide_eq_true c5
          clear c5
          have H' := Aside0.mk H
          clear H
          obtain ⟨Ao6, co6, eo6⟩ := Kd.S_slice HO_3.out
          subst eo6
          have p111 : 0 ≤ (0 : Int) := (by omega)
          have q111 : 0 < (x3_1.length : Int) := of_decide_eq_true (by first | (with_reducible assumption) | assumption)
          obtain ⟨ad111, A111_0, c111_0, e111, hx111_0, hl111_0, hi111_0⟩ := at_L1 (Kd.S_reads' HO_3.out).2.2 0 p111 q111
          cases e111
          obtain ⟨ce111, hce111, hMe111, hcc111⟩ := Kd.S_get HO_3.out [] 0 p111 (by first | exact q111 | exact of_decide_eq_true (by first | (with_reducible assumption) | assumption) | (have e_ := (Kd.S_reads' HO_3.out).1; omega))
          obtain ⟨ve111_0, rfl, ge111_0⟩ := hMe111
          have hv111_0 := hcc111 0 _ rfl
          rw [Nat.add_zero, show ((Kd.slice 3 (Kd.int .i64))).sz = 1 from rfl, Nat.mul_one] at hv111_0
          replace hv111_0 := Option.some.inj (hv111_0.symm.trans hx111_0)
          rw [hv111_0] at ge111_0
          have HL111_0 := Aside0.mk (show Kd.R (Kd.int .i64) 3 _ _ _ _ (rd_L1 x3_1 0) from ge111_0)
          clear hv111_0 ge111_0
          clear hcc111 hce111
          have qi111 : (0 < x3_1.length) = True := eq_true (by omega)
          (try rw [show ((0 : Int)).toNat = 0 from rfl] at hx111_0)
          (try rw [Addr.add_zero'] at hx111_0)
          have HR111_0 := Aside0.mk hi111_0
          have HC111_0 := Aside0.mk hl111_0
          clear hi111_0 hl111_0
          replace p111 := eq_true p111
          replace q111 := eq_true q111
          go_wp2
          go_loopg [4, 17] k1 (fun kq v4 v17 w' => ∃ (x4_2 : List (List Int)) (x17_2 : Int), v17 = .int .i64 x17_2 ∧ Aside0 (spec_alOrders.l1 kq a0 x4_2 x3_1 (x3_1.length : Int) x17_2 = some r) ∧ Aside0 (kq ≤ k1) ∧ Aside0 (Kd.S (Kd.slice 3 (Kd.int .i64)) 25 w' w.heap.size (fun k_ => some k_ ≠ ((.slice (some ad111) x3_1.length co6) : Value).ownBlock) v4 x4_2) ∧ Aside0 (Kd.S (Kd.slice 3 (Kd.int .i64)) 25 w' w.heap.size (fun k_ => some k_ ≠ (v4 : Value).ownBlock) (.slice (some ad111) x3_1.length co6) x3_1) ∧ Aside0 (Below w.heap.size w w'))
          case atStart => exact ⟨(([] : List (List Int))), (0), (by first | rfl | (simp; done) | (simp [*]; done)), H', ⟨Nat.le_refl _⟩, ⟨by first | exact Kd.S_nil _ _ _ _ _ | exact Kd.N_nil _ _ _ _ _ | exact Kd.V_nil _ _ _ _ _ | exact Kd.Q_nil _ _ _ _ _ | exact Kd.R_nil _ _ _ _ _⟩, ⟨by (with_reducible repeat (first | apply Kd.S_alloc | apply Kd.S_drewN | apply Kd.S_drew)); exact Kd.S_mono HO_3.out (fun _ hk => (by simp [Value.ownBlock]))⟩, ⟨by repeat (first | (with_reducible first | exact HB.out | apply below_alloc | apply pw_below_drewN | apply below_drew1) | exact HB.out)⟩⟩
          case round =>
            clear H'
            try clear c1
            try clear p1
            try clear q1
            try clear hx1
            try clear qi1
            try clear p2
            try clear c4
            try clear c4b0
            try clear c4b1
            try clear c5
            try clear c5b0
            try clear hx111_0
            try clear p111
            try clear p2
            try clear q111
            obtain ⟨x4_2, x17_2, rfl, HA, HK2, HO_4, HO_15, HB⟩ := hrel
            cases gk with
            | zero => exact absurd HA.out (by simp [spec_alOrders.l1])
            | succ k2 =>
              have H := HA.out
              clear HA
              simp only [spec_alOrders.l1] at H
              by_cases c7 : x17_2 < (x3_1.length : Int)
              · rw [if_pos c7] at H
                have c7b0 : decide (x17_2 < (x3_1.length : Int)) = true := decide_eq_true c7
                clear c7
                by_cases c8 : 0 ≤ x17_2
                · rw [if_pos c8] at H
                  have c8b0 : decide (0 ≤ x17_2) = true := decide_eq_true c8
                  clear c8
                  by_cases c9 : x17_2 < (x3_1.length : Int)
                  · rw [if_pos c9] at H
                    have c9b0 : decide (x17_2 < (x3_1.length : Int)) = true := decide_eq_true c9
                    clear c9
                    have H' := Aside0.mk H
                    clear H
                    have p112 : 0 ≤ (x17_2 : Int) := of_decide_eq_true (by first | (with_reducible assumption) | assumption)
                    have q112 : x17_2 < (x3_1.length : Int) := of_decide_eq_true (by first | (with_reducible assumption) | assumption)
                    obtain ⟨ad112, A112_0, c112_0, e112, hx112_0, hl112_0, hi112_0⟩ := at_L1 (Kd.S_reads' HO_15.out).2.2 x17_2 p112 q112
                    obtain rfl : ad111 = ad112 := (by injection e112)
                    obtain ⟨ce112, hce112, hMe112, hcc112⟩ := Kd.S_get HO_15.out [] x17_2 p112 (by first | exact q112 | exact of_decide_eq_true (by first | (with_reducible assumption) | assumption) | (have e_ := (Kd.S_reads' HO_15.out).1; omega))
                    obtain ⟨ve112_0, rfl, ge112_0⟩ := hMe112
                    have hv112_0 := hcc112 0 _ rfl
                    rw [Nat.add_zero, show ((Kd.slice 3 (Kd.int .i64))).sz = 1 from rfl, Nat.mul_one] at hv112_0
                    replace hv112_0 := Option.some.inj (hv112_0.symm.trans hx112_0)
                    rw [hv112_0] at ge112_0
                    have HL112_0 := Aside0.mk (show Kd.R (Kd.int .i64) 3 _ _ _ _ (rd_L1 x3_1 x17_2) from ge112_0)
                    clear hv112_0 ge112_0
                    clear hcc112 hce112
                    have HR112_0 := Aside0.mk hi112_0
                    have HC112_0 := Aside0.mk hl112_0
                    clear hi112_0 hl112_0
                    replace p112 := eq_true p112
                    replace q112 := eq_true q112
                    go_wp2
                    go_loopg [4, 7] k2 (fun kq v4 v7 w' => ∃ (x4_3 : List (List Int)) (x7_3 : Int), v7 = .int .i64 x7_3 ∧ Aside0 (spec_alOrders.l2 kq a0 x4_3 (rd_L1 x3_1 x17_2) x7_3 x3_1 (x3_1.length : Int) x17_2 = some r) ∧ Aside0 (kq ≤ k2) ∧ Aside0 (Kd.S (Kd.slice 3 (Kd.int .i64)) 25 w' w.heap.size (fun k_ => some k_ ≠ ((.slice (some ad111) x3_1.length co6) : Value).ownBlock) v4 x4_3) ∧ Aside0 (Kd.S (Kd.slice 3 (Kd.int .i64)) 25 w' w.heap.size (fun k_ => some k_ ≠ (v4 : Value).ownBlock) (.slice (some ad111) x3_1.length co6) x3_1) ∧ Aside0 (Below w.heap.size w w') ∧ Aside0 (Kd.R (Kd.int .i64) 3 w' w.heap.size (fun k_ => some k_ ≠ (v4 : Value).ownBlock) (.slice A112_0 (rd_L1 x3_1 x17_2).length c112_0) (rd_L1 x3_1 x17_2)))
                    case atStart => exact ⟨(x4_2), (0), (by first | rfl | (simp; done) | (simp [*]; done)), H', ⟨Nat.le_refl _⟩, ⟨by (with_reducible repeat (first | apply Kd.S_alloc | apply Kd.S_drewN | apply Kd.S_drew)); exact HO_4.out⟩, ⟨by (with_reducible repeat (first | apply Kd.S_alloc | apply Kd.S_drewN | apply Kd.S_drew)); exact HO_15.out⟩, ⟨by repeat (first | (with_reducible first | exact HB.out | apply below_alloc | apply pw_below_drewN | apply below_drew1) | exact HB.out)⟩, ⟨by have h1_ := Kd.R_mono HL112_0.out (fun _ h_ => h_.1); (with_reducible repeat (first | apply Kd.R_alloc | apply Kd.R_drewN | apply Kd.R_drew)); exact h1_⟩⟩
                    case round =>
                      clear H'
                      try clear c1
                      try clear p1
                      try clear q1
                      try clear hx1
                      try clear qi1
                      try clear p2
                      try clear c4
                      try clear c4b0
                      try clear c4b1
                      try clear c5
                      try clear c5b0
                      try clear c7
                      try clear c7b0
                      try clear c8
                      try clear c8b0
                      try clear c9
                      try clear c9b0
                      try clear hx111_0
                      try clear hx112_0
                      try clear p1
                      try clear p111
                      try clear p112
                      try clear p2
                      try clear q1
                      try clear q111
                      try clear q112
                      obtain ⟨x4_3, x7_3, rfl, HA, HK3, HO_4, HO_15, HB, HV⟩ := hrel
                      cases gk with
                      | zero => exact absurd HA.out (by simp [spec_alOrders.l2])
                      | succ k3 =>
                        have H := HA.out
                        clear HA
                        simp only [spec_alOrders.l2] at H
                        by_cases c10 : x7_3 < a0
                        · rw [if_pos c10] at H
                          have c10b0 : decide (x7_3 < a0) = true := decide_eq_true c10
                          clear c10
                          replace H := Option.bind_eq_some_iff.mp H
                          obtain ⟨t113, A110, H⟩ := H
                          replace H : (if t113 = true then (spec_alOrders.l2 k3 a0 x4_3 (rd_L1 x3_1 x17_2) (wrap64 (x7_3 + 1)) x3_1 (x3_1.length : Int) x17_2) else ((spec_l1Own.f (rd_L1 x3_1 x17_2)).bind fun t114 => (if t114.length < 17592186044416 then (if x4_3.length < 5864062014805 then (spec_alOrders.l2 k3 a0 (x4_3 ++ [(t114 ++ [x7_3])]) (rd_L1 x3_1 x17_2) (wrap64 (x7_3 + 1)) x3_1 (x3_1.length : Int) x17_2) else (none)) else (none)))) = some r := H
                          have A11 := Aside0.mk A110
                          clear A110
                          by_cases c12 : t113 = true
                          · subst c12
                            have H1 : (spec_alOrders.l2 k3 a0 x4_3 (rd_L1 x3_1 x17_2) (wrap64 (x7_3 + 1)) x3_1 (x3_1.length : Int) x17_2) = some r := by rw [if_pos rfl] at H; exact H
                            clear H
                            have H := H1
                            clear H1
                            have H' := Aside0.mk H
                            clear H
                            go_wp2_with (first | ((with_reducible refine gate_callee (f := 93) rfl ?_); refine goesL_ (some 28) rfl rfl Try.func93 (by kernel_rfl) rfl #[.slice A112_0 (rd_L1 x3_1 x17_2).length c112_0, .int .i64 x7_3] rfl (by (try simp only [List.map_toArray, List.map_cons, List.map_nil]); first | done | rfl | (simp only [List.length_drop, List.length_take]; rfl)) ?_; (with_reducible refine (spec_l1Has.calls k3 _ _ (rd_L1 x3_1 x17_2) x7_3 true _ ?side1 ?side2 A11.out).mono ?_); (case side1 => repeat (first | exact (Kd.R_reads' HV.out).2.2 | (with_reducible refine Kd.C_alloc ?_ _) | (with_reducible refine Kd.C_drewN ?_ _) | (with_reducible refine Kd.C_drew ?_))); (case side2 => exact HC112_0.out); rintro e w' ⟨rfl, ⟨nd, rfl⟩⟩; refine ⟨_, rfl, ?_⟩))
                            go_roundg k3
                            case measure => have := HK1.out; have := HK2.out; have := HK3.out; omega
                            case rel => exact ⟨(x4_3), (wrap64 (x7_3 + 1)), (by first | rfl | (simp; done) | (simp [*]; done)), H', ⟨by have := HK1.out; have := HK2.out; have := HK3.out; omega⟩, ⟨by (with_reducible repeat (first | apply Kd.S_alloc | apply Kd.S_drewN | apply Kd.S_drew)); exact HO_4.out⟩, ⟨by (with_reducible repeat (first | apply Kd.S_alloc | apply Kd.S_drewN | apply Kd.S_drew)); exact HO_15.out⟩, ⟨by repeat (first | (with_reducible first | exact HB.out | apply below_alloc | apply pw_below_drewN | apply below_drew1) | exact HB.out)⟩, ⟨(by (with_reducible repeat (first | apply Kd.R_alloc | apply Kd.R_drewN | apply Kd.R_drew)); exact HV.out)⟩⟩
                          · replace c12 := Bool.eq_false_iff.mpr c12
                            subst c12
                            have H1 : ((spec_l1Own.f (rd_L1 x3_1 x17_2)).bind fun t114 => (if t114.length < 17592186044416 then (if x4_3.length < 5864062014805 then (spec_alOrders.l2 k3 a0 (x4_3 ++ [(t114 ++ [x7_3])]) (rd_L1 x3_1 x17_2) (wrap64 (x7_3 + 1)) x3_1 (x3_1.length : Int) x17_2) else (none)) else (none))) = some r := by rw [if_neg (show ¬ (false = true) by decide)] at H; exact H
                            clear H
                            have H := H1
                            clear H1
                            replace H := Option.bind_eq_some_iff.mp H
                            obtain ⟨t114, A130, H⟩ := H
                            replace H : (if t114.length < 17592186044416 then (if x4_3.length < 5864062014805 then (spec_alOrders.l2 k3 a0 (x4_3 ++ [(t114 ++ [x7_3])]) (rd_L1 x3_1 x17_2) (wrap64 (x7_3 + 1)) x3_1 (x3_1.length : Int) x17_2) else (none)) else (none)) = some r := H
                            have A13 := Aside0.mk A130
                            clear A130
                            by_cases c14 : t114.length < 17592186044416
                            · rw [if_pos c14] at H
                              have LMc14 := Aside0.mk c14
                              clear c14
                              obtain ⟨y117, hy117⟩ : ∃ y_ : List Int, y_ = (t114 ++ [x7_3]) := ⟨_, rfl⟩
                              replace H : (if x4_3.length < 5864062014805 then (spec_alOrders.l2 k3 a0 (x4_3 ++ [y117]) (rd_L1 x3_1 x17_2) (wrap64 (x7_3 + 1)) x3_1 (x3_1.length : Int) x17_2) else (none)) = some r := by first | (rw [hy117]; with_reducible exact H) | (have H2_ := (Option.bind_some _ _).symm.trans H; rw [hy117]; with_reducible exact H2_) | (have H2_ := (Option.bind_some _ _).symm.trans H; with_reducible exact H2_) | with_reducible exact H | (rw [hy117]; exact H) | exact H
                              have Ny117 := Aside0.mk hy117
                              clear hy117
                              by_cases c15 : x4_3.length < 5864062014805
                              · rw [if_pos c15] at H
                                have LMc15 := Aside0.mk c15
                                clear c15
                                obtain ⟨y120, hy120⟩ : ∃ y_ : List (List Int), y_ = (x4_3 ++ [y117]) := ⟨_, rfl⟩
                                replace H : (spec_alOrders.l2 k3 a0 y120 (rd_L1 x3_1 x17_2) (wrap64 (x7_3 + 1)) x3_1 (x3_1.length : Int) x17_2) = some r := by first | (rw [hy120]; with_reducible exact H) | (have H2_ := (Option.bind_some _ _).symm.trans H; rw [hy120]; with_reducible exact H2_) | (have H2_ := (Option.bind_some _ _).symm.trans H; with_reducible exact H2_) | with_reducible exact H | (rw [hy120]; exact H) | exact H
                                have Ny120 := Aside0.mk hy120
                                clear hy120
                                have H' := Aside0.mk H
                                clear H
                                go_wp2_with (first | ((with_reducible refine gate_callee (f := 93) rfl ?_); refine goesL_ (some 28) rfl rfl Try.func93 (by kernel_rfl) rfl #[.slice A112_0 (rd_L1 x3_1 x17_2).length c112_0, .int .i64 x7_3] rfl (by (try simp only [List.map_toArray, List.map_cons, List.map_nil]); first | done | rfl | (simp only [List.length_drop, List.length_take]; rfl)) ?_; (with_reducible refine (spec_l1Has.calls k3 _ _ (rd_L1 x3_1 x17_2) x7_3 false _ ?side1 ?side2 A11.out).mono ?_); (case side1 => repeat (first | exact (Kd.R_reads' HV.out).2.2 | (with_reducible refine Kd.C_alloc ?_ _) | (with_reducible refine Kd.C_drewN ?_ _) | (with_reducible refine Kd.C_drew ?_))); (case side2 => exact HC112_0.out); rintro e w' ⟨rfl, ⟨nd, rfl⟩⟩; refine ⟨_, rfl, ?_⟩) | ((with_reducible refine gate_callee (f := 75) rfl ?_); refine goesL_ (some 32) rfl rfl Try.func75 (by kernel_rfl) rfl #[.slice A112_0 (rd_L1 x3_1 x17_2).length c112_0] rfl (by (try simp only [List.map_toArray, List.map_cons, List.map_nil]); first | done | rfl | (simp only [List.length_drop, List.length_take]; rfl)) ?_; (with_reducible refine (spec_l1Own.calls _ _ (rd_L1 x3_1 x17_2) t114 _ ?side1 ?side2 A13.out).mono ?_); (case side1 => repeat (first | exact (Kd.R_reads' HV.out).2.2 | (with_reducible refine Kd.C_alloc ?_ _) | (with_reducible refine Kd.C_drewN ?_ _) | (with_reducible refine Kd.C_drew ?_))); (case side2 => exact HC112_0.out); rintro e w16 ⟨v115, rfl, ho0, hb⟩; refine ⟨_, rfl, ?_⟩; have n0_ := Aside0.mk (Kd.S_elder' (by (with_reducible repeat (first | apply Kd.S_alloc | apply Kd.S_drewN | apply Kd.S_drew)); exact HO_4.out) (Kd.R_base ho0) hb); have n1_ := Aside0.mk (Kd.S_elder' (by (with_reducible repeat (first | apply Kd.S_alloc | apply Kd.S_drewN | apply Kd.S_drew)); exact HO_15.out) (Kd.R_base ho0) hb); have n2_ := Aside0.mk (Kd.R_lower ho0 (below_size (by repeat (first | (with_reducible first | exact HB.out | apply below_alloc | apply pw_below_drewN | apply below_drew1) | exact HB.out)))); have n3_ := Aside0.mk (below_step (by repeat (first | (with_reducible first | exact HB.out | apply below_alloc | apply pw_below_drewN | apply below_drew1) | exact HB.out)) hb); have n4_ := Aside0.mk (Kd.R_elder' (by (with_reducible repeat (first | apply Kd.R_alloc | apply Kd.R_drewN | apply Kd.R_drew)); exact HV.out) (Kd.R_base ho0) hb); clear HO_4; clear HO_15; clear HB; clear HV; have HV := n4_; clear n4_; have HO_4 := n0_; have HO_15 := n1_; have HO116 := n2_; have HB := n3_; clear n0_ n1_ n2_ n3_; (try clear hb); (try clear hb2); (try clear hk); (try clear hi); (try clear ho0)) | ((with_reducible refine gate_builtin (b := .append) (xs := #[.tmp 32, .tmp 34]) rfl ?_); at_builtin; refine Kd.R_append (Kd.int .i64) (w0 := w) w.heap.size rfl (.tmp 32) (.tmp 34) 25 3 (.int .i64 0) 8 rfl Try.underlying25 info3 rfl (by decide) (by omega) v115 t114 x7_3 [.int .i64 x7_3] (fun _ => True) (fun _ => False) rfl rfl ?aP (fun _ hk => hk.elim) ?aF ?aO ?aB ?aS ?aL ?_; (case aP => exact rfl); (case aB => exact (by repeat (first | (with_reducible first | exact HB.out | apply below_alloc | apply pw_below_drewN | apply below_drew1) | exact HB.out))); (case aF => exact (fun _ _ => trivial)); (case aO => exact (by (with_reducible repeat (first | apply Kd.R_alloc | apply Kd.R_drewN | apply Kd.R_drew)); exact HO116.out)); (case aS => exact (below_size (by repeat (first | (with_reducible first | exact HB.out | apply below_alloc | apply pw_below_drewN | apply below_drew1) | exact HB.out)))); (case aL => have := LMc14.out; omega); intro v118 w17 ho hb hg hat; rw [← Ny117.out] at ho; have n0_ := Aside0.mk (Kd.S_after (ok := (fun k_ => some k_ ≠ (.slice (some ad111) x3_1.length co6 : Value).ownBlock)) (by (with_reducible repeat (first | apply Kd.S_alloc | apply Kd.S_drewN | apply Kd.S_drew)); exact HO_4.out) hg hat); have n1_ := Aside0.mk (Kd.S_after (ok := (fun k_ => some k_ ≠ (u4 : Value).ownBlock)) (by (with_reducible repeat (first | apply Kd.S_alloc | apply Kd.S_drewN | apply Kd.S_drew)); exact HO_15.out) hg hat); have n2_ := Aside0.mk (hb); have n3_ := Aside0.mk (ho); have n4_ := Aside0.mk (Kd.R_after (ok := (fun k_ => some k_ ≠ (u4 : Value).ownBlock)) (by (with_reducible repeat (first | apply Kd.R_alloc | apply Kd.R_drewN | apply Kd.R_drew)); exact HV.out) hg hat); clear HV; have HV := n4_; clear n4_; clear HO_4; clear HO_15; clear HB; clear HO116; have HO_4 := n0_; have HO_15 := n1_; have HB := n2_; have HO119 := n3_; clear n0_ n1_ n2_ n3_; clear ho hb hg hat; obtain ⟨Ao19, co19, eo19⟩ := Kd.R_slice HO119.out; subst eo19) | ((with_reducible refine gate_builtin (b := .append) (xs := #[.tmp 30, .tmp 36]) rfl ?_); at_builtin; refine Kd.S_append (Kd.slice 3 (Kd.int .i64)) (w0 := w) w.heap.size rfl (.tmp 30) (.tmp 36) 67 25 (.slice none 0 0) 24 rfl Try.underlying67 info25 rfl (by decide) (by omega) u4 x4_3 y117 [.slice Ao19 y117.length co19] (fun k_ => some k_ ≠ (.slice (some ad111) x3_1.length co6 : Value).ownBlock) (fun k_ => some k_ = (.slice Ao19 y117.length co19 : Value).ownBlock) rfl rfl ?aP (fun k_ hk_ => ((Kd.R_mono (ok' := fun k_ => ((fun k_ => some k_ ≠ (.slice (some ad111) x3_1.length co6 : Value).ownBlock)) k_ ∧ some k_ ≠ (u4 : Value).ownBlock) (Kd.R_apart' (Kd.R_apart' (HO119.out) (Kd.S_typed HO_15.out) (by decide)) (Kd.S_typed HO_4.out) (by decide)) (fun k_ hk => ⟨hk.1.2, hk.2⟩))).1 k_ hk_.symm) ?aF ?aO ?aB ?aS ?aL ?_; (case aP => exact Kd.M_row (Kd.R_mono (Kd.R_tight rfl (Kd.R_mono (ok' := fun k_ => ((fun k_ => some k_ ≠ (.slice (some ad111) x3_1.length co6 : Value).ownBlock)) k_ ∧ some k_ ≠ (u4 : Value).ownBlock) (Kd.R_apart' (Kd.R_apart' (HO119.out) (Kd.S_typed HO_15.out) (by decide)) (Kd.S_typed HO_4.out) (by decide)) (fun k_ hk => ⟨hk.1.2, hk.2⟩))) (fun _ h_ => h_))); (case aB => exact (by repeat (first | (with_reducible first | exact HB.out | apply below_alloc | apply pw_below_drewN | apply below_drew1) | exact HB.out))); (case aF => exact (fun k_ hk => Kd.fresh' (Kd.S_lt (by (with_reducible repeat (first | apply Kd.S_alloc | apply Kd.S_drewN | apply Kd.S_drew)); exact HO_15.out)) k_ hk)); (case aO => exact (by (with_reducible repeat (first | apply Kd.S_alloc | apply Kd.S_drewN | apply Kd.S_drew)); exact Kd.S_mono HO_4.out (fun k_ hk => ⟨hk.1, fun e_ => hk.2 e_⟩))); (case aS => exact (below_size (by repeat (first | (with_reducible first | exact HB.out | apply below_alloc | apply pw_below_drewN | apply below_drew1) | exact HB.out)))); (case aL => have := LMc15.out; omega); intro v121 w18 ho hb hg hat; rw [← Ny120.out] at ho; have n0_ := Aside0.mk (Kd.S_after (ok := (fun k_ => some k_ ≠ (.slice Ao19 y117.length co19 : Value).ownBlock)) (by (with_reducible repeat (first | apply Kd.S_alloc | apply Kd.S_drewN | apply Kd.S_drew)); exact Kd.S_mono HO_15.out (fun _ hk => ⟨hk.2, hk.1⟩)) hg hat); have n1_ := Aside0.mk (hb); have n2_ := Aside0.mk (ho); have n4_ := Aside0.mk (Kd.R_mono (Kd.R_after (ok := (fun k_ => some k_ ≠ (.slice Ao19 y117.length co19 : Value).ownBlock)) (by (with_reducible repeat (first | apply Kd.R_alloc | apply Kd.R_drewN | apply Kd.R_drew)); exact Kd.R_mono HV.out (fun _ hk => ⟨hk.2, hk.1⟩)) hg hat) (fun _ hk => hk.2)); clear HV; have HV := n4_; clear n4_; clear HO_15; clear HB; clear HO_4; clear HO119; have HO_15 := n0_; have HB := n1_; have HO122 := n2_; clear n0_ n1_ n2_; clear ho hb hg hat))
                                go_roundg k3
                                case measure => have := HK1.out; have := HK2.out; have := HK3.out; omega
                                case rel => exact ⟨(y120), (wrap64 (x7_3 + 1)), (by first | rfl | (simp; done) | (simp [*]; done)), H', ⟨by have := HK1.out; have := HK2.out; have := HK3.out; omega⟩, ⟨by (with_reducible repeat (first | apply Kd.S_alloc | apply Kd.S_drewN | apply Kd.S_drew)); exact HO122.out⟩, ⟨by (with_reducible repeat (first | apply Kd.S_alloc | apply Kd.S_drewN | apply Kd.S_drew)); exact Kd.S_mono HO_15.out (fun _ hk => hk.2)⟩, ⟨by repeat (first | (with_reducible first | exact HB.out | apply below_alloc | apply pw_below_drewN | apply below_drew1) | exact HB.out)⟩, ⟨(by (with_reducible repeat (first | apply Kd.R_alloc | apply Kd.R_drewN | apply Kd.R_drew)); exact HV.out)⟩⟩
                              · rw [if_neg c15] at H
                                exact absurd H (by simp)
                            · rw [if_neg c14] at H
                              exact absurd H (by simp)
                        · rw [if_neg c10] at H
                          have c10b0 : decide (x7_3 < a0) = false := decide_eq_false c10
                          clear c10
                          have H' := Aside0.mk H
                          clear H
                          go_wp2
                          go_roundg k3
                          case measure => have := HK1.out; have := HK2.out; have := HK3.out; omega
                          case rel => exact ⟨(x4_3), (wrap64 (x17_2 + 1)), (by first | rfl | (simp; done) | (simp [*]; done)), H', ⟨by have := HK1.out; have := HK2.out; have := HK3.out; omega⟩, ⟨by (with_reducible repeat (first | apply Kd.S_alloc | apply Kd.S_drewN | apply Kd.S_drew)); exact HO_4.out⟩, ⟨by (with_reducible repeat (first | apply Kd.S_alloc | apply Kd.S_drewN | apply Kd.S_drew)); exact HO_15.out⟩, ⟨by repeat (first | (with_reducible first | exact HB.out | apply below_alloc | apply pw_below_drewN | apply below_drew1) | exact HB.out)⟩⟩
                  · rw [if_neg c9] at H
                    exact absurd H (by simp)
                · rw [if_neg c8] at H
                  exact absurd H (by simp)
              · rw [if_neg c7] at H
                have c7b0 : decide (x17_2 < (x3_1.length : Int)) = false := decide_eq_false c7
                clear c7
                have H' := Aside0.mk H
                clear H
                go_wp2
                go_roundg k2
                case measure => have := HK1.out; have := HK2.out; omega
                case rel => exact ⟨(x4_2), H', ⟨by have := HK1.out; have := HK2.out; omega⟩, ⟨by (with_reducible repeat (first | apply Kd.S_alloc | apply Kd.S_drewN | apply Kd.S_drew)); exact Kd.S_mono HO_4.out (fun _ hk => trivial)⟩, ⟨by repeat (first | (with_reducible first | exact HB.out | apply below_alloc | apply pw_below_drewN | apply below_drew1) | exact HB.out)⟩⟩
        · rw [if_neg c5] at H
          have c5b0 : decide (((rd_L1 x3_1 0).length : Int) < a0) = false := decide_eq_false c5
          clear c5
          obtain rfl := Option.some.inj H
          obtain ⟨Ao20, co20, eo20⟩ := Kd.S_slice HO_3.out
          subst eo20
          have p111 : 0 ≤ (0 : Int) := (by omega)
          have q111 : 0 < (x3_1.length : Int) := of_decide_eq_true (by first | (with_reducible assumption) | assumption)
          obtain ⟨ad111, A111_0, c111_0, e111, hx111_0, hl111_0, hi111_0⟩ := at_L1 (Kd.S_reads' HO_3.out).2.2 0 p111 q111
          cases e111
          obtain ⟨ce111, hce111, hMe111, hcc111⟩ := Kd.S_get HO_3.out [] 0 p111 (by first | exact q111 | exact of_decide_eq_true (by first | (with_reducible assumption) | assumption) | (have e_ := (Kd.S_reads' HO_3.out).1; omega))
          obtain ⟨ve111_0, rfl, ge111_0⟩ := hMe111
          have hv111_0 := hcc111 0 _ rfl
          rw [Nat.add_zero, show ((Kd.slice 3 (Kd.int .i64))).sz = 1 from rfl, Nat.mul_one] at hv111_0
          replace hv111_0 := Option.some.inj (hv111_0.symm.trans hx111_0)
          rw [hv111_0] at ge111_0
          have HL111_0 := Aside0.mk (show Kd.R (Kd.int .i64) 3 _ _ _ _ (rd_L1 x3_1 0) from ge111_0)
          clear hv111_0 ge111_0
          clear hcc111 hce111
          have qi111 : (0 < x3_1.length) = True := eq_true (by omega)
          (try rw [show ((0 : Int)).toNat = 0 from rfl] at hx111_0)
          (try rw [Addr.add_zero'] at hx111_0)
          have HR111_0 := Aside0.mk hi111_0
          have HC111_0 := Aside0.mk hl111_0
          clear hi111_0 hl111_0
          replace p111 := eq_true p111
          replace q111 := eq_true q111
          go_wp2
          go_ret
          exact ⟨_, by first | rfl | (simp [errW_none, errW_some] <;> rfl) | (simp [*, errW_none, errW_some] <;> rfl), by (with_reducible repeat (first | apply Kd.S_alloc | apply Kd.S_drewN | apply Kd.S_drew)); exact HO_3.out, by repeat (first | (with_reducible first | exact HB.out | apply below_alloc | apply pw_below_drewN | apply below_drew1) | exact HB.out)⟩
      · rw [if_neg c4] at H
        exact absurd H (by simp)

/-! ### spec_lsInversions: function 58 -/
mutual
def spec_lsInversions.l0 : Nat → List Int → List (List Int) → Int → Int → Option ((List (List Int)))
  | 0, _, _, _, _ => none
  | k + 1, x0, x3, x7, x8 => if x8 < x7 then (spec_lsInversions.l1 k x0 x3 x8 (wrap64 (x8 + 1)) x7 x8) else (some x3)
def spec_lsInversions.l1 : Nat → List Int → List (List Int) → Int → Int → Int → Int → Option ((List (List Int)))
  | 0, _, _, _, _, _, _ => none
  | k + 1, x0, x3, x4, x5, x7, x8 => if x5 < (x0.length : Int) then (if 0 ≤ x4 then (if x4 < (x0.length : Int) then (if 0 ≤ x5 then (if (rd x0 x4) > (rd x0 x5) then (if x3.length < 5864062014805 then (spec_lsInversions.l1 k x0 (x3 ++ [(([x4, x5] : List Int))]) x4 (wrap64 (x5 + 1)) x7 x8) else (none)) else (spec_lsInversions.l1 k x0 x3 x4 (wrap64 (x5 + 1)) x7 x8)) else (none)) else (none)) else (none)) else (spec_lsInversions.l0 k x0 x3 x7 (wrap64 (x8 + 1)))
end
def spec_lsInversions.f (k : Nat) (l0 : List Int) : Option ((List (List Int))) := spec_lsInversions.l0 k l0 ([] : List (List Int)) (l0.length : Int) 0
theorem spec_lsInversions.mono_l : ∀ k, (∀ y0 y1 y2 y3, LeO (spec_lsInversions.l0 k y0 y1 y2 y3) (spec_lsInversions.l0 (k + 1) y0 y1 y2 y3)) ∧ (∀ y0 y1 y2 y3 y4 y5, LeO (spec_lsInversions.l1 k y0 y1 y2 y3 y4 y5) (spec_lsInversions.l1 (k + 1) y0 y1 y2 y3 y4 y5))
  | 0 => ⟨fun _ _ _ _ r h => by simp [spec_lsInversions.l0] at h, fun _ _ _ _ _ _ r h => by simp [spec_lsInversions.l1] at h⟩
  | k + 1 => by
    obtain ⟨ih0, ih1⟩ := spec_lsInversions.mono_l k
    refine ⟨?_, ?_⟩
    · intro y0 y1 y2 y3
      unfold spec_lsInversions.l0
      repeat' first
      | (with_reducible exact ih0 _ _ _ _)
      | (with_reducible exact ih1 _ _ _ _ _ _)
      | (with_reducible exact LeO.refl _)
      | (with_reducible exact LeO.none _)
      | (with_reducible refine LeO.ite ?_ ?_)
      | (with_reducible refine LeO.bind ?_ (fun _ => ?_))
      | exact ih0 _ _ _ _
      | exact ih1 _ _ _ _ _ _
      | exact LeO.none _
      | refine LeO.ite ?_ ?_
      | refine LeO.bind ?_ (fun _ => ?_)
    · intro y0 y1 y2 y3 y4 y5
      unfold spec_lsInversions.l1
      repeat' first
      | (with_reducible exact ih0 _ _ _ _)
      | (with_reducible exact ih1 _ _ _ _ _ _)
      | (with_reducible exact LeO.refl _)
      | (with_reducible exact LeO.none _)
      | (with_reducible refine LeO.ite ?_ ?_)
      | (with_reducible refine LeO.bind ?_ (fun _ => ?_))
      | exact ih0 _ _ _ _
      | exact ih1 _ _ _ _ _ _
      | exact LeO.none _
      | refine LeO.ite ?_ ?_
      | refine LeO.bind ?_ (fun _ => ?_)
theorem spec_lsInversions.mono : ∀ a0 k, LeO (spec_lsInversions.f k a0) (spec_lsInversions.f (k + 1) a0) := by
  intro a0 k
  obtain ⟨ih0, ih1⟩ := spec_lsInversions.mono_l k
  unfold spec_lsInversions.f
  repeat' first
      | (with_reducible exact ih0 _ _ _ _)
      | (with_reducible exact ih1 _ _ _ _ _ _)
      | (with_reducible exact LeO.refl _)
      | (with_reducible exact LeO.none _)
      | (with_reducible refine LeO.ite ?_ ?_)
      | (with_reducible refine LeO.bind ?_ (fun _ => ?_))
      | exact ih0 _ _ _ _
      | exact ih1 _ _ _ _ _ _
      | exact LeO.none _
      | refine LeO.ite ?_ ?_
      | refine LeO.bind ?_ (fun _ => ?_)
set_option maxHeartbeats 8000000 in
set_option maxRecDepth 100000 in
theorem spec_lsInversions.calls (k : Nat) (A0 : Option Addr) (c0 : Nat) (l0 : List Int) (r : List (List Int)) (w : World) (hr0 : Kd.C (Kd.int .i64) w A0 l0.length l0) (hc0 : l0.length ≤ c0) (h : spec_lsInversions.f k l0 = some r) :
    Calls Try.prog 58 #[.slice A0 l0.length c0] w fun e w' => ∃ v0_ : Value, e = .returned (v0_) ∧ Kd.S (Kd.slice 3 (Kd.int .i64)) 25 w' w.heap.size (fun _ => True) v0_ r ∧ Below w.heap.size w w' := by
  have HR0 := Aside0.mk hr0
  have HC0 := Aside0.mk hc0
  clear hr0 hc0
  have HB := Aside0.mk (Below.refl w.heap.size w)
  have H : (spec_lsInversions.l0 k l0 ([] : List (List Int)) (l0.length : Int) 0) = some r := h
  clear h
  have H' := Aside0.mk H
  clear H
  go_enter Try.func58, Try.ntmps58
  go_wp2
  repeat (go_quiet (fail); try go_wp2)
  go_loopg [3, 8] k (fun kq v3 v8 w' => ∃ (x3_1 : List (List Int)) (x8_1 : Int), v8 = .int .i64 x8_1 ∧ Aside0 (spec_lsInversions.l0 kq l0 x3_1 (l0.length : Int) x8_1 = some r) ∧ Aside0 (kq ≤ k) ∧ Aside0 (Kd.S (Kd.slice 3 (Kd.int .i64)) 25 w' w.heap.size (fun _ => True) v3 x3_1) ∧ Aside0 (Below w.heap.size w w'))
  case atStart => exact ⟨(([] : List (List Int))), (0), (by first | rfl | (simp; done) | (simp [*]; done)), H', ⟨Nat.le_refl _⟩, ⟨by first | exact Kd.S_nil _ _ _ _ _ | exact Kd.N_nil _ _ _ _ _ | exact Kd.V_nil _ _ _ _ _ | exact Kd.Q_nil _ _ _ _ _ | exact Kd.R_nil _ _ _ _ _⟩, ⟨by repeat (first | (with_reducible first | exact HB.out | apply below_alloc | apply pw_below_drewN | apply below_drew1) | exact HB.out)⟩⟩
  case round =>
    clear H'
    obtain ⟨x3_1, x8_1, rfl, HA, HK1, HO_3, HB⟩ := hrel
    cases gk with
    | zero => exact absurd HA.out (by simp [spec_lsInversions.l0])
    | succ k1 =>
      have H := HA.out
      clear HA
      simp only [spec_lsInversions.l0] at H
      by_cases c2 : x8_1 < (l0.length : Int)
      · rw [if_pos c2] at H
        have c2b0 : decide (x8_1 < (l0.length : Int)) = true := decide_eq_true c2
        clear c2
        have H' := Aside0.mk H
        clear H
        go_wp2
        repeat (go_quiet (fail); try go_wp2)
        go_loopg [3, 5] k1 (fun kq v3 v5 w' => ∃ (x3_2 : List (List Int)) (x5_2 : Int), v5 = .int .i64 x5_2 ∧ Aside0 (spec_lsInversions.l1 kq l0 x3_2 x8_1 x5_2 (l0.length : Int) x8_1 = some r) ∧ Aside0 (kq ≤ k1) ∧ Aside0 (Kd.S (Kd.slice 3 (Kd.int .i64)) 25 w' w.heap.size (fun _ => True) v3 x3_2) ∧ Aside0 (Below w.heap.size w w'))
        case atStart => exact ⟨(x3_1), (wrap64 (x8_1 + 1)), (by first | rfl | (simp; done) | (simp [*]; done)), H', ⟨Nat.le_refl _⟩, ⟨by (with_reducible repeat (first | apply Kd.S_alloc | apply Kd.S_drewN | apply Kd.S_drew)); exact HO_3.out⟩, ⟨by repeat (first | (with_reducible first | exact HB.out | apply below_alloc | apply pw_below_drewN | apply below_drew1) | exact HB.out)⟩⟩
        case round =>
          clear H'
          try clear c2
          try clear c2b0
          try clear p2
          obtain ⟨x3_2, x5_2, rfl, HA, HK2, HO_3, HB⟩ := hrel
          cases gk with
          | zero => exact absurd HA.out (by simp [spec_lsInversions.l1])
          | succ k2 =>
            have H := HA.out
            clear HA
            simp only [spec_lsInversions.l1] at H
            by_cases c3 : x5_2 < (l0.length : Int)
            · rw [if_pos c3] at H
              have c3b0 : decide (x5_2 < (l0.length : Int)) = true := decide_eq_true c3
              clear c3
              by_cases c4 : 0 ≤ x8_1
              · rw [if_pos c4] at H
                have c4b0 : decide (0 ≤ x8_1) = true := decide_eq_true c4
                clear c4
                by_cases c5 : x8_1 < (l0.length : Int)
                · rw [if_pos c5] at H
                  have c5b0 : decide (x8_1 < (l0.length : Int)) = true := decide_eq_true c5
                  clear c5
                  by_cases c6 : 0 ≤ x5_2
                  · rw [if_pos c6] at H
                    have c6b0 : decide (0 ≤ x5_2) = true := decide_eq_true c6
                    clear c6
                    by_cases c7 : (rd l0 x8_1) > (rd l0 x5_2)
                    · rw [if_pos c7] at H
                      have c7b0 : decide ((rd l0 x5_2) < (rd l0 x8_1)) = true := decide_eq_true c7
                      clear c7
                      obtain ⟨y125, hy125⟩ : ∃ y_ : List Int, y_ = (([x8_1, x5_2] : List Int)) := ⟨_, rfl⟩
                      replace H : (if x3_2.length < 5864062014805 then (spec_lsInversions.l1 k2 l0 (x3_2 ++ [y125]) x8_1 (wrap64 (x5_2 + 1)) (l0.length : Int) x8_1) else (none)) = some r := by first | (rw [hy125]; with_reducible exact H) | (have H2_ := (Option.bind_some _ _).symm.trans H; rw [hy125]; with_reducible exact H2_) | (have H2_ := (Option.bind_some _ _).symm.trans H; with_reducible exact H2_) | with_reducible exact H | (rw [hy125]; exact H) | exact H
                      have Ny125 := Aside0.mk hy125
                      clear hy125
                      by_cases c8 : x3_2.length < 5864062014805
                      · rw [if_pos c8] at H
                        have LMc8 := Aside0.mk c8
                        clear c8
                        obtain ⟨y128, hy128⟩ : ∃ y_ : List (List Int), y_ = (x3_2 ++ [y125]) := ⟨_, rfl⟩
                        replace H : (spec_lsInversions.l1 k2 l0 y128 x8_1 (wrap64 (x5_2 + 1)) (l0.length : Int) x8_1) = some r := by first | (rw [hy128]; with_reducible exact H) | (have H2_ := (Option.bind_some _ _).symm.trans H; rw [hy128]; with_reducible exact H2_) | (have H2_ := (Option.bind_some _ _).symm.trans H; with_reducible exact H2_) | with_reducible exact H | (rw [hy128]; exact H) | exact H
                        have Ny128 := Aside0.mk hy128
                        clear hy128
                        have H' := Aside0.mk H
                        clear H
                        have p123 : 0 ≤ (x8_1 : Int) := of_decide_eq_true (by first | (with_reducible assumption) | assumption)
                        have q123 : x8_1 < (l0.length : Int) := of_decide_eq_true (by first | (with_reducible assumption) | assumption)
                        obtain ⟨ad123, e123, hx123_0⟩ := Kd.at_int HR0.out x8_1 p123 q123
                        cases e123
                        replace hx123_0 := (HB.out.cell (World.block_lt_of_cell? w _ hx123_0)).trans hx123_0
                        replace p123 := eq_true p123
                        replace q123 := eq_true q123
                        have p124 : 0 ≤ (x5_2 : Int) := of_decide_eq_true (by first | (with_reducible assumption) | assumption)
                        have q124 : x5_2 < (l0.length : Int) := of_decide_eq_true (by first | (with_reducible assumption) | assumption)
                        obtain ⟨ad124, e124, hx124_0⟩ := Kd.at_int HR0.out x5_2 p124 q124
                        obtain rfl : ad123 = ad124 := (by injection e124)
                        replace hx124_0 := (HB.out.cell (World.block_lt_of_cell? w _ hx124_0)).trans hx124_0
                        replace p124 := eq_true p124
                        replace q124 := eq_true q124
                        go_wp2_with (first | ((with_reducible refine gate_dst (N := 31) rfl ?_); refine Kd.R_lit (Kd.int .i64) _ 3 ?hg (N := 31) ?hd (xs := ([x8_1, x5_2] : List Int)) (inner := [.int .i64 x8_1, .int .i64 x5_2]) (ok := fun _ => True) (okp := fun _ => True) ?hr ?hp (fun _ hk => hk) trivial (Below.refl _ _) (Nat.le_refl _) (by simp) ?_; (case hd => rfl); (case hg => rfl); (case hr => first | (go_simp; done) | (go_simp; rfl)); (case hp => exact (Reps.one (show Kd.M (Kd.int .i64) _ _ _ x8_1 [.int .i64 x8_1] from rfl) (Reps.one (show Kd.M (Kd.int .i64) _ _ _ x5_2 [.int .i64 x5_2] from rfl) (Reps.none _ _)))); intro v126 w9 ho10 hb hg_ hnew_; clear hg_ hnew_; (first | rw [← Ny125.out] at ho10 | (simp only [Int.reduceToNat] at ho10; rw [← Ny125.out] at ho10)); have n0_ := Aside0.mk (Kd.S_elder' (by (with_reducible repeat (first | apply Kd.S_alloc | apply Kd.S_drewN | apply Kd.S_drew)); exact HO_3.out) (Kd.R_base ho10) hb); have n1_ := Aside0.mk (Kd.R_lower ho10 (below_size (by repeat (first | (with_reducible first | exact HB.out | apply below_alloc | apply pw_below_drewN | apply below_drew1) | exact HB.out)))); have n2_ := Aside0.mk (below_step (by repeat (first | (with_reducible first | exact HB.out | apply below_alloc | apply pw_below_drewN | apply below_drew1) | exact HB.out)) hb); clear HO_3; clear HB; have HO_3 := n0_; have HO127 := n1_; have HB := n2_; clear n0_ n1_ n2_; clear hb ho10; obtain ⟨Ao12, co12, eo12⟩ := Kd.R_slice HO127.out; subst eo12) | ((with_reducible refine gate_builtin (b := .append) (xs := #[.tmp 28, .tmp 32]) rfl ?_); at_builtin; refine Kd.S_append (Kd.slice 3 (Kd.int .i64)) (w0 := w) w.heap.size rfl (.tmp 28) (.tmp 32) 67 25 (.slice none 0 0) 24 rfl Try.underlying67 info25 rfl (by decide) (by omega) u3 x3_2 y125 [.slice Ao12 y125.length co12] (fun _ => True) (fun k_ => some k_ = (.slice Ao12 y125.length co12 : Value).ownBlock) rfl rfl ?aP (fun k_ hk_ => ((Kd.R_mono (ok' := fun k_ => ((fun _ => True)) k_ ∧ some k_ ≠ (u3 : Value).ownBlock) (Kd.R_apart' (HO127.out) (Kd.S_typed HO_3.out) (by decide)) (fun k_ hk => ⟨trivial, hk.2⟩))).1 k_ hk_.symm) ?aF ?aO ?aB ?aS ?aL ?_; (case aP => exact Kd.M_row (Kd.R_mono (Kd.R_tight rfl (Kd.R_mono (ok' := fun k_ => ((fun _ => True)) k_ ∧ some k_ ≠ (u3 : Value).ownBlock) (Kd.R_apart' (HO127.out) (Kd.S_typed HO_3.out) (by decide)) (fun k_ hk => ⟨trivial, hk.2⟩))) (fun _ h_ => h_))); (case aB => exact (by repeat (first | (with_reducible first | exact HB.out | apply below_alloc | apply pw_below_drewN | apply below_drew1) | exact HB.out))); (case aF => exact (fun _ _ => trivial)); (case aO => exact (by (with_reducible repeat (first | apply Kd.S_alloc | apply Kd.S_drewN | apply Kd.S_drew)); exact Kd.S_mono HO_3.out (fun k_ hk => ⟨trivial, fun e_ => hk.2 e_⟩))); (case aS => exact (below_size (by repeat (first | (with_reducible first | exact HB.out | apply below_alloc | apply pw_below_drewN | apply below_drew1) | exact HB.out)))); (case aL => have := LMc8.out; omega); intro v129 w11 ho hb hg hat; rw [← Ny128.out] at ho; have n0_ := Aside0.mk (hb); have n1_ := Aside0.mk (ho); clear HB; clear HO_3; clear HO127; have HB := n0_; have HO130 := n1_; clear n0_ n1_; clear ho hb hg hat))
                        repeat (go_quiet (first | ((with_reducible refine gate_dst (N := 31) rfl ?_); refine Kd.R_lit (Kd.int .i64) _ 3 ?hg (N := 31) ?hd (xs := ([x8_1, x5_2] : List Int)) (inner := [.int .i64 x8_1, .int .i64 x5_2]) (ok := fun _ => True) (okp := fun _ => True) ?hr ?hp (fun _ hk => hk) trivial (Below.refl _ _) (Nat.le_refl _) (by simp) ?_; (case hd => rfl); (case hg => rfl); (case hr => first | (go_simp; done) | (go_simp; rfl)); (case hp => exact (Reps.one (show Kd.M (Kd.int .i64) _ _ _ x8_1 [.int .i64 x8_1] from rfl) (Reps.one (show Kd.M (Kd.int .i64) _ _ _ x5_2 [.int .i64 x5_2] from rfl) (Reps.none _ _)))); intro v126 w9 ho10 hb hg_ hnew_; clear hg_ hnew_; (first | rw [← Ny125.out] at ho10 | (simp only [Int.reduceToNat] at ho10; rw [← Ny125.out] at ho10)); have n0_ := Aside0.mk (Kd.S_elder' (by (with_reducible repeat (first | apply Kd.S_alloc | apply Kd.S_drewN | apply Kd.S_drew)); exact HO_3.out) (Kd.R_base ho10) hb); have n1_ := Aside0.mk (Kd.R_lower ho10 (below_size (by repeat (first | (with_reducible first | exact HB.out | apply below_alloc | apply pw_below_drewN | apply below_drew1) | exact HB.out)))); have n2_ := Aside0.mk (below_step (by repeat (first | (with_reducible first | exact HB.out | apply below_alloc | apply pw_below_drewN | apply below_drew1) | exact HB.out)) hb); clear HO_3; clear HB; have HO_3 := n0_; have HO127 := n1_; have HB := n2_; clear n0_ n1_ n2_; clear hb ho10; obtain ⟨Ao12, co12, eo12⟩ := Kd.R_slice HO127.out; subst eo12) | ((with_reducible refine gate_builtin (b := .append) (xs := #[.tmp 28, .tmp 32]) rfl ?_); at_builtin; refine Kd.S_append (Kd.slice 3 (Kd.int .i64)) (w0 := w) w.heap.size rfl (.tmp 28) (.tmp 32) 67 25 (.slice none 0 0) 24 rfl Try.underlying67 info25 rfl (by decide) (by omega) u3 x3_2 y125 [.slice Ao12 y125.length co12] (fun _ => True) (fun k_ => some k_ = (.slice Ao12 y125.length co12 : Value).ownBlock) rfl rfl ?aP (fun k_ hk_ => ((Kd.R_mono (ok' := fun k_ => ((fun _ => True)) k_ ∧ some k_ ≠ (u3 : Value).ownBlock) (Kd.R_apart' (HO127.out) (Kd.S_typed HO_3.out) (by decide)) (fun k_ hk => ⟨trivial, hk.2⟩))).1 k_ hk_.symm) ?aF ?aO ?aB ?aS ?aL ?_; (case aP => exact Kd.M_row (Kd.R_mono (Kd.R_tight rfl (Kd.R_mono (ok' := fun k_ => ((fun _ => True)) k_ ∧ some k_ ≠ (u3 : Value).ownBlock) (Kd.R_apart' (HO127.out) (Kd.S_typed HO_3.out) (by decide)) (fun k_ hk => ⟨trivial, hk.2⟩))) (fun _ h_ => h_))); (case aB => exact (by repeat (first | (with_reducible first | exact HB.out | apply below_alloc | apply pw_below_drewN | apply below_drew1) | exact HB.out))); (case aF => exact (fun _ _ => trivial)); (case aO => exact (by (with_reducible repeat (first | apply Kd.S_alloc | apply Kd.S_drewN | apply Kd.S_drew)); exact Kd.S_mono HO_3.out (fun k_ hk => ⟨trivial, fun e_ => hk.2 e_⟩))); (case aS => exact (below_size (by repeat (first | (with_reducible first | exact HB.out | apply below_alloc | apply pw_below_drewN | apply below_drew1) | exact HB.out)))); (case aL => have := LMc8.out; omega); intro v129 w11 ho hb hg hat; rw [← Ny128.out] at ho; have n0_ := Aside0.mk (hb); have n1_ := Aside0.mk (ho); clear HB; clear HO_3; clear HO127; have HB := n0_; have HO130 := n1_; clear n0_ n1_; clear ho hb hg hat)); try go_wp2_with (first | ((with_reducible refine gate_dst (N := 31) rfl ?_); refine Kd.R_lit (Kd.int .i64) _ 3 ?hg (N := 31) ?hd (xs := ([x8_1, x5_2] : List Int)) (inner := [.int .i64 x8_1, .int .i64 x5_2]) (ok := fun _ => True) (okp := fun _ => True) ?hr ?hp (fun _ hk => hk) trivial (Below.refl _ _) (Nat.le_refl _) (by simp) ?_; (case hd => rfl); (case hg => rfl); (case hr => first | (go_simp; done) | (go_simp; rfl)); (case hp => exact (Reps.one (show Kd.M (Kd.int .i64) _ _ _ x8_1 [.int .i64 x8_1] from rfl) (Reps.one (show Kd.M (Kd.int .i64) _ _ _ x5_2 [.int .i64 x5_2] from rfl) (Reps.none _ _)))); intro v126 w9 ho10 hb hg_ hnew_; clear hg_ hnew_; (first | rw [← Ny125.out] at ho10 | (simp only [Int.reduceToNat] at ho10; rw [← Ny125.out] at ho10)); have n0_ := Aside0.mk (Kd.S_elder' (by (with_reducible repeat (first | apply Kd.S_alloc | apply Kd.S_drewN | apply Kd.S_drew)); exact HO_3.out) (Kd.R_base ho10) hb); have n1_ := Aside0.mk (Kd.R_lower ho10 (below_size (by repeat (first | (with_reducible first | exact HB.out | apply below_alloc | apply pw_below_drewN | apply below_drew1) | exact HB.out)))); have n2_ := Aside0.mk (below_step (by repeat (first | (with_reducible first | exact HB.out | apply below_alloc | apply pw_below_drewN | apply below_drew1) | exact HB.out)) hb); clear HO_3; clear HB; have HO_3 := n0_; have HO127 := n1_; have HB := n2_; clear n0_ n1_ n2_; clear hb ho10; obtain ⟨Ao12, co12, eo12⟩ := Kd.R_slice HO127.out; subst eo12) | ((with_reducible refine gate_builtin (b := .append) (xs := #[.tmp 28, .tmp 32]) rfl ?_); at_builtin; refine Kd.S_append (Kd.slice 3 (Kd.int .i64)) (w0 := w) w.heap.size rfl (.tmp 28) (.tmp 32) 67 25 (.slice none 0 0) 24 rfl Try.underlying67 info25 rfl (by decide) (by omega) u3 x3_2 y125 [.slice Ao12 y125.length co12] (fun _ => True) (fun k_ => some k_ = (.slice Ao12 y125.length co12 : Value).ownBlock) rfl rfl ?aP (fun k_ hk_ => ((Kd.R_mono (ok' := fun k_ => ((fun _ => True)) k_ ∧ some k_ ≠ (u3 : Value).ownBlock) (Kd.R_apart' (HO127.out) (Kd.S_typed HO_3.out) (by decide)) (fun k_ hk => ⟨trivial, hk.2⟩))).1 k_ hk_.symm) ?aF ?aO ?aB ?aS ?aL ?_; (case aP => exact Kd.M_row (Kd.R_mono (Kd.R_tight rfl (Kd.R_mono (ok' := fun k_ => ((fun _ => True)) k_ ∧ some k_ ≠ (u3 : Value).ownBlock) (Kd.R_apart' (HO127.out) (Kd.S_typed HO_3.out) (by decide)) (fun k_ hk => ⟨trivial, hk.2⟩))) (fun _ h_ => h_))); (case aB => exact (by repeat (first | (with_reducible first | exact HB.out | apply below_alloc | apply pw_below_drewN | apply below_drew1) | exact HB.out))); (case aF => exact (fun _ _ => trivial)); (case aO => exact (by (with_reducible repeat (first | apply Kd.S_alloc | apply Kd.S_drewN | apply Kd.S_drew)); exact Kd.S_mono HO_3.out (fun k_ hk => ⟨trivial, fun e_ => hk.2 e_⟩))); (case aS => exact (below_size (by repeat (first | (with_reducible first | exact HB.out | apply below_alloc | apply pw_below_drewN | apply below_drew1) | exact HB.out)))); (case aL => have := LMc8.out; omega); intro v129 w11 ho hb hg hat; rw [← Ny128.out] at ho; have n0_ := Aside0.mk (hb); have n1_ := Aside0.mk (ho); clear HB; clear HO_3; clear HO127; have HB := n0_; have HO130 := n1_; clear n0_ n1_; clear ho hb hg hat)))
                        go_roundg k2
                        case measure => have := HK1.out; have := HK2.out; omega
                        case rel => exact ⟨(y128), (wrap64 (x5_2 + 1)), (by first | rfl | (simp; done) | (simp [*]; done)), H', ⟨by have := HK1.out; have := HK2.out; omega⟩, ⟨by (with_reducible repeat (first | apply Kd.S_alloc | apply Kd.S_drewN | apply Kd.S_drew)); exact HO130.out⟩, ⟨by repeat (first | (with_reducible first | exact HB.out | apply below_alloc | apply pw_below_drewN | apply below_drew1) | exact HB.out)⟩⟩
                      · rw [if_neg c8] at H
                        exact absurd H (by simp)
                    · rw [if_neg c7] at H
                      have c7b0 : decide ((rd l0 x5_2) < (rd l0 x8_1)) = false := decide_eq_false c7
                      clear c7
                      have H' := Aside0.mk H
                      clear H
                      have p123 : 0 ≤ (x8_1 : Int) := of_decide_eq_true (by first | (with_reducible assumption) | assumption)
                      have q123 : x8_1 < (l0.length : Int) := of_decide_eq_true (by first | (with_reducible assumption) | assumption)
                      obtain ⟨ad123, e123, hx123_0⟩ := Kd.at_int HR0.out x8_1 p123 q123
                      cases e123
                      replace hx123_0 := (HB.out.cell (World.block_lt_of_cell? w _ hx123_0)).trans hx123_0
                      replace p123 := eq_true p123
                      replace q123 := eq_true q123
                      have p124 : 0 ≤ (x5_2 : Int) := of_decide_eq_true (by first | (with_reducible assumption) | assumption)
                      have q124 : x5_2 < (l0.length : Int) := of_decide_eq_true (by first | (with_reducible assumption) | assumption)
                      obtain ⟨ad124, e124, hx124_0⟩ := Kd.at_int HR0.out x5_2 p124 q124
                      obtain rfl : ad123 = ad124 := (by injection e124)
                      replace hx124_0 := (HB.out.cell (World.block_lt_of_cell? w _ hx124_0)).trans hx124_0
                      replace p124 := eq_true p124
                      replace q124 := eq_true q124
                      go_wp2
                      repeat (go_quiet (fail); try go_wp2)
                      go_roundg k2
                      case measure => have := HK1.out; have := HK2.out; omega
                      case rel => exact ⟨(x3_2), (wrap64 (x5_2 + 1)), (by first | rfl | (simp; done) | (simp [*]; done)), H', ⟨by have := HK1.out; have := HK2.out; omega⟩, ⟨by (with_reducible repeat (first | apply Kd.S_alloc | apply Kd.S_drewN | apply Kd.S_drew)); exact HO_3.out⟩, ⟨by repeat (first | (with_reducible first | exact HB.out | apply below_alloc | apply pw_below_drewN | apply below_drew1) | exact HB.out)⟩⟩
                  · rw [if_neg c6] at H
                    exact absurd H (by simp)
                · rw [if_neg c5] at H
                  exact absurd H (by simp)
              · rw [if_neg c4] at H
                exact absurd H (by simp)
            · rw [if_neg c3] at H
              have c3b0 : decide (x5_2 < (l0.length : Int)) = false := decide_eq_false c3
              clear c3
              have H' := Aside0.mk H
              clear H
              go_wp2
              repeat (go_quiet (fail); try go_wp2)
              go_roundg k2
              case measure => have := HK1.out; have := HK2.out; omega
              case rel => exact ⟨(x3_2), (wrap64 (x8_1 + 1)), (by first | rfl | (simp; done) | (simp [*]; done)), H', ⟨by have := HK1.out; have := HK2.out; omega⟩, ⟨by (with_reducible repeat (first | apply Kd.S_alloc | apply Kd.S_drewN | apply Kd.S_drew)); exact HO_3.out⟩, ⟨by repeat (first | (with_reducible first | exact HB.out | apply below_alloc | apply pw_below_drewN | apply below_drew1) | exact HB.out)⟩⟩
      · rw [if_neg c2] at H
        have c2b0 : decide (x8_1 < (l0.length : Int)) = false := decide_eq_false c2
        clear c2
        obtain rfl := Option.some.inj H
        go_wp2
        repeat (go_quiet (fail); try go_wp2)
        go_ret
        exact ⟨_, by first | rfl | (simp [errW_none, errW_some] <;> rfl) | (simp [*, errW_none, errW_some] <;> rfl), by (with_reducible repeat (first | apply Kd.S_alloc | apply Kd.S_drewN | apply Kd.S_drew)); exact HO_3.out, by repeat (first | (with_reducible first | exact HB.out | apply below_alloc | apply pw_below_drewN | apply below_drew1) | exact HB.out)⟩

/-! ### spec_alSwap: function 66 -/
def spec_alSwap.f (l0 : List Int) (a1 : Int) : Option (List Int) := (spec_l1Own.f l0).bind fun t131 => (if 0 ≤ (wrap64 (a1 + 1)) then (if (wrap64 (a1 + 1)) < (l0.length : Int) then (if 0 ≤ a1 then (if a1 < (t131.length : Int) then (if a1 < (l0.length : Int) then (if (wrap64 (a1 + 1)) < (t131.length : Int) then (some ((t131.set (a1 : Int).toNat (rd l0 (wrap64 (a1 + 1)))).set ((wrap64 (a1 + 1)) : Int).toNat (rd l0 a1))) else (none)) else (none)) else (none)) else (none)) else (none)) else (none))
set_option maxHeartbeats 8000000 in
set_option maxRecDepth 100000 in
theorem spec_alSwap.calls (A0 : Option Addr) (c0 : Nat) (l0 : List Int) (a1 : Int) (r : List Int) (w : World) (hr0 : Kd.C (Kd.int .i64) w A0 l0.length l0) (hc0 : l0.length ≤ c0) (h : spec_alSwap.f l0 a1 = some r) :
    Calls Try.prog 66 #[.slice A0 l0.length c0, .int .i64 a1] w fun e w' => ∃ v0_ : Value, e = .returned (v0_) ∧ Kd.R (Kd.int .i64) 3 w' w.heap.size (fun _ => True) v0_ r ∧ Below w.heap.size w w' := by
  have HR0 := Aside0.mk hr0
  have HC0 := Aside0.mk hc0
  clear hr0 hc0
  have HB := Aside0.mk (Below.refl w.heap.size w)
  have H : ((spec_l1Own.f l0).bind fun t131 => (if 0 ≤ (wrap64 (a1 + 1)) then (if (wrap64 (a1 + 1)) < (l0.length : Int) then (if 0 ≤ a1 then (if a1 < (t131.length : Int) then (if a1 < (l0.length : Int) then (if (wrap64 (a1 + 1)) < (t131.length : Int) then (some ((t131.set (a1 : Int).toNat (rd l0 (wrap64 (a1 + 1)))).set ((wrap64 (a1 + 1)) : Int).toNat (rd l0 a1))) else (none)) else (none)) else (none)) else (none)) else (none)) else (none))) = some r := h
  clear h
  replace H := Option.bind_eq_some_iff.mp H
  obtain ⟨t131, A30, H⟩ := H
  replace H : (if 0 ≤ (wrap64 (a1 + 1)) then (if (wrap64 (a1 + 1)) < (l0.length : Int) then (if 0 ≤ a1 then (if a1 < (t131.length : Int) then (if a1 < (l0.length : Int) then (if (wrap64 (a1 + 1)) < (t131.length : Int) then (some ((t131.set (a1 : Int).toNat (rd l0 (wrap64 (a1 + 1)))).set ((wrap64 (a1 + 1)) : Int).toNat (rd l0 a1))) else (none)) else (none)) else (none)) else (none)) else (none)) else (none)) = some r := H
  have A3 := Aside0.mk A30
  clear A30
  obtain ⟨ji4, hji4⟩ : ∃ j_ : Int, (wrap64 (a1 + 1)) = j_ := ⟨_, rfl⟩
  replace H : (if 0 ≤ (ji4) then (if (ji4) < (l0.length : Int) then (if 0 ≤ a1 then (if a1 < (t131.length : Int) then (if a1 < (l0.length : Int) then (if (ji4) < (t131.length : Int) then (some ((t131.set (a1 : Int).toNat (rd l0 (ji4))).set ((ji4) : Int).toNat (rd l0 a1))) else (none)) else (none)) else (none)) else (none)) else (none)) else (none)) = some r := by first | (rw [hji4] at H; exact H) | (simp only [hji4] at H ⊢; exact H)
  (try rw [hji4] at A3)
  have hji4w : (IntKind.i64.wrap (a1 + 1)) = ji4 := (i64_w _).trans hji4
  by_cases c5 : 0 ≤ (ji4)
  · rw [if_pos c5] at H
    have c5b0 : decide (0 ≤ (ji4)) = true := decide_eq_true c5
    clear c5
    by_cases c6 : (ji4) < (l0.length : Int)
    · rw [if_pos c6] at H
      have c6b0 : decide ((ji4) < (l0.length : Int)) = true := decide_eq_true c6
      clear c6
      by_cases c7 : 0 ≤ a1
      · rw [if_pos c7] at H
        have c7b0 : decide (0 ≤ a1) = true := decide_eq_true c7
        clear c7
        by_cases c8 : a1 < (t131.length : Int)
        · rw [if_pos c8] at H
          have c8b0 : decide (a1 < (t131.length : Int)) = true := decide_eq_true c8
          clear c8
          obtain ⟨y135, hy135⟩ : ∃ y_ : List Int, y_ = (t131.set (a1 : Int).toNat (rd l0 (ji4))) := ⟨_, rfl⟩
          replace H : (if a1 < (l0.length : Int) then (if (ji4) < (t131.length : Int) then (some (y135.set ((ji4) : Int).toNat (rd l0 a1))) else (none)) else (none)) = some r := by first | (rw [hy135]; with_reducible exact H) | (have H2_ := (Option.bind_some _ _).symm.trans H; rw [hy135]; with_reducible exact H2_) | (have H2_ := (Option.bind_some _ _).symm.trans H; with_reducible exact H2_) | with_reducible exact H | (rw [hy135]; exact H) | exact H
          have Ny135 := Aside0.mk hy135
          clear hy135
          by_cases c10 : a1 < (l0.length : Int)
          · rw [if_pos c10] at H
            have c10b0 : decide (a1 < (l0.length : Int)) = true := decide_eq_true c10
            clear c10
            by_cases c11 : (ji4) < (t131.length : Int)
            · rw [if_pos c11] at H
              have c11b0 : decide ((ji4) < (t131.length : Int)) = true := decide_eq_true c11
              clear c11
              obtain ⟨y137, hy137⟩ : ∃ y_ : List Int, y_ = (y135.set ((ji4) : Int).toNat (rd l0 a1)) := ⟨_, rfl⟩
              replace H : (some y137) = some r := by first | (rw [hy137]; with_reducible exact H) | (have H2_ := (Option.bind_some _ _).symm.trans H; rw [hy137]; with_reducible exact H2_) | (have H2_ := (Option.bind_some _ _).symm.trans H; with_reducible exact H2_) | with_reducible exact H | (rw [hy137]; exact H) | exact H
              have Ny137 := Aside0.mk hy137
              clear hy137
              obtain rfl := Option.some.inj H
              go_enter Try.func66, Try.ntmps66
              go_wp2_with (first | ((with_reducible refine gate_callee (f := 75) rfl ?_); refine goesL_ (some 7) rfl rfl Try.func75 (by kernel_rfl) rfl #[.slice A0 l0.length c0] rfl (by (try simp only [List.map_toArray, List.map_cons, List.map_nil]); first | done | rfl | (simp only [List.length_drop, List.length_take]; rfl)) ?_; (with_reducible refine (spec_l1Own.calls _ _ l0 t131 _ ?side1 ?side2 A3.out).mono ?_); (case side1 => repeat (first | exact HR0.out | (with_reducible refine Kd.C_alloc ?_ _) | (with_reducible refine Kd.C_drewN ?_ _) | (with_reducible refine Kd.C_drew ?_))); (case side2 => exact HC0.out); rintro e w13 ⟨v132, rfl, ho0, hb⟩; refine ⟨_, rfl, ?_⟩; have n0_ := Aside0.mk (Kd.R_lower ho0 (below_size (by repeat (first | (with_reducible first | exact HB.out | apply below_alloc | apply pw_below_drewN | apply below_drew1) | exact HB.out)))); have n1_ := Aside0.mk (below_step (by repeat (first | (with_reducible first | exact HB.out | apply below_alloc | apply pw_below_drewN | apply below_drew1) | exact HB.out)) hb); clear HB; have HO133 := n0_; have HB := n1_; clear n0_ n1_; (try clear hb); (try clear hb2); (try clear hk); (try clear hi); (try clear ho0); have p134 : 0 ≤ ((ji4) : Int) := of_decide_eq_true (by first | (with_reducible assumption) | assumption); have q134 : (ji4) < (l0.length : Int) := of_decide_eq_true (by first | (with_reducible assumption) | assumption); obtain ⟨ad134, e134, hx134_0⟩ := Kd.at_int HR0.out (ji4) p134 q134; cases e134; replace hx134_0 := (HB.out.cell (World.block_lt_of_cell? w _ hx134_0)).trans hx134_0; replace p134 := eq_true p134; replace q134 := eq_true q134; have p9 : 0 ≤ (a1 : Int) := of_decide_eq_true (by first | (with_reducible assumption) | assumption); have q9 : (a1 : Int) < ((t131.length : Int) : Int) := of_decide_eq_true (by first | (with_reducible assumption) | assumption); obtain ⟨go9, co9, eo9, gb9, gl9, cl9, HG9⟩ := Kd.R_form HO133.out (by omega); (first | cases eo9 | (injection eo9 with ea_ en_ ec_; (first | subst ea_ | (injection ea_ with ea_; subst ea_)); subst ec_; clear en_)); have GB9 := Aside0.mk gb9; have GG9 := Aside0.mk HG9; clear gb9 gl9 HG9; obtain ⟨hx9_0, hf9_0⟩ := Kd.R_celln 0 HO133.out (a1 : Int) p9 q9; replace p9 := eq_true p9; replace q9 := eq_true q9; obtain ⟨hy14_, hz14_⟩ := Kd.R_celln 0 HO133.out (a1 : Int) (of_decide_eq_true (by first | (with_reducible assumption) | assumption)) (of_decide_eq_true (by first | (with_reducible assumption) | assumption)); have HP14 := Kd.R_putg HO133.out (a1 : Int) (rd l0 (ji4))) | ((with_reducible refine gate_store (t := 3) (p := 15) rfl ?_); refine store_event (t := 3) (p := 15) (v := ?vo_w15) (w1 := (w13.setCell ⟨go9, (a1 : Int).toNat, none⟩ (.int .i64 (rd l0 (ji4))))) ?hg ?ho ?hn ?hr ?_; (case ho => rfl); (case hg => rfl); (case hn => rfl); (case hr => first | (go_simp; done) | (go_simp; rfl)); intro w15 hw; have hg : w13.grownBy w15 (some go9) := (by rw [hw]; exact HP14.2); have hp_ : Kd.R (Kd.int .i64) 3 w15 w.heap.size (fun _ => True) (.slice (some ⟨go9, 0, none⟩) t131.length co9) y135 := (by rw [hw, Ny135.out]; exact HP14.1); clear HP14; have n0_ := Aside0.mk (hp_); have n1_ := Aside0.mk ((by rw [hw]; exact below_set (HB.out) GB9.out : Below w.heap.size w w15)); clear HO133; clear HB; have HO133 := n0_; have HB := n1_; clear n0_ n1_; clear hg hw hp_; have p136 : 0 ≤ (a1 : Int) := of_decide_eq_true (by first | (with_reducible assumption) | assumption); have q136 : a1 < (l0.length : Int) := of_decide_eq_true (by first | (with_reducible assumption) | assumption); obtain ⟨ad136, e136, hx136_0⟩ := Kd.at_int HR0.out a1 p136 q136; obtain rfl : ad134 = ad136 := (by injection e136); replace hx136_0 := (HB.out.cell (World.block_lt_of_cell? w _ hx136_0)).trans hx136_0; replace p136 := eq_true p136; replace q136 := eq_true q136; have p12 : 0 ≤ ((ji4) : Int) := of_decide_eq_true (by first | (with_reducible assumption) | assumption); have q12 : ((ji4) : Int) < ((t131.length : Int) : Int) := of_decide_eq_true (by first | (with_reducible assumption) | assumption); obtain ⟨hx12_0, hf12_0⟩ := Kd.R_celln 0 HO133.out ((ji4) : Int) p12 q12; replace p12 := eq_true p12; replace q12 := eq_true q12; obtain ⟨hy16_, hz16_⟩ := Kd.R_celln 0 HO133.out ((ji4) : Int) (of_decide_eq_true (by first | (with_reducible assumption) | assumption)) (of_decide_eq_true (by first | (with_reducible assumption) | assumption)); have HP16 := Kd.R_putg HO133.out ((ji4) : Int) (rd l0 a1)) | ((with_reducible refine gate_store (t := 3) (p := 23) rfl ?_); refine store_event (t := 3) (p := 23) (v := ?vo_w17) (w1 := (w15.setCell ⟨go9, ((ji4) : Int).toNat, none⟩ (.int .i64 (rd l0 a1)))) ?hg ?ho ?hn ?hr ?_; (case ho => rfl); (case hg => rfl); (case hn => rfl); (case hr => first | (go_simp; done) | (go_simp; rfl)); intro w17 hw; have hg : w15.grownBy w17 (some go9) := (by rw [hw]; exact HP16.2); have hp_ : Kd.R (Kd.int .i64) 3 w17 w.heap.size (fun _ => True) (.slice (some ⟨go9, 0, none⟩) t131.length co9) y137 := (by rw [hw, Ny137.out]; exact HP16.1); clear HP16; have n0_ := Aside0.mk (hp_); have n1_ := Aside0.mk ((by rw [hw]; exact below_set (HB.out) GB9.out : Below w.heap.size w w17)); clear HO133; clear HB; have HO133 := n0_; have HB := n1_; clear n0_ n1_; clear hg hw hp_))
              go_ret
              exact ⟨_, by first | rfl | (simp [errW_none, errW_some] <;> rfl) | (simp only [← hji4]; first | rfl | (simp [errW_none, errW_some] <;> rfl)) | (simp [*, errW_none, errW_some] <;> rfl), by (with_reducible repeat (first | apply Kd.R_alloc | apply Kd.R_drewN | apply Kd.R_drew)); exact HO133.out, by repeat (first | (with_reducible first | exact HB.out | apply below_alloc | apply pw_below_drewN | apply below_drew1) | exact HB.out)⟩
            · rw [if_neg c11] at H
              exact absurd H (by simp)
          · rw [if_neg c10] at H
            exact absurd H (by simp)
        · rw [if_neg c8] at H
          exact absurd H (by simp)
      · rw [if_neg c7] at H
        exact absurd H (by simp)
    · rw [if_neg c6] at H
      exact absurd H (by simp)
  · rw [if_neg c5] at H
    exact absurd H (by simp)

/-! ### spec_alRank: function 94 -/
mutual
def spec_alRank.l0 : Nat → List Int → Int → List Int → Int → Int → Option (Int)
  | 0, _, _, _, _, _ => none
  | k + 1, x0, x3, x9, x10, x11 => if x11 < x10 then (if 0 ≤ x11 then (if x11 < (x9.length : Int) then (if 0 ≤ (wrap64 (x11 + 1)) then (if (wrap64 (x11 + 1)) ≤ (x0.length : Int) then ((some (x0.drop ((wrap64 (x11 + 1)) : Int).toNat : List Int)).bind fun y139 => (spec_alRank.l1 k x0 x3 x11 (rd x9 x11) 0 x9 x10 x11 y139 (y139.length : Int) 0)) else (none)) else (none)) else (none)) else (none)) else (some x3)
def spec_alRank.l1 : Nat → List Int → Int → Int → Int → Int → List Int → Int → Int → List Int → Int → Int → Option (Int)
  | 0, _, _, _, _, _, _, _, _, _, _, _ => none
  | k + 1, x0, x3, x4, x5, x6, x9, x10, x11, x19, x20, x21 => if x21 < x20 then (if 0 ≤ x21 then (if x21 < (x19.length : Int) then (if (rd x19 x21) < x5 then (spec_alRank.l1 k x0 x3 x4 x5 (wrap64 (x6 + 1)) x9 x10 x11 x19 x20 (wrap64 (x21 + 1))) else (spec_alRank.l1 k x0 x3 x4 x5 x6 x9 x10 x11 x19 x20 (wrap64 (x21 + 1)))) else (none)) else (none)) else (spec_alRank.l0 k x0 (wrap64 ((wrap64 (x3 * (wrap64 ((x0.length : Int) - x4)))) + x6)) x9 x10 (wrap64 (x11 + 1)))
end
def spec_alRank.f (k : Nat) (l0 : List Int) : Option (Int) := spec_alRank.l0 k l0 0 l0 (l0.length : Int) 0
theorem spec_alRank.mono_l : ∀ k, (∀ y0 y1 y2 y3 y4, LeO (spec_alRank.l0 k y0 y1 y2 y3 y4) (spec_alRank.l0 (k + 1) y0 y1 y2 y3 y4)) ∧ (∀ y0 y1 y2 y3 y4 y5 y6 y7 y8 y9 y10, LeO (spec_alRank.l1 k y0 y1 y2 y3 y4 y5 y6 y7 y8 y9 y10) (spec_alRank.l1 (k + 1) y0 y1 y2 y3 y4 y5 y6 y7 y8 y9 y10))
  | 0 => ⟨fun _ _ _ _ _ r h => by simp [spec_alRank.l0] at h, fun _ _ _ _ _ _ _ _ _ _ _ r h => by simp [spec_alRank.l1] at h⟩
  | k + 1 => by
    obtain ⟨ih0, ih1⟩ := spec_alRank.mono_l k
    refine ⟨?_, ?_⟩
    · intro y0 y1 y2 y3 y4
      unfold spec_alRank.l0
      repeat' first
      | (with_reducible exact ih0 _ _ _ _ _)
      | (with_reducible exact ih1 _ _ _ _ _ _ _ _ _ _ _)
      | (with_reducible exact LeO.refl _)
      | (with_reducible exact LeO.none _)
      | (with_reducible refine LeO.ite ?_ ?_)
      | (with_reducible refine LeO.bind ?_ (fun _ => ?_))
      | exact ih0 _ _ _ _ _
      | exact ih1 _ _ _ _ _ _ _ _ _ _ _
      | exact LeO.none _
      | refine LeO.ite ?_ ?_
      | refine LeO.bind ?_ (fun _ => ?_)
    · intro y0 y1 y2 y3 y4 y5 y6 y7 y8 y9 y10
      unfold spec_alRank.l1
      repeat' first
      | (with_reducible exact ih0 _ _ _ _ _)
      | (with_reducible exact ih1 _ _ _ _ _ _ _ _ _ _ _)
      | (with_reducible exact LeO.refl _)
      | (with_reducible exact LeO.none _)
      | (with_reducible refine LeO.ite ?_ ?_)
      | (with_reducible refine LeO.bind ?_ (fun _ => ?_))
      | exact ih0 _ _ _ _ _
      | exact ih1 _ _ _ _ _ _ _ _ _ _ _
      | exact LeO.none _
      | refine LeO.ite ?_ ?_
      | refine LeO.bind ?_ (fun _ => ?_)
theorem spec_alRank.mono : ∀ a0 k, LeO (spec_alRank.f k a0) (spec_alRank.f (k + 1) a0) := by
  intro a0 k
  obtain ⟨ih0, ih1⟩ := spec_alRank.mono_l k
  unfold spec_alRank.f
  repeat' first
      | (with_reducible exact ih0 _ _ _ _ _)
      | (with_reducible exact ih1 _ _ _ _ _ _ _ _ _ _ _)
      | (with_reducible exact LeO.refl _)
      | (with_reducible exact LeO.none _)
      | (with_reducible refine LeO.ite ?_ ?_)
      | (with_reducible refine LeO.bind ?_ (fun _ => ?_))
      | exact ih0 _ _ _ _ _
      | exact ih1 _ _ _ _ _ _ _ _ _ _ _
      | exact LeO.none _
      | refine LeO.ite ?_ ?_
      | refine LeO.bind ?_ (fun _ => ?_)
set_option maxHeartbeats 8000000 in
set_option maxRecDepth 100000 in
theorem spec_alRank.calls (k : Nat) (A0 : Option Addr) (c0 : Nat) (l0 : List Int) (r : Int) (w : World) (hr0 : Kd.C (Kd.int .i64) w A0 l0.length l0) (hc0 : l0.length ≤ c0) (h : spec_alRank.f k l0 = some r) :
    Calls Try.prog 94 #[.slice A0 l0.length c0] w fun e w' => e = .returned (.int .i64 r) ∧ Drawn0 w w' := by
  have HR0 := Aside0.mk hr0
  have HC0 := Aside0.mk hc0
  clear hr0 hc0
  have H : (spec_alRank.l0 k l0 0 l0 (l0.length : Int) 0) = some r := h
  clear h
  have H' := Aside0.mk H
  clear H
  go_enter Try.func94, Try.ntmps94
  go_wp2
  go_loopg [3, 11] k (fun kq v3 v11 w' => ∃ (x3_1 : Int) (x11_1 : Int), v3 = .int .i64 x3_1 ∧ v11 = .int .i64 x11_1 ∧ Aside0 (spec_alRank.l0 kq l0 x3_1 l0 (l0.length : Int) x11_1 = some r) ∧ Aside0 (kq ≤ k) ∧ Drawn0 w w')
  case atStart => exact ⟨(0), (0), (by first | rfl | (simp; done) | (simp [*]; done)), (by first | rfl | (simp; done) | (simp [*]; done)), H', ⟨Nat.le_refl _⟩, by repeat (first | exact Drawn0.refl _ | apply Drawn0.step)⟩
  case round =>
    clear H'
    obtain ⟨x3_1, x11_1, rfl, rfl, HA, HK1, ⟨m1, rfl⟩⟩ := hrel
    cases gk with
    | zero => exact absurd HA.out (by simp [spec_alRank.l0])
    | succ k1 =>
      have H := HA.out
      clear HA
      simp only [spec_alRank.l0] at H
      by_cases c2 : x11_1 < (l0.length : Int)
      · rw [if_pos c2] at H
        have c2b0 : decide (x11_1 < (l0.length : Int)) = true := decide_eq_true c2
        clear c2
        by_cases c3 : 0 ≤ x11_1
        · rw [if_pos c3] at H
          have c3b0 : decide (0 ≤ x11_1) = true := decide_eq_true c3
          clear c3
          by_cases c4 : x11_1 < (l0.length : Int)
          · rw [if_pos c4] at H
            have c4b0 : decide (x11_1 < (l0.length : Int)) = true := decide_eq_true c4
            clear c4
            obtain ⟨ji5, hji5⟩ : ∃ j_ : Int, (wrap64 (x11_1 + 1)) = j_ := ⟨_, rfl⟩
            replace H : (if 0 ≤ (ji5) then (if (ji5) ≤ (l0.length : Int) then ((some (l0.drop ((ji5) : Int).toNat : List Int)).bind fun y139 => (spec_alRank.l1 k1 l0 x3_1 x11_1 (rd l0 x11_1) 0 l0 (l0.length : Int) x11_1 y139 (y139.length : Int) 0)) else (none)) else (none)) = some r := by first | (rw [hji5] at H; exact H) | (simp only [hji5] at H ⊢; exact H)
            have hji5w : (IntKind.i64.wrap (x11_1 + 1)) = ji5 := (i64_w _).trans hji5
            by_cases c6 : 0 ≤ (ji5)
            · rw [if_pos c6] at H
              have c6b0 := eq_true c6
              have c6b1 : decide (0 ≤ (ji5)) = true := decide_eq_true c6
              clear c6
              by_cases c7 : (ji5) ≤ (l0.length : Int)
              · rw [if_pos c7] at H
                have c7b0 := eq_true c7
                have c7b1 : decide ((ji5) ≤ (l0.length : Int)) = true := decide_eq_true c7
                clear c7
                obtain ⟨y139, hy139⟩ : ∃ y_ : List Int, y_ = (l0.drop ((ji5) : Int).toNat) := ⟨_, rfl⟩
                replace H : (spec_alRank.l1 k1 l0 x3_1 x11_1 (rd l0 x11_1) 0 l0 (l0.length : Int) x11_1 y139 (y139.length : Int) 0) = some r := by first | (rw [hy139]; with_reducible exact H) | (have H2_ := (Option.bind_some _ _).symm.trans H; rw [hy139]; with_reducible exact H2_) | (have H2_ := (Option.bind_some _ _).symm.trans H; with_reducible exact H2_) | with_reducible exact H | (rw [hy139]; exact H) | exact H
                have Ny139 := Aside0.mk hy139
                clear hy139
                have H' := Aside0.mk H
                clear H
                have p138 : 0 ≤ (x11_1 : Int) := of_decide_eq_true (by first | (with_reducible assumption) | assumption)
                have q138 : x11_1 < (l0.length : Int) := of_decide_eq_true (by first | (with_reducible assumption) | assumption)
                obtain ⟨ad138, e138, hx138_0⟩ := Kd.at_int HR0.out x11_1 p138 q138
                cases e138
                replace p138 := eq_true p138
                replace q138 := eq_true q138
                have q8 : ((ji5) : Int) ≤ ((l0.length : Int) : Int) := of_decide_eq_true (by first | (with_reducible assumption) | assumption)
                obtain ⟨i08, hi08, _, hsz8, _⟩ := info_parts info3
                have hroom8 : l0.length ≤ c0 := HC0.out
                have hC8 : Kd.C (Kd.int .i64) _ (some ad138) l0.length l0 := HR0.out
                have q08 : (0 : Int) ≤ ((ji5) : Int) := of_decide_eq_true (by first | (with_reducible assumption) | assumption)
                have hcut8 := cut_from (P := Try.prog) 25 3 .i64 Try.underlying25 hi08 1 hsz8 (some ad138) l0.length c0 (ji5) q08 q8
                have hr8 := Kd.C_drop (m := ((ji5) : Int).toNat) (c := c0) hC8 (by omega) hroom8
                obtain ⟨A8, hA8⟩ : ∃ A1, A1 = (if c0 = ((ji5) : Int).toNat then (some ad138) else ((some ad138) : Option Addr).map (·.add (((ji5) : Int).toNat * 1))) := ⟨_, rfl⟩
                obtain ⟨c8, hc8⟩ : ∃ c1, c1 = c0 - ((ji5) : Int).toNat := ⟨_, rfl⟩
                have hy8 : y139.length = l0.length - ((ji5) : Int).toNat := (by rw [Ny139.out, List.length_drop] <;> omega)
                rw [show (l0).drop ((ji5) : Int).toNat = y139 from Ny139.out.symm] at hr8
                replace hr8 : Kd.C (Kd.int .i64) _ A8 y139.length y139 := (by rw [hA8]; exact hr8)
                rw [← hy8, ← hA8, ← hc8] at hcut8
                have HR142 := Aside0.mk hr8
                have HC142 := Aside0.mk (show y139.length ≤ c8 from by rw [hy8, hc8]; exact Nat.sub_le_sub_right hroom8 _)
                clear hr8 hC8 hroom8 hi08 hsz8 hc8
                have KY8 := Aside0.mk hy8
                have KA8 := Aside0.mk hA8
                clear hy8 hA8
                replace q8 := eq_true q8
                go_wp2
                go_loopg [6, 21] k1 (fun kq v6 v21 w' => ∃ (x6_2 : Int) (x21_2 : Int), v6 = .int .i64 x6_2 ∧ v21 = .int .i64 x21_2 ∧ Aside0 (spec_alRank.l1 kq l0 x3_1 x11_1 (rd l0 x11_1) x6_2 l0 (l0.length : Int) x11_1 y139 (y139.length : Int) x21_2 = some r) ∧ Aside0 (kq ≤ k1) ∧ Drawn0 w w')
                case atStart => exact ⟨(0), (0), (by first | rfl | (simp; done) | (simp [*]; done)), (by first | rfl | (simp; done) | (simp [*]; done)), H', ⟨Nat.le_refl _⟩, by repeat (first | exact Drawn0.refl _ | apply Drawn0.step)⟩
                case round =>
                  clear H'
                  try clear c1
                  try clear p1
                  try clear q1
                  try clear hx1
                  try clear c2
                  try clear c2b0
                  try clear p2
                  try clear c3
                  try clear c3b0
                  try clear c4
                  try clear c4b0
                  try clear c6
                  try clear c6b0
                  try clear c6b1
                  try clear p6
                  try clear c7
                  try clear c7b0
                  try clear c7b1
                  try clear c8
                  try clear q8
                  try clear hx138_0
                  try clear p138
                  try clear q08
                  try clear q138
                  try clear q8
                  obtain ⟨x6_2, x21_2, rfl, rfl, HA, HK2, ⟨m2, rfl⟩⟩ := hrel
                  cases gk with
                  | zero => exact absurd HA.out (by simp [spec_alRank.l1])
                  | succ k2 =>
                    have H := HA.out
                    clear HA
                    simp only [spec_alRank.l1] at H
                    by_cases c9 : x21_2 < (y139.length : Int)
                    · rw [if_pos c9] at H
                      have c9b0 : decide (x21_2 < (y139.length : Int)) = true := decide_eq_true c9
                      clear c9
                      by_cases c10 : 0 ≤ x21_2
                      · rw [if_pos c10] at H
                        have c10b0 : decide (0 ≤ x21_2) = true := decide_eq_true c10
                        clear c10
                        by_cases c11 : x21_2 < (y139.length : Int)
                        · rw [if_pos c11] at H
                          have c11b0 : decide (x21_2 < (y139.length : Int)) = true := decide_eq_true c11
                          clear c11
                          by_cases c12 : (rd y139 x21_2) < (rd l0 x11_1)
                          · rw [if_pos c12] at H
                            have c12b0 : decide ((rd y139 x21_2) < (rd l0 x11_1)) = true := decide_eq_true c12
                            clear c12
                            have H' := Aside0.mk H
                            clear H
                            have p143 : 0 ≤ (x21_2 : Int) := of_decide_eq_true (by first | (with_reducible assumption) | assumption)
                            have q143 : x21_2 < (y139.length : Int) := of_decide_eq_true (by first | (with_reducible assumption) | assumption)
                            obtain ⟨ad143, e143, hx143_0⟩ := Kd.at_int HR142.out x21_2 p143 q143
                            cases e143
                            replace p143 := eq_true p143
                            replace q143 := eq_true q143
                            go_wp2
                            go_roundg k2
                            case measure => have := HK1.out; have := HK2.out; omega
                            case rel => exact ⟨(wrap64 (x6_2 + 1)), (wrap64 (x21_2 + 1)), (by first | rfl | (simp; done) | (simp [*]; done)), (by first | rfl | (simp; done) | (simp [*]; done)), H', ⟨by have := HK1.out; have := HK2.out; omega⟩, by repeat (first | exact Drawn0.refl _ | apply Drawn0.step)⟩
                          · rw [if_neg c12] at H
                            have c12b0 : decide ((rd y139 x21_2) < (rd l0 x11_1)) = false := decide_eq_false c12
                            clear c12
                            have H' := Aside0.mk H
                            clear H
                            have p143 : 0 ≤ (x21_2 : Int) := of_decide_eq_true (by first | (with_reducible assumption) | assumption)
                            have q143 : x21_2 < (y139.length : Int) := of_decide_eq_true (by first | (with_reducible assumption) | assumption)
                            obtain ⟨ad143, e143, hx143_0⟩ := Kd.at_int HR142.out x21_2 p143 q143
                            cases e143
                            replace p143 := eq_true p143
                            replace q143 := eq_true q143
                            go_wp2
                            go_roundg k2
                            case measure => have := HK1.out; have := HK2.out; omega
                            case rel => exact ⟨(x6_2), (wrap64 (x21_2 + 1)), (by first | rfl | (simp; done) | (simp [*]; done)), (by first | rfl | (simp; done) | (simp [*]; done)), H', ⟨by have := HK1.out; have := HK2.out; omega⟩, by repeat (first | exact Drawn0.refl _ | apply Drawn0.step)⟩
                        · rw [if_neg c11] at H
                          exact absurd H (by simp)
                      · rw [if_neg c10] at H
                        exact absurd H (by simp)
                    · rw [if_neg c9] at H
                      have c9b0 : decide (x21_2 < (y139.length : Int)) = false := decide_eq_false c9
                      clear c9
                      have H' := Aside0.mk H
                      clear H
                      go_wp2
                      go_roundg k2
                      case measure => have := HK1.out; have := HK2.out; omega
                      case rel => exact ⟨(wrap64 ((wrap64 (x3_1 * (wrap64 ((l0.length : Int) - x11_1)))) + x6_2)), (wrap64 (x11_1 + 1)), (by first | rfl | (simp; done) | (simp [*]; done)), (by first | rfl | (simp; done) | (simp [*]; done)), H', ⟨by have := HK1.out; have := HK2.out; omega⟩, by repeat (first | exact Drawn0.refl _ | apply Drawn0.step)⟩
              · rw [if_neg c7] at H
                exact absurd H (by simp)
            · rw [if_neg c6] at H
              exact absurd H (by simp)
          · rw [if_neg c4] at H
            exact absurd H (by simp)
        · rw [if_neg c3] at H
          exact absurd H (by simp)
      · rw [if_neg c2] at H
        have c2b0 : decide (x11_1 < (l0.length : Int)) = false := decide_eq_false c2
        clear c2
        obtain rfl := Option.some.inj H
        go_wp2
        go_ret
        exact ⟨by first | rfl | (simp; done) | (simp [*]; done), by repeat (first | exact Drawn0.refl _ | apply Drawn0.step)⟩

/-! ### spec_alCounter_count: function 59 -/
open Classical in
noncomputable def spec_alCounter_count.ev {α : Type} (g : Nat → Option α) : Option α := if h : ∃ k r, g k = some r then g h.choose else none
theorem spec_alCounter_count.ev_some {α : Type} {g : Nat → Option α} {r : α} (h : spec_alCounter_count.ev g = some r) : ∃ k, g k = some r := by
  unfold spec_alCounter_count.ev at h
  split at h
  · exact ⟨_, h⟩
  · cases h
def spec_alCounter_count.good (l : List Int) : Prop := l.Nodup ∧ ∀ x ∈ l, 0 ≤ x ∧ x < (l.length : Int)
/-- Different orders have different ranks. -/
def spec_alCounter_count.inj : Prop := ∀ (q q' : List Int) (k k' : Nat) (a : Int), spec_alCounter_count.good q → spec_alCounter_count.good q' → q.length ≤ 8 → q.length = q'.length → spec_alRank.f k q = some a → spec_alRank.f k' q' = some a → q = q'
def spec_alCounter_count.lp (g : List Int → Option Int) (l : List Int) : Nat → Nat → Int → Bool → Option (Int × Bool)
  | 0, _, s, b => some (s, b)
  | m + 1, i, s, b => if rd l (i : Int) > rd l ((i : Int) + 1) then (spec_alSwap.f l (i : Int)).bind fun q => (g q).bind fun v => spec_alCounter_count.lp g l m (i + 1) (wrap64 (s + v)) false else spec_alCounter_count.lp g l m (i + 1) s b
open Classical in
/-- How many least ladders there are, the falls taken one by one. -/
noncomputable def spec_alCounter_count.g (N n : Nat) : Nat → List Int → Option Int
  | 0, _ => none
  | d + 1, l => if spec_alCounter_count.inj ∧ spec_alCounter_count.good l ∧ l.length = n ∧ n ≤ 8 then (spec_alCounter_count.ev fun k => spec_alRank.f k l).bind fun a => (if 0 ≤ a ∧ a < (N : Int) then (spec_alCounter_count.lp (spec_alCounter_count.g N n d) l (l.length - 1) 0 0 true).bind fun sb => some (if sb.2 = true then 1 else sb.1) else none) else none
theorem spec_alCounter_count.lp_mono {g g' : List Int → Option Int} (h : ∀ q v, g q = some v → g' q = some v) (l : List Int) : ∀ (m i : Nat) (s : Int) (b : Bool) (r : Int × Bool), spec_alCounter_count.lp g l m i s b = some r → spec_alCounter_count.lp g' l m i s b = some r
  | 0, _, _, _, _, e => e
  | m + 1, i, s, b, r, e => by
    simp only [spec_alCounter_count.lp] at e ⊢
    split at e
    · rename_i hc
      rw [if_pos hc]
      obtain ⟨q, hq, e⟩ := Option.bind_eq_some_iff.1 e
      obtain ⟨v, hv, e⟩ := Option.bind_eq_some_iff.1 e
      rw [hq]
      simp only [Option.bind_some]
      rw [h q v hv]
      exact spec_alCounter_count.lp_mono h l m _ _ _ r e
    · rename_i hc
      rw [if_neg hc]
      exact spec_alCounter_count.lp_mono h l m _ _ _ r e
theorem spec_alCounter_count.g_succ (N n : Nat) : ∀ (d : Nat) (l : List Int) (v : Int), spec_alCounter_count.g N n d l = some v → spec_alCounter_count.g N n (d + 1) l = some v
  | 0, _, _, e => by simp [spec_alCounter_count.g] at e
  | d + 1, l, v, e => by
    rw [spec_alCounter_count.g] at e ⊢
    split at e
    · rename_i hc
      rw [if_pos hc]
      obtain ⟨a, ha, e⟩ := Option.bind_eq_some_iff.1 e
      rw [ha]
      simp only [Option.bind_some]
      split at e
      · rename_i h0
        rw [if_pos h0]
        obtain ⟨sb, hsb, e⟩ := Option.bind_eq_some_iff.1 e
        rw [spec_alCounter_count.lp_mono (fun q v => spec_alCounter_count.g_succ N n d q v) l _ _ _ _ _ hsb]
        exact e
      · cases e
    · cases e
theorem spec_alCounter_count.g_le {N n d d' : Nat} (h : d ≤ d') {l : List Int} {v : Int} (e : spec_alCounter_count.g N n d l = some v) : spec_alCounter_count.g N n d' l = some v := by
  induction h with
  | refl => exact e
  | step _ ih => exact spec_alCounter_count.g_succ _ _ _ _ _ ih
theorem spec_alCounter_count.g_one {N n d d' : Nat} {l : List Int} {v v' : Int} (e : spec_alCounter_count.g N n d l = some v) (e' : spec_alCounter_count.g N n d' l = some v') : v = v' := by
  have h1 := spec_alCounter_count.g_le (Nat.le_max_left d d') e
  have h2 := spec_alCounter_count.g_le (Nat.le_max_right d d') e'
  rw [h1] at h2
  exact Option.some.inj h2
/-- What the counter remembers is so. -/
def spec_alCounter_count.Inv (N n : Nat) (kn : List Int) : Prop := ∀ (q : List Int) (k : Nat) (a : Int), spec_alCounter_count.good q → q.length = n → spec_alRank.f k q = some a → 0 ≤ a → a < (N : Int) → 0 ≤ rd kn a → ∃ d, spec_alCounter_count.g N n d q = some (rd kn a)
theorem spec_alCounter_count.inv_new (N n : Nat) : spec_alCounter_count.Inv N n (List.replicate N (-1)) := fun q k a _ _ _ h0 h1 h2 => by
  have h3 : rd (List.replicate N (-1)) a = -1 := by
    show (List.replicate N (-1 : Int)).getD a.toNat 0 = -1
    rw [List.getD_eq_getElem?_getD, List.getElem?_replicate, if_pos (by omega)]; rfl
  omega
theorem spec_alCounter_count.rd_set (kn : List Int) (a b v : Int) (h0 : 0 ≤ a) (h1 : a < kn.length) (hb : 0 ≤ b) : rd (kn.set a.toNat v) b = if b = a then v else rd kn b := by
  show (kn.set a.toNat v).getD b.toNat 0 = _
  rw [List.getD_eq_getElem?_getD, List.getElem?_set]
  by_cases e : b = a
  · subst e
    rw [if_pos rfl, if_pos rfl, if_pos (by omega)]; rfl
  · rw [if_neg (by omega), if_neg e]
    show _ = kn.getD b.toNat 0
    rw [List.getD_eq_getElem?_getD]
theorem spec_alCounter_count.inv_set {N n : Nat} {kn : List Int} (h : spec_alCounter_count.Inv N n kn) (hl : kn.length = N) (hj : spec_alCounter_count.inj) {l : List Int} (hg : spec_alCounter_count.good l) (hn : l.length = n) (hn8 : n ≤ 8) {k : Nat} {a : Int} (hk : spec_alRank.f k l = some a) (h0 : 0 ≤ a) (h1 : a < (N : Int)) {d : Nat} {v : Int} (hv : spec_alCounter_count.g N n d l = some v) : spec_alCounter_count.Inv N n (kn.set a.toNat v) := by
  intro q k' b hq hqn hk' hb0 hb1 hr
  have hs := spec_alCounter_count.rd_set kn a b v h0 (by omega) hb0
  rw [hs] at hr ⊢
  by_cases e : b = a
  · subst e
    rw [if_pos rfl]
    obtain rfl := hj q l k' k b hq hg (by omega) (by omega) hk' hk
    exact ⟨d, hv⟩
  · rw [if_neg e] at hr ⊢
    exact h q k' b hq hqn hk' hb0 hb1 hr
/-- The counter's memory: block B leads to the row at G, and what this remembers is so. -/
structure spec_alCounter_count.Mem (base : Nat) (w : World) (B G N n : Nat) : Prop where mk :: (out : base ≤ G ∧ B ≠ G ∧ ∃ (C : Nat) (kn : List Int), w.heap[B]? = some (.cells #[.slice (some ⟨G, 0, none⟩) N C] 92 (0, 0)) ∧ kn.length = N ∧ Kd.R (Kd.int .i64) 3 w base (fun k_ => k_ = G) (.slice (some ⟨G, 0, none⟩) N C) kn ∧ spec_alCounter_count.Inv N n kn)
theorem spec_alCounter_count.Mem.kept {base : Nat} {w w' : World} {B G N n : Nat} {S : Nat → Prop} (h : spec_alCounter_count.Mem base w B G N n) (hk : Kept w w' S) (hS : ¬ S G) (hS2 : ¬ S B) : spec_alCounter_count.Mem base w' B G N n := by
  obtain ⟨h1, h2, C, kn, h3, h4, h5, h6⟩ := h
  exact ⟨h1, h2, C, kn, blk_kept h3 hk hS2, h4, Kd.R_kept h5 hk (fun k_ e_ h_ => hS (e_ ▸ h_)), h6⟩
theorem spec_alCounter_count.Mem.below {base : Nat} {w w' : World} {B G N n : Nat} (h : spec_alCounter_count.Mem base w B G N n) (hb : Below w.heap.size w w') : spec_alCounter_count.Mem base w' B G N n := h.kept (Kept.of_below hb (fun _ => False)) (fun h => h) (fun h => h)
theorem spec_alCounter_count.Mem.lower {base base' : Nat} {w : World} {B G N n : Nat} (h : spec_alCounter_count.Mem base w B G N n) (hb : base' ≤ base) : spec_alCounter_count.Mem base' w B G N n := by
  obtain ⟨h1, h2, C, kn, h3, h4, h5, h6⟩ := h
  exact ⟨Nat.le_trans hb h1, h2, C, kn, h3, h4, Kd.R_lower h5 hb, h6⟩
theorem spec_alCounter_count.Mem.lt {base : Nat} {w : World} {B G N n : Nat} (hN : 0 < N) (h : spec_alCounter_count.Mem base w B G N n) : B < w.heap.size ∧ G < w.heap.size := by
  obtain ⟨h1, h2, C, kn, h3, h4, h5, h6⟩ := h
  exact ⟨blk_lt h3, Kd.R_lt h5 G rfl⟩
set_option maxHeartbeats 8000000 in
set_option maxRecDepth 100000 in
theorem spec_alCounter_count.calls_g (N n d : Nat) : ∀ (B G : Nat) (A0 : Option Addr) (c0 : Nat) (l0 : List Int) (r : Int) (w0 w : World) (hB : Below w0.heap.size w0 w) (hm : spec_alCounter_count.Mem w0.heap.size w B G N n)
    (hr0 : ∀ W', Kept w W' (fun k_ => k_ = G) → Kd.C (Kd.int .i64) W' A0 l0.length l0) (hc0 : l0.length ≤ c0) (h : spec_alCounter_count.g N n d l0 = some r),
    Calls Try.prog 59 #[.pointer (some ⟨B, 0, none⟩), .slice A0 l0.length c0] w fun e w' => e = .returned (.int .i64 r) ∧ spec_alCounter_count.Mem w0.heap.size w' B G N n ∧ Below w0.heap.size w0 w' ∧ Kept w w' (fun k_ => k_ = G) := by
  induction d with
  | zero => intro B G A0 c0 l0 r w0 w _ _ _ _ h; simp [spec_alCounter_count.g] at h
  | succ d ih =>
    intro B G A0 c0 l0 r w0 w hB hm hr0 hc0 h
    have h0 := h
    rw [spec_alCounter_count.g] at h
    split at h
    · rename_i hcond
      obtain ⟨hj, hg, hln, hn8⟩ := hcond
      obtain ⟨a, ha, h⟩ := Option.bind_eq_some_iff.1 h
      obtain ⟨ka, ha⟩ := spec_alCounter_count.ev_some ha
      split at h
      · rename_i hab
        obtain ⟨ha0, ha1⟩ := hab
        obtain ⟨⟨rs, rb⟩, hlp, h⟩ := Option.bind_eq_some_iff.1 h
        have hrr : r = if rb = true then 1 else rs := (Option.some.inj h).symm
        obtain ⟨hGb, hBG, C, kn, hblk, hkl, hrow, hinv⟩ := hm.out
        have HA := Aside0.mk ha
        have HJ := Aside0.mk hj
        have HG := Aside0.mk hg
        have HLN := Aside0.mk (And.intro hln hn8)
        have HLP := Aside0.mk hlp
        have HRR := Aside0.mk hrr
        have H0 := Aside0.mk h0
        have IH := Aside0.mk ih
        have HR := Aside0.mk hr0
        have HC := Aside0.mk hc0
        have HB := Aside0.mk hB
        have HM := Aside0.mk hm
        have HK := Aside0.mk (Kept.refl w (fun k_ => k_ = G))
        have HAB := Aside0.mk (And.intro ha0 ha1)
        have hcellB := blk_cell hblk 0
        obtain ⟨hx0, hf0⟩ := Kd.R_celln 0 hrow a ha0 ha1
        obtain ⟨v, hv⟩ : ∃ v, v = rd kn a := ⟨_, rfl⟩
        have hx1 : w.cell? ⟨G, a.toNat, none⟩ = some (.int .i64 v) := by rw [hv]; exact hx0
        have HINV := Aside0.mk (fun h_ => hinv l0 ka a hg hln ha ha0 ha1 h_)
        rw [← hv] at HINV
        have hu1 := Try.underlying92
        have p5 := eq_true ha0
        have q5 := eq_true ha1
        clear ha hj hg hln hn8 hlp hrr h0 ih hr0 hc0 hB hm ha0 ha1 hrow hinv hblk hx0 hkl h hGb hBG hv
        by_cases hh : 0 ≤ v
        · obtain ⟨d1, hd1⟩ := HINV.out hh
          obtain rfl := spec_alCounter_count.g_one hd1 H0.out
          have hh0 : decide (0 ≤ v) = true := decide_eq_true hh
          have hh1 : decide (v ≥ 0) = true := decide_eq_true hh
          clear hd1 hh
          go_enter Try.func59, Try.ntmps59
          go_wp2_with (go_at_call 94; (with_reducible refine (spec_alRank.calls ka _ _ l0 a _ ?side1 HC.out HA.out).mono ?_); (case side1 => exact HR.out _ (by repeat (first | (with_reducible first | exact HK.out | apply Kept.alloc | apply Kept.drewN | apply Kept.drew) | exact HK.out))); rintro e w' ⟨rfl, ⟨nd, rfl⟩⟩)
          go_ret
          exact ⟨rfl, HM.out.below (pw_below_drewN (Below.refl _ _) nd), pw_below_drewN HB.out nd, Kept.drewN HK.out nd⟩
        · have hh0 : decide (0 ≤ v) = false := decide_eq_false hh
          have hh1 : decide (v ≥ 0) = false := decide_eq_false hh
          clear hh
          go_enter Try.func59, Try.ntmps59
          go_wp2_with (go_at_call 94; (with_reducible refine (spec_alRank.calls ka _ _ l0 a _ ?side1 HC.out HA.out).mono ?_); (case side1 => exact HR.out _ (by repeat (first | (with_reducible first | exact HK.out | apply Kept.alloc | apply Kept.drewN | apply Kept.drew) | exact HK.out))); rintro e w' ⟨rfl, ⟨nd, rfl⟩⟩)
          clear hcellB hx1 hf0 hh0 hh1 HINV
          go_loopg [6, 7, 8] (l0.length - 1) (fun gg v6 v7 v8 w' => ∃ (i : Nat) (x8 s : Int) (b : Bool), v6 = .int .i64 s ∧ v7 = .bool b ∧ v8 = .int .i64 x8 ∧ Aside0 (x8 = (i : Int)) ∧ i ≤ l0.length - 1 ∧ l0.length - 1 - i ≤ gg ∧ Aside0 (spec_alCounter_count.lp (spec_alCounter_count.g N n d) l0 (l0.length - 1 - i) i s b = some (rs, rb)) ∧ Aside0 (spec_alCounter_count.Mem w0.heap.size w' B G N n) ∧ Aside0 (Below w0.heap.size w0 w') ∧ Aside0 (Kept w w' (fun k_ => k_ = G)))
          case atStart => exact ⟨0, 0, 0, true, rfl, rfl, rfl, ⟨rfl⟩, Nat.zero_le _, by omega, ⟨HLP.out⟩, ⟨HM.out.below (pw_below_drewN (Below.refl _ _) nd)⟩, ⟨pw_below_drewN HB.out nd⟩, ⟨Kept.drewN HK.out nd⟩⟩
          case round =>
            clear HLP
            obtain ⟨i, x8, s, b, rfl, rfl, rfl, HX8, hi, hgk, HLP, HM2, HB2, HK2⟩ := hrel
            obtain ⟨ji, hji⟩ : ∃ j_ : Int, wrap64 (x8 + 1) = j_ := ⟨_, rfl⟩
            have hjv : ji = (i : Int) + 1 := by have h1 := HX8.out; have h2 := HLN.out; rw [← hji]; unfold wrap64; omega
            have hjiw : (IntKind.i64.wrap (x8 + 1)) = ji := (i64_w _).trans hji
            have HJV := Aside0.mk hjv
            clear hjv
            by_cases hlt : i + 1 < l0.length
            · have hlp := HLP.out
              rw [show l0.length - 1 - i = (l0.length - 1 - (i + 1)) + 1 by omega, spec_alCounter_count.lp] at hlp
              have p171 : 0 ≤ x8 := by have := HX8.out; omega
              have q171 : x8 < (l0.length : Int) := by have := HX8.out; omega
              have p172 : 0 ≤ ji := by have := HJV.out; omega
              have q172 : ji < (l0.length : Int) := by have := HJV.out; omega
              obtain ⟨ad, ead, hx0⟩ := Kd.at_int (HR.out wr HK2.out) x8 p171 q171
              cases ead
              obtain ⟨ad2, ead2, hy0⟩ := Kd.at_int (HR.out wr HK2.out) ji p172 q172
              obtain rfl : ad = ad2 := (by injection ead2)
              obtain ⟨x, hx⟩ : ∃ x, x = rd l0 x8 := ⟨_, rfl⟩
              obtain ⟨y, hy⟩ : ∃ y, y = rd l0 ji := ⟨_, rfl⟩
              rw [← hx] at hx0
              rw [← hy] at hy0
              rw [show (i : Int) + 1 = ji from HJV.out.symm, show ((i : Nat) : Int) = x8 from HX8.out.symm, ← hx, ← hy] at hlp
              clear hx hy HLP ead2
              have hq3 : decide (ji < (l0.length : Int)) = true := decide_eq_true q172
              replace p171 := eq_true p171
              replace q171 := eq_true q171
              replace p172 := eq_true p172
              replace q172 := eq_true q172
              by_cases hc : x > y
              · rw [if_pos hc] at hlp
                obtain ⟨q, hq, hlp⟩ := Option.bind_eq_some_iff.1 hlp
                obtain ⟨v2, hv2, hlp⟩ := Option.bind_eq_some_iff.1 hlp
                have HQ := Aside0.mk hq
                have HV2 := Aside0.mk hv2
                have HLP := Aside0.mk hlp
                have hc0 : decide (y < x) = true := decide_eq_true hc
                clear hq hv2 hlp hc
                go_wp2_with (first | (go_at_call 66; (with_reducible refine (spec_alSwap.calls _ _ l0 x8 q _ ?side1 HC.out HQ.out).mono ?_); (case side1 => exact HR.out _ (by repeat (first | (with_reducible first | exact HK2.out | apply Kept.alloc | apply Kept.drewN | apply Kept.drew) | exact HK2.out))); rintro e w4 ⟨v4, rfl, ho4, hb4_⟩; have hb4 := below_step (w := wr) (by repeat (first | exact Below.refl _ _ | apply pw_below_drewN | apply below_drew1)) hb4_; clear hb4_; have HQR := Aside0.mk (Kd.R_mono (Kd.R_bound ho4) (fun k_ h_ => (show k_ ≠ G from fun e_ => by have h1_ := (HM2.out.lt (by have := HAB.out; omega)).2; have h2_ := h_.2.1; exact absurd (Nat.lt_of_lt_of_le h1_ h2_) (by rw [e_]; exact Nat.lt_irrefl G)))); have HB4 := Aside0.mk (below_then HB2.out HB2.out.size hb4); have HK4 := Aside0.mk (HK2.out.below hb4); have HM4 := Aside0.mk (HM2.out.below hb4); clear hb4 ho4; obtain ⟨A4, c4, e4⟩ := Kd.R_slice HQR.out; subst e4) | (go_at_call 59; (with_reducible refine (IH.out B G A4 c4 q v2 w0 _ ?side1 ?side2 ?side3 ?side4 HV2.out).mono ?_); (case side1 => exact HB4.out); (case side2 => exact HM4.out); (case side3 => exact Kd.C_kept_own HQR.out (fun _ h1_ h2_ => h1_ h2_)); (case side4 => exact (Kd.R_reads' HQR.out).2.1); rintro e w5 ⟨rfl, hm5, hb5, hk5⟩; have HM5 := Aside0.mk hm5; have HB5 := Aside0.mk hb5; have HK5 := Aside0.mk (HK4.out.then_ hk5 (fun _ h_ => .inl h_)); clear hm5 hb5 hk5))
                repeat (go_quiet (first | (go_at_call 66; (with_reducible refine (spec_alSwap.calls _ _ l0 x8 q _ ?side1 HC.out HQ.out).mono ?_); (case side1 => exact HR.out _ (by repeat (first | (with_reducible first | exact HK2.out | apply Kept.alloc | apply Kept.drewN | apply Kept.drew) | exact HK2.out))); rintro e w4 ⟨v4, rfl, ho4, hb4_⟩; have hb4 := below_step (w := wr) (by repeat (first | exact Below.refl _ _ | apply pw_below_drewN | apply below_drew1)) hb4_; clear hb4_; have HQR := Aside0.mk (Kd.R_mono (Kd.R_bound ho4) (fun k_ h_ => (show k_ ≠ G from fun e_ => by have h1_ := (HM2.out.lt (by have := HAB.out; omega)).2; have h2_ := h_.2.1; exact absurd (Nat.lt_of_lt_of_le h1_ h2_) (by rw [e_]; exact Nat.lt_irrefl G)))); have HB4 := Aside0.mk (below_then HB2.out HB2.out.size hb4); have HK4 := Aside0.mk (HK2.out.below hb4); have HM4 := Aside0.mk (HM2.out.below hb4); clear hb4 ho4; obtain ⟨A4, c4, e4⟩ := Kd.R_slice HQR.out; subst e4) | (go_at_call 59; (with_reducible refine (IH.out B G A4 c4 q v2 w0 _ ?side1 ?side2 ?side3 ?side4 HV2.out).mono ?_); (case side1 => exact HB4.out); (case side2 => exact HM4.out); (case side3 => exact Kd.C_kept_own HQR.out (fun _ h1_ h2_ => h1_ h2_)); (case side4 => exact (Kd.R_reads' HQR.out).2.1); rintro e w5 ⟨rfl, hm5, hb5, hk5⟩; have HM5 := Aside0.mk hm5; have HB5 := Aside0.mk hb5; have HK5 := Aside0.mk (HK4.out.then_ hk5 (fun _ h_ => .inl h_)); clear hm5 hb5 hk5)); try go_wp2_with (first | (go_at_call 66; (with_reducible refine (spec_alSwap.calls _ _ l0 x8 q _ ?side1 HC.out HQ.out).mono ?_); (case side1 => exact HR.out _ (by repeat (first | (with_reducible first | exact HK2.out | apply Kept.alloc | apply Kept.drewN | apply Kept.drew) | exact HK2.out))); rintro e w4 ⟨v4, rfl, ho4, hb4_⟩; have hb4 := below_step (w := wr) (by repeat (first | exact Below.refl _ _ | apply pw_below_drewN | apply below_drew1)) hb4_; clear hb4_; have HQR := Aside0.mk (Kd.R_mono (Kd.R_bound ho4) (fun k_ h_ => (show k_ ≠ G from fun e_ => by have h1_ := (HM2.out.lt (by have := HAB.out; omega)).2; have h2_ := h_.2.1; exact absurd (Nat.lt_of_lt_of_le h1_ h2_) (by rw [e_]; exact Nat.lt_irrefl G)))); have HB4 := Aside0.mk (below_then HB2.out HB2.out.size hb4); have HK4 := Aside0.mk (HK2.out.below hb4); have HM4 := Aside0.mk (HM2.out.below hb4); clear hb4 ho4; obtain ⟨A4, c4, e4⟩ := Kd.R_slice HQR.out; subst e4) | (go_at_call 59; (with_reducible refine (IH.out B G A4 c4 q v2 w0 _ ?side1 ?side2 ?side3 ?side4 HV2.out).mono ?_); (case side1 => exact HB4.out); (case side2 => exact HM4.out); (case side3 => exact Kd.C_kept_own HQR.out (fun _ h1_ h2_ => h1_ h2_)); (case side4 => exact (Kd.R_reads' HQR.out).2.1); rintro e w5 ⟨rfl, hm5, hb5, hk5⟩; have HM5 := Aside0.mk hm5; have HB5 := Aside0.mk hb5; have HK5 := Aside0.mk (HK4.out.then_ hk5 (fun _ h_ => .inl h_)); clear hm5 hb5 hk5)))
                go_roundg (l0.length - 1 - (i + 1))
                case measure => omega
                case rel => exact ⟨i + 1, ji, wrap64 (s + v2), false, (by first | rfl | (simp; done)), rfl, (by first | rfl | (simp [*]; done)), ⟨by have := HJV.out; omega⟩, by omega, by omega, HLP, HM5, HB5, HK5⟩
              · rw [if_neg hc] at hlp
                have HLP := Aside0.mk hlp
                have hc0 : decide (y < x) = false := decide_eq_false hc
                clear hlp hc
                go_wp2
                repeat (go_quiet (fail); try go_wp2)
                go_roundg (l0.length - 1 - (i + 1))
                case measure => omega
                case rel => exact ⟨i + 1, ji, s, b, rfl, rfl, (by first | rfl | (simp [*]; done)), ⟨by have := HJV.out; omega⟩, by omega, by omega, HLP, ⟨HM2.out.below (by repeat (first | exact Below.refl _ _ | apply pw_below_drewN | apply below_drew1))⟩, ⟨by repeat (first | exact HB2.out | apply pw_below_drewN | apply below_drew1)⟩, ⟨(by repeat (first | (with_reducible first | exact HK2.out | apply Kept.alloc | apply Kept.drewN | apply Kept.drew) | exact HK2.out))⟩⟩
            · have hltz : ¬ ji < (l0.length : Int) := by have := HJV.out; omega
              have hq3 : decide (ji < (l0.length : Int)) = false := decide_eq_false hltz
              have hlp := HLP.out
              rw [show l0.length - 1 - i = 0 by omega, spec_alCounter_count.lp] at hlp
              simp only [Option.some.injEq, Prod.mk.injEq] at hlp
              obtain ⟨rfl, rfl⟩ := hlp
              clear HLP
              obtain ⟨hGb, hBG, C2, kn2, hblk, hkl, hrow, hinv⟩ := HM2.out
              have hcellB := blk_cell hblk 0
              obtain ⟨hx0, hf0⟩ := Kd.R_celln 0 hrow a HAB.out.1 HAB.out.2
              have HP7 := Aside0.mk (Kd.R_putg hrow a r)
              have HS2 := Aside0.mk (show _ ∧ _ ∧ _ ∧ _ ∧ _ ∧ _ from ⟨hGb, hBG, hblk, hkl, hrow, hinv⟩)
              clear hGb hBG hblk hkl hrow hinv
              cases b with
              | true =>
                have hr1 : r = 1 := HRR.out
                subst hr1
                go_wp2_with (first | ((with_reducible refine gate_store (t := 3) (p := 57) rfl ?_); refine store_event (t := 3) (p := 57) (v := ?vo) (w1 := (wr.setCell ⟨G, a.toNat, none⟩ (.int .i64 1))) ?hg ?ho ?hn ?hr ?_; (case ho => rfl); (case hg => rfl); (case hn => rfl); (case hr => first | (go_simp; done) | (go_simp; rfl)); intro w8 hw; have hg_ : wr.grownBy w8 (some G) := (by rw [hw]; exact HP7.out.2); have n0_ := Aside0.mk (show spec_alCounter_count.Mem w0.heap.size w8 B G N n from ⟨HS2.out.1, HS2.out.2.1, C2, kn2.set a.toNat (1), by rw [hw]; exact blk_far HS2.out.2.2.1 HS2.out.2.1 _, by rw [List.length_set]; exact HS2.out.2.2.2.1, by rw [hw]; exact HP7.out.1, spec_alCounter_count.inv_set HS2.out.2.2.2.2.2 HS2.out.2.2.2.1 HJ.out HG.out HLN.out.1 HLN.out.2 HA.out HAB.out.1 HAB.out.2 H0.out⟩); have n1_ := Aside0.mk (HB2.out.grown hg_ HB2.out.size (fun k_ h_ => by cases h_; exact HS2.out.1)); have n2_ := Aside0.mk (Kept.of_grown hg_ HK2.out (fun k_ h_ => by cases h_; exact .inl rfl)); clear hg_ hw))
                go_ret
                exact ⟨rfl, n0_.out, n1_.out, n2_.out⟩
              | false =>
                have hr1 : r = s := HRR.out
                subst hr1
                go_wp2_with (first | ((with_reducible refine gate_store (t := 3) (p := 57) rfl ?_); refine store_event (t := 3) (p := 57) (v := ?vo) (w1 := (wr.setCell ⟨G, a.toNat, none⟩ (.int .i64 r))) ?hg ?ho ?hn ?hr ?_; (case ho => rfl); (case hg => rfl); (case hn => rfl); (case hr => first | (go_simp; done) | (go_simp; rfl)); intro w8 hw; have hg_ : wr.grownBy w8 (some G) := (by rw [hw]; exact HP7.out.2); have n0_ := Aside0.mk (show spec_alCounter_count.Mem w0.heap.size w8 B G N n from ⟨HS2.out.1, HS2.out.2.1, C2, kn2.set a.toNat (r), by rw [hw]; exact blk_far HS2.out.2.2.1 HS2.out.2.1 _, by rw [List.length_set]; exact HS2.out.2.2.2.1, by rw [hw]; exact HP7.out.1, spec_alCounter_count.inv_set HS2.out.2.2.2.2.2 HS2.out.2.2.2.1 HJ.out HG.out HLN.out.1 HLN.out.2 HA.out HAB.out.1 HAB.out.2 H0.out⟩); have n1_ := Aside0.mk (HB2.out.grown hg_ HB2.out.size (fun k_ h_ => by cases h_; exact HS2.out.1)); have n2_ := Aside0.mk (Kept.of_grown hg_ HK2.out (fun k_ h_ => by cases h_; exact .inl rfl)); clear hg_ hw))
                go_ret
                exact ⟨rfl, n0_.out, n1_.out, n2_.out⟩
      · cases h
    · cases h
theorem spec_alCounter_count.Mem.made {n : Nat} {w w' : World} {v : Value} (h : spec_alNew.Made n w w' v) : ∃ B G : Nat, v = .pointer (some ⟨B, 0, none⟩) ∧ w.heap.size ≤ B ∧ w.heap.size ≤ G ∧ spec_alCounter_count.Mem w.heap.size w' B G (spec_alNew.fc n) n := by
  obtain ⟨B, G, C, h1, h2, h3, h4, h5⟩ := h
  exact ⟨B, G, h1, by omega, h2, h2, by omega, C, _, h4, List.length_replicate, h5, spec_alCounter_count.inv_new _ _⟩
noncomputable def spec_alCounter_count.f (N : Nat) (l0 : List Int) : Option Int := spec_alCounter_count.g N l0.length 16 l0

end
end Go.Proofs.Ytnddmmjofpfmfaa.PLc
