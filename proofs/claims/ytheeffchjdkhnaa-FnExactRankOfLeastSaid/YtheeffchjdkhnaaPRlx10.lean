-- Written for this claim by a program of this session (myprint.py) over the kit's printer.
import Derived.Test.YtheeffchjdkhnaaPRlx0
import Derived.Test.YtheeffchjdkhnaaPRlx7
import Derived.Test.YtheeffchjdkhnaaPRlx8
import Derived.Test.YtheeffchjdkhnaaPRlx9
namespace Go.Proofs.Ytheeffchjdkhnaa.PRl
noncomputable section
open Go.RowKit Go.Proofs.YtheeffchjdkhnaaW.PrintWords Go.Proofs.YtheeffchjdkhnaaW.PrintLast Go.Proofs.YtheeffchjdkhnaaW.PrintMore
attribute [local go_sem] max2_int min2_int max_two min_two max_three min_three max_four min_four   -- for this text's walks alone
set_option linter.unusedVariables false
set_option linter.unusedSimpArgs false

/-! ### impl_needless: function 68 -/
def impl_needless.f (k : Nat) (a0_0 : Int) (l0_1 : List Int) : Option (Int) := (impl_result.f k a0_0 l0_1).bind fun t230 => ((impl_inversions.f k t230).bind fun t233 => (some (wrap64 ((l0_1.length : Int) - t233))))
theorem impl_needless.mono : ∀ a0 a1 k, LeO (impl_needless.f k a0 a1) (impl_needless.f (k + 1) a0 a1) := by
  intro a0 a1 k
  unfold impl_needless.f
  repeat' first
      | (with_reducible exact impl_inversions.mono _ _)
      | (with_reducible exact impl_result.mono _ _ _)
      | (with_reducible exact LeO.refl _)
      | (with_reducible exact LeO.none _)
      | (with_reducible refine LeO.ite ?_ ?_)
      | (with_reducible refine LeO.bind ?_ (fun _ => ?_))
      | exact impl_inversions.mono _ _
      | exact impl_result.mono _ _ _
      | exact LeO.none _
      | refine LeO.ite ?_ ?_
      | refine LeO.bind ?_ (fun _ => ?_)
def impl_needless.T1 : Bool × List (List Nat × List Nat) := (true, [([], []), ([0], [0]), ([1], [1]), ([], []), ([3], [3]), ([], []), ([5], [5]), ([4, 6], [4, 6]), ([7, 7], [7]), ([2, 8], [2, 8]), ([9, 8, 0, 1, 2, 3, 4, 5, 6, 7, 8, 9], [9])])
def impl_needless.B1 : List Nat := [0, 1, 3, 0, 8, 0, 32, 120, 248, 511, 1023]
theorem impl_needless.tab1 : rtab .any (opsOf Try.f68 1) = impl_needless.T1 := by kernel_rfl
theorem impl_needless.bits1 : waitsOk impl_needless.T1.2 impl_needless.B1 = true := by kernel_rfl
set_option maxHeartbeats 8000000 in
set_option maxRecDepth 100000 in
theorem impl_needless.calls (k : Nat) (a0_0 : Int) (A0_1 : Option Addr) (c0_1 : Nat) (l0_1 : List Int) (r : Int) (w : World) (hr0_1 : Kd.C (Kd.int .i64) w A0_1 l0_1.length l0_1) (hc0_1 : l0_1.length ≤ c0_1) (h : impl_needless.f k a0_0 l0_1 = some r) :
    Calls Try.prog 68 #[.agg #[.int .i64 a0_0, .slice A0_1 l0_1.length c0_1]] w fun e w' => e = .returned (.int .i64 r) ∧ Below w.heap.size w w' := by
  have hu31 := Try.underlying31
  have HR0_1 := Aside0.mk hr0_1
  have HC0_1 := Aside0.mk hc0_1
  clear hr0_1 hc0_1
  have HB := Aside0.mk (Below.refl w.heap.size w)
  have H : ((impl_result.f k a0_0 l0_1).bind fun t230 => ((impl_inversions.f k t230).bind fun t233 => (some (wrap64 ((l0_1.length : Int) - t233))))) = some r := h
  clear h
  replace H := Option.bind_eq_some_iff.mp H
  obtain ⟨t230, A20, H⟩ := H
  replace H : ((impl_inversions.f k t230).bind fun t233 => (some (wrap64 ((l0_1.length : Int) - t233)))) = some r := H
  have A2 := Aside0.mk A20
  clear A20
  replace H := Option.bind_eq_some_iff.mp H
  obtain ⟨t233, A30, H⟩ := H
  replace H : (some (wrap64 ((l0_1.length : Int) - t233))) = some r := H
  have A3 := Aside0.mk A30
  clear A30
  obtain rfl := Option.some.inj H
  go_enter Try.func68, Try.ntmps68
  try go_wp2_with (first | ((with_reducible refine gate_dst (N := 1) rfl ?_); refine box_event ?hg (N := 1) ?hd (cs := #[.int .i64 a0_0, .slice A0_1 l0_1.length c0_1]) (t := 31) ?hr ?_; (case hd => rfl); (case hg => rfl); (case hr => first | (go_simp; done) | (go_simp; rfl)); intro gb229 hg w4 hbox hb; have n0_ := Aside0.mk (below_step (by repeat (first | (with_reducible first | exact HB.out | apply below_alloc | apply pw_below_drewN | apply below_drew1) | exact HB.out)) hb); have n1_ := Aside0.mk (hbox); have n2_ := Aside0.mk ((by rw [hg]; exact (below_size (by repeat (first | (with_reducible first | exact HB.out | apply below_alloc | apply pw_below_drewN | apply below_drew1) | exact HB.out))) : w.heap.size ≤ gb229)); have n3_ := Aside0.mk ((by rw [hg]; exact (below_size (by repeat (first | (with_reducible first | exact HB.out | apply below_alloc | apply pw_below_drewN | apply below_drew1) | exact HB.out))) : w.heap.size ≤ gb229)); clear HB; have HB := n0_; have BK229 := n1_; have GW229 := n2_; have GE229 := n3_; clear n0_ n1_ n2_ n3_; clear hb hbox hg))
  have n0_ := Aside0.mk (blk_drew BK229.out)
  have n1_ := Aside0.mk (below_drew1 HB.out)
  clear BK229
  clear HB
  have BK229 := n0_
  have HB := n1_
  clear n0_ n1_
  refine start_ (n := 11) (S := fun w' => w'.cell? ⟨gb229, 0, none⟩ = some (.int .i64 a0_0) ∧ w'.cell? ⟨gb229, 1, none⟩ = some (.slice A0_1 l0_1.length c0_1)) (ds := []) #[false, false, false, false, false, false, false, false, false, false, false] (by kernel_rfl) rfl rfl ⟨(blk_cell BK229.out 0).trans rfl, (blk_cell BK229.out 1).trans rfl⟩ (fun hHeld => ?_); refine with_tabW impl_needless.tab1 impl_needless.bits1 (fun HT_ HW_ => ?_)
  generalize w4.drew = w5 at BK229 HB hHeld ⊢
  refine pure_ (i := 0) (N := some 3) (v := ?_) (a' := ?_) #[true, false, false, false, false, false, false, false, false, false, false] rfl rfl (any_of HT_.out (by kernel_rfl)) (fun _ _ _ h => h) (Or.inl ⟨by rfl, ?_⟩) ?_ ?_
  rotate_left
  · intro w'
    go_simp
    with_reducible rfl
  rotate_left
  · simp only [Act.put, List.setIfInBounds_toArray, List.set_cons_zero, List.set_cons_succ, i64_w, i32_w]
    rfl
  refine pure_ (i := 3) (N := some 6) (v := ?_) (a' := ?_) #[true, false, false, true, false, false, false, false, false, false, false] rfl rfl (any_of HT_.out (by kernel_rfl)) (fun _ _ _ h => h) (Or.inl ⟨by rfl, ?_⟩) ?_ ?_
  rotate_left
  · intro w'
    go_simp
    with_reducible rfl
  rotate_left
  · simp only [Act.put, List.setIfInBounds_toArray, List.set_cons_zero, List.set_cons_succ, i64_w, i32_w]
    rfl
  refine pure_ (i := 5) (N := some 8) (v := ?_) (a' := ?_) #[true, false, false, true, false, true, false, false, false, false, false] rfl rfl (any_of HT_.out (by kernel_rfl)) (fun _ _ _ h => h) (Or.inl ⟨by rfl, ?_⟩) ?_ ?_
  rotate_left
  · intro w'
    go_simp
    with_reducible rfl
  rotate_left
  · simp only [Act.put, List.setIfInBounds_toArray, List.set_cons_zero, List.set_cons_succ, i64_w, i32_w]
    rfl
  refine take_ (i := 1) (N := some 4) (v := ?_) (a' := ?_) #[true, true, false, true, false, true, false, false, false, false, false] rfl rfl (take_ofW HT_.out HW_.out (by kernel_rfl)) (fun _ _ _ h => h) (Or.inl ⟨by rfl, ?_⟩) hHeld ?_ ?_
  rotate_left
  · rintro w' ⟨s0, s1⟩
    go_simp
    with_reducible rfl
  rotate_left
  · simp only [Act.put, List.setIfInBounds_toArray, List.set_cons_zero, List.set_cons_succ, i64_w, i32_w]
    rfl
  refine pure_ (i := 2) (N := some 5) (v := ?_) (a' := ?_) #[true, true, true, true, false, true, false, false, false, false, false] rfl rfl (any_of HT_.out (by kernel_rfl)) (fun _ _ _ h => h) (Or.inl ⟨by rfl, ?_⟩) ?_ ?_
  rotate_left
  · intro w'
    go_simp
    with_reducible rfl
  rotate_left
  · simp only [Act.put, List.setIfInBounds_toArray, List.set_cons_zero, List.set_cons_succ, i64_w, i32_w]
    rfl
  refine take_ (i := 4) (N := some 7) (v := ?_) (a' := ?_) #[true, true, true, true, true, true, false, false, false, false, false] rfl rfl (take_ofW HT_.out HW_.out (by kernel_rfl)) (fun _ _ _ h => h) (Or.inl ⟨by rfl, ?_⟩) hHeld ?_ ?_
  rotate_left
  · rintro w' ⟨s0, s1⟩
    go_simp
    with_reducible rfl
  rotate_left
  · simp only [Act.put, List.setIfInBounds_toArray, List.set_cons_zero, List.set_cons_succ, i64_w, i32_w]
    rfl
  refine take_ (i := 6) (N := some 9) (v := ?_) (a' := ?_) #[true, true, true, true, true, true, true, false, false, false, false] rfl rfl (take_ofW HT_.out HW_.out (by kernel_rfl)) (fun _ _ _ h => h) (Or.inl ⟨by rfl, ?_⟩) hHeld ?_ ?_
  rotate_left
  · rintro w' ⟨s0, s1⟩
    go_simp
    with_reducible rfl
  rotate_left
  · simp only [Act.put, List.setIfInBounds_toArray, List.set_cons_zero, List.set_cons_succ, i64_w, i32_w]
    rfl
  refine one_ (i := 7) (N := some 10) #[true, true, true, true, true, true, true, true, false, false, false] rfl rfl (one_of HT_.out (by kernel_rfl)) (by decide) (fun K hK => ?_)
  refine goes_ Try.func51 (by kernel_rfl) rfl #[.int .i64 a0_0, .slice A0_1 l0_1.length c0_1] (by rfl) rfl rfl (by (try simp only [List.map_toArray, List.map_cons, List.map_nil]); first | done | rfl | (simp only [List.length_drop, List.length_take]; rfl)) ?_
  with_reducible refine (impl_result.calls k a0_0 _ _ l0_1 t230 _ ?side1 ?side2 A2.out).mono ?_
  (case side1 => repeat (first | exact (Kd.C_below HR0_1.out HB.out) | (with_reducible refine Kd.C_alloc ?_ _) | (with_reducible refine Kd.C_drewN ?_ _) | (with_reducible refine Kd.C_drew ?_)))
  (case side2 => exact HC0_1.out)
  rintro e w6 ⟨v231, rfl, ho0, hb⟩
  refine ⟨_, rfl, ?_⟩
  have n0_ := Aside0.mk (Kd.R_lower ho0 (below_size (by repeat (first | (with_reducible first | exact HB.out | apply below_alloc | apply pw_below_drewN | apply below_drew1 | refine below_set ?_ GE229.out) | exact HB.out))))
  have n1_ := Aside0.mk (blk_below (g := gb229) (o := .cells #[.int .i64 a0_0, .slice A0_1 l0_1.length c0_1] 31 (0, 0)) (by (with_reducible repeat (first | refine blk_drewN ?_ _ | refine blk_drew ?_ | refine blk_alloc ?_ _)); exact BK229.out) hb)
  have n2_ := Aside0.mk (below_step (by repeat (first | (with_reducible first | exact HB.out | apply below_alloc | apply pw_below_drewN | apply below_drew1 | refine below_set ?_ GE229.out) | exact HB.out)) hb)
  clear BK229
  clear HB
  have HO232 := n0_
  have BK229 := n1_
  have HB := n2_
  clear n0_ n1_ n2_
  (try clear hb)
  (try clear hb2)
  (try clear hk)
  (try clear hi)
  (try clear ho0)
  obtain ⟨Ao7, co7, eo7⟩ := Kd.R_slice HO232.out
  (first | subst eo7 | (injection eo7 with f1_ f2_ f3_; have f4_ := f1_.symm; have f5_ := f3_.symm; clear f1_ f2_ f3_; subst f4_; subst f5_))
  refine hK.out _ _ ⟨(blk_cell BK229.out 0).trans rfl, (blk_cell BK229.out 1).trans rfl⟩ (fun hHeld => ?_)
  clear hK K
  refine norm_ (a' := ?_) ?_ ?_
  rotate_left
  · show Act.put _ (some 10) _ = _
    simp only [Act.put, List.setIfInBounds_toArray, List.set_cons_zero, List.set_cons_succ, i64_w, i32_w]
    rfl
  refine one_ (i := 8) (N := some 11) #[true, true, true, true, true, true, true, true, true, false, false] rfl rfl (one_of HT_.out (by kernel_rfl)) (by decide) (fun K hK => ?_)
  refine goes_ Try.func58 (by kernel_rfl) rfl #[.slice Ao7 t230.length co7] (by rfl) rfl rfl (by (try simp only [List.map_toArray, List.map_cons, List.map_nil]); first | done | rfl | (simp only [List.length_drop, List.length_take]; rfl)) ?_
  with_reducible refine (impl_inversions.calls k _ _ t230 t233 _ ?side1 ?side2 A3.out).mono ?_
  (case side1 => repeat (first | exact (Kd.R_reads' HO232.out).2.2 | (with_reducible refine Kd.C_alloc ?_ _) | (with_reducible refine Kd.C_drewN ?_ _) | (with_reducible refine Kd.C_drew ?_)))
  (case side2 => exact (Kd.R_reads' HO232.out).2.1)
  rintro e w8 ⟨rfl, hb⟩
  refine ⟨_, rfl, ?_⟩
  have n0_ := Aside0.mk (Kd.R_below (by (with_reducible repeat (first | apply Kd.R_alloc | apply Kd.R_drewN | apply Kd.R_drew)); exact HO232.out) hb)
  have n1_ := Aside0.mk (blk_below (g := gb229) (o := .cells #[.int .i64 a0_0, .slice A0_1 l0_1.length c0_1] 31 (0, 0)) (by (with_reducible repeat (first | refine blk_drewN ?_ _ | refine blk_drew ?_ | refine blk_alloc ?_ _)); exact BK229.out) hb)
  have n2_ := Aside0.mk (below_step (by repeat (first | (with_reducible first | exact HB.out | apply below_alloc | apply pw_below_drewN | apply below_drew1 | refine below_set ?_ GE229.out) | exact HB.out)) hb)
  clear HO232
  clear BK229
  clear HB
  have HO232 := n0_
  have BK229 := n1_
  have HB := n2_
  clear n0_ n1_ n2_
  (try clear hb)
  (try clear hb2)
  (try clear hk)
  (try clear hi)
  refine hK.out _ _ ⟨(blk_cell BK229.out 0).trans rfl, (blk_cell BK229.out 1).trans rfl⟩ (fun hHeld => ?_)
  clear hK K
  refine norm_ (a' := ?_) ?_ ?_
  rotate_left
  · show Act.put _ (some 11) _ = _
    simp only [Act.put, List.setIfInBounds_toArray, List.set_cons_zero, List.set_cons_succ, i64_w, i32_w]
    rfl
  refine pure_ (i := 9) (N := some 12) (v := ?_) (a' := ?_) #[true, true, true, true, true, true, true, true, true, true, false] rfl rfl (any_of HT_.out (by kernel_rfl)) (fun _ _ _ h => h) (Or.inl ⟨by rfl, ?_⟩) ?_ ?_
  rotate_left
  · intro w'
    go_simp
    with_reducible rfl
  rotate_left
  · simp only [Act.put, List.setIfInBounds_toArray, List.set_cons_zero, List.set_cons_succ, i64_w, i32_w]
    rfl
  refine pure_ (i := 10) (N := some 2) (v := ?_) (a' := ?_) #[true, true, true, true, true, true, true, true, true, true, true] rfl rfl (any_of HT_.out (by kernel_rfl)) (fun _ _ _ h => h) (Or.inl ⟨by rfl, ?_⟩) ?_ ?_
  rotate_left
  · intro w'
    go_simp
    with_reducible rfl
  rotate_left
  · simp only [Act.put, List.setIfInBounds_toArray, List.set_cons_zero, List.set_cons_succ, i64_w, i32_w]
    rfl
  refine done_ (done_of HT_.out (by kernel_rfl)) ?_
  try go_wp2
  go_ret
  exact ⟨by first | rfl | (simp [errW_none, errW_some] <;> rfl) | (simp [*, errW_none, errW_some] <;> rfl), by repeat (first | (with_reducible first | exact HB.out | apply below_alloc | apply pw_below_drewN | apply below_drew1 | refine below_set ?_ GE229.out) | exact HB.out)⟩

/-! ### impl_isCountedLadder: function 50 -/
def impl_isCountedLadder.f (k : Nat) (a0_0 : Int) (l0_1 : List Int) : Option (Bool) := (impl_isLadder.f a0_0 l0_1).bind fun t235 => (if t235 = true then (if a0_0 ≤ 6 then ((impl_needless.f k a0_0 l0_1).bind fun t236 => (some (t236 == 0))) else (some false)) else (some false))
theorem impl_isCountedLadder.mono : ∀ a0 a1 k, LeO (impl_isCountedLadder.f k a0 a1) (impl_isCountedLadder.f (k + 1) a0 a1) := by
  intro a0 a1 k
  unfold impl_isCountedLadder.f
  repeat' first
      | (with_reducible exact impl_needless.mono _ _ _)
      | (with_reducible exact LeO.refl _)
      | (with_reducible exact LeO.none _)
      | (with_reducible refine LeO.ite ?_ ?_)
      | (with_reducible refine LeO.bind ?_ (fun _ => ?_))
      | exact impl_needless.mono _ _ _
      | exact LeO.none _
      | refine LeO.ite ?_ ?_
      | refine LeO.bind ?_ (fun _ => ?_)
set_option maxHeartbeats 8000000 in
set_option maxRecDepth 100000 in
theorem impl_isCountedLadder.calls (k : Nat) (a0_0 : Int) (A0_1 : Option Addr) (c0_1 : Nat) (l0_1 : List Int) (r : Bool) (w : World) (hr0_1 : Kd.C (Kd.int .i64) w A0_1 l0_1.length l0_1) (hc0_1 : l0_1.length ≤ c0_1) (h : impl_isCountedLadder.f k a0_0 l0_1 = some r) :
    Calls Try.prog 50 #[.agg #[.int .i64 a0_0, .slice A0_1 l0_1.length c0_1]] w fun e w' => e = .returned (.bool r) ∧ Below w.heap.size w w' := by
  have hu31 := Try.underlying31
  have HR0_1 := Aside0.mk hr0_1
  have HC0_1 := Aside0.mk hc0_1
  clear hr0_1 hc0_1
  have HB := Aside0.mk (Below.refl w.heap.size w)
  have H : ((impl_isLadder.f a0_0 l0_1).bind fun t235 => (if t235 = true then (if a0_0 ≤ 6 then ((impl_needless.f k a0_0 l0_1).bind fun t236 => (some (t236 == 0))) else (some false)) else (some false))) = some r := h
  clear h
  replace H := Option.bind_eq_some_iff.mp H
  obtain ⟨t235, A20, H⟩ := H
  replace H : (if t235 = true then (if a0_0 ≤ 6 then ((impl_needless.f k a0_0 l0_1).bind fun t236 => (some (t236 == 0))) else (some false)) else (some false)) = some r := H
  have A2 := Aside0.mk A20
  clear A20
  by_cases c3 : t235 = true
  · subst c3
    have H1 : (if a0_0 ≤ 6 then ((impl_needless.f k a0_0 l0_1).bind fun t236 => (some (t236 == 0))) else (some false)) = some r := by rw [if_pos rfl] at H; exact H
    clear H
    have H := H1
    clear H1
    by_cases c4 : a0_0 ≤ 6
    · rw [if_pos c4] at H
      have c4b0 : decide (a0_0 ≤ 6) = true := decide_eq_true c4
      clear c4
      replace H := Option.bind_eq_some_iff.mp H
      obtain ⟨t236, A50, H⟩ := H
      replace H : (some (t236 == 0)) = some r := H
      have A5 := Aside0.mk A50
      clear A50
      obtain rfl := Option.some.inj H
      go_enter Try.func50, Try.ntmps50
      go_wp2_with (first | ((with_reducible refine gate_dst (N := 1) rfl ?_); refine box_event ?hg (N := 1) ?hd (cs := #[.int .i64 a0_0, .slice A0_1 l0_1.length c0_1]) (t := 31) ?hr ?_; (case hd => rfl); (case hg => rfl); (case hr => first | (go_simp; done) | (go_simp; rfl)); intro gb234 hg w6 hbox hb; have n0_ := Aside0.mk (below_step (by repeat (first | (with_reducible first | exact HB.out | apply below_alloc | apply pw_below_drewN | apply below_drew1) | exact HB.out)) hb); have n1_ := Aside0.mk (hbox); have n2_ := Aside0.mk ((by rw [hg]; exact (below_size (by repeat (first | (with_reducible first | exact HB.out | apply below_alloc | apply pw_below_drewN | apply below_drew1) | exact HB.out))) : w.heap.size ≤ gb234)); have n3_ := Aside0.mk ((by rw [hg]; exact (below_size (by repeat (first | (with_reducible first | exact HB.out | apply below_alloc | apply pw_below_drewN | apply below_drew1) | exact HB.out))) : w.heap.size ≤ gb234)); clear HB; have HB := n0_; have BK234 := n1_; have GW234 := n2_; have GE234 := n3_; clear n0_ n1_ n2_ n3_; clear hb hbox hg; have hcz7_0 : w6.cell? ⟨gb234, 0, none⟩ = some (.int .i64 a0_0) := (blk_cell BK234.out 0).trans rfl; have hcz7_1 : w6.cell? ⟨gb234, 1, none⟩ = some (.slice A0_1 l0_1.length c0_1) := (blk_cell BK234.out 1).trans rfl; have hfz7_0 := blk_frozen BK234.out 0; have hfz7_1 := blk_frozen BK234.out 1) | ((with_reducible refine gate_callee (f := 67) rfl ?_); refine goesL_ (some 4) rfl rfl Try.func67 (by kernel_rfl) rfl #[.agg #[.int .i64 a0_0, .slice A0_1 l0_1.length c0_1]] rfl (by (try simp only [List.map_toArray, List.map_cons, List.map_nil]); first | done | rfl | (simp only [List.length_drop, List.length_take]; rfl)) ?_; (with_reducible refine (impl_isLadder.calls a0_0 _ _ l0_1 true _ ?side1 ?side2 A2.out).mono ?_); (case side1 => repeat (first | exact (Kd.C_below HR0_1.out HB.out) | (with_reducible refine Kd.C_alloc ?_ _) | (with_reducible refine Kd.C_drewN ?_ _) | (with_reducible refine Kd.C_drew ?_))); (case side2 => exact HC0_1.out); rintro e w8 ⟨rfl, hb⟩; refine ⟨_, rfl, ?_⟩; have n0_ := Aside0.mk (blk_below (g := gb234) (o := .cells #[.int .i64 a0_0, .slice A0_1 l0_1.length c0_1] 31 (0, 0)) (by (with_reducible repeat (first | refine blk_drewN ?_ _ | refine blk_drew ?_ | refine blk_alloc ?_ _)); exact BK234.out) hb); have n1_ := Aside0.mk (below_step (by repeat (first | (with_reducible first | exact HB.out | apply below_alloc | apply pw_below_drewN | apply below_drew1 | refine below_set ?_ GE234.out) | exact HB.out)) hb); clear BK234; clear HB; have BK234 := n0_; have HB := n1_; clear n0_ n1_; (try clear hb); (try clear hb2); (try clear hk); (try clear hi); have hcz9_0 : w8.cell? ⟨gb234, 0, none⟩ = some (.int .i64 a0_0) := (blk_cell BK234.out 0).trans rfl; have hcz9_1 : w8.cell? ⟨gb234, 1, none⟩ = some (.slice A0_1 l0_1.length c0_1) := (blk_cell BK234.out 1).trans rfl; have hfz9_0 := blk_frozen BK234.out 0; have hfz9_1 := blk_frozen BK234.out 1) | (go_at_call 68; (with_reducible refine (impl_needless.calls k a0_0 _ _ l0_1 t236 _ ?side1 ?side2 A5.out).mono ?_); (case side1 => repeat (first | exact (Kd.C_below HR0_1.out HB.out) | (with_reducible refine Kd.C_alloc ?_ _) | (with_reducible refine Kd.C_drewN ?_ _) | (with_reducible refine Kd.C_drew ?_))); (case side2 => exact HC0_1.out); rintro e w10 ⟨rfl, hb⟩; have n0_ := Aside0.mk (blk_below (g := gb234) (o := .cells #[.int .i64 a0_0, .slice A0_1 l0_1.length c0_1] 31 (0, 0)) (by (with_reducible repeat (first | refine blk_drewN ?_ _ | refine blk_drew ?_ | refine blk_alloc ?_ _)); exact BK234.out) hb); have n1_ := Aside0.mk (below_step (by repeat (first | (with_reducible first | exact HB.out | apply below_alloc | apply pw_below_drewN | apply below_drew1 | refine below_set ?_ GE234.out) | exact HB.out)) hb); clear BK234; clear HB; have BK234 := n0_; have HB := n1_; clear n0_ n1_; (try clear hb); (try clear hb2); (try clear hk); (try clear hi)))
      go_ret
      exact ⟨by first | rfl | (simp [errW_none, errW_some] <;> rfl) | (simp [*, errW_none, errW_some] <;> rfl), by repeat (first | (with_reducible first | exact HB.out | apply below_alloc | apply pw_below_drewN | apply below_drew1 | refine below_set ?_ GE234.out) | exact HB.out)⟩
    · rw [if_neg c4] at H
      have c4b0 : decide (a0_0 ≤ 6) = false := decide_eq_false c4
      clear c4
      obtain rfl := Option.some.inj H
      go_enter Try.func50, Try.ntmps50
      go_wp2_with (first | ((with_reducible refine gate_dst (N := 1) rfl ?_); refine box_event ?hg (N := 1) ?hd (cs := #[.int .i64 a0_0, .slice A0_1 l0_1.length c0_1]) (t := 31) ?hr ?_; (case hd => rfl); (case hg => rfl); (case hr => first | (go_simp; done) | (go_simp; rfl)); intro gb234 hg w11 hbox hb; have n0_ := Aside0.mk (below_step (by repeat (first | (with_reducible first | exact HB.out | apply below_alloc | apply pw_below_drewN | apply below_drew1) | exact HB.out)) hb); have n1_ := Aside0.mk (hbox); have n2_ := Aside0.mk ((by rw [hg]; exact (below_size (by repeat (first | (with_reducible first | exact HB.out | apply below_alloc | apply pw_below_drewN | apply below_drew1) | exact HB.out))) : w.heap.size ≤ gb234)); have n3_ := Aside0.mk ((by rw [hg]; exact (below_size (by repeat (first | (with_reducible first | exact HB.out | apply below_alloc | apply pw_below_drewN | apply below_drew1) | exact HB.out))) : w.heap.size ≤ gb234)); clear HB; have HB := n0_; have BK234 := n1_; have GW234 := n2_; have GE234 := n3_; clear n0_ n1_ n2_ n3_; clear hb hbox hg; have hcz12_0 : w11.cell? ⟨gb234, 0, none⟩ = some (.int .i64 a0_0) := (blk_cell BK234.out 0).trans rfl; have hcz12_1 : w11.cell? ⟨gb234, 1, none⟩ = some (.slice A0_1 l0_1.length c0_1) := (blk_cell BK234.out 1).trans rfl; have hfz12_0 := blk_frozen BK234.out 0; have hfz12_1 := blk_frozen BK234.out 1) | ((with_reducible refine gate_callee (f := 67) rfl ?_); refine goesL_ (some 4) rfl rfl Try.func67 (by kernel_rfl) rfl #[.agg #[.int .i64 a0_0, .slice A0_1 l0_1.length c0_1]] rfl (by (try simp only [List.map_toArray, List.map_cons, List.map_nil]); first | done | rfl | (simp only [List.length_drop, List.length_take]; rfl)) ?_; (with_reducible refine (impl_isLadder.calls a0_0 _ _ l0_1 true _ ?side1 ?side2 A2.out).mono ?_); (case side1 => repeat (first | exact (Kd.C_below HR0_1.out HB.out) | (with_reducible refine Kd.C_alloc ?_ _) | (with_reducible refine Kd.C_drewN ?_ _) | (with_reducible refine Kd.C_drew ?_))); (case side2 => exact HC0_1.out); rintro e w13 ⟨rfl, hb⟩; refine ⟨_, rfl, ?_⟩; have n0_ := Aside0.mk (blk_below (g := gb234) (o := .cells #[.int .i64 a0_0, .slice A0_1 l0_1.length c0_1] 31 (0, 0)) (by (with_reducible repeat (first | refine blk_drewN ?_ _ | refine blk_drew ?_ | refine blk_alloc ?_ _)); exact BK234.out) hb); have n1_ := Aside0.mk (below_step (by repeat (first | (with_reducible first | exact HB.out | apply below_alloc | apply pw_below_drewN | apply below_drew1 | refine below_set ?_ GE234.out) | exact HB.out)) hb); clear BK234; clear HB; have BK234 := n0_; have HB := n1_; clear n0_ n1_; (try clear hb); (try clear hb2); (try clear hk); (try clear hi); have hcz14_0 : w13.cell? ⟨gb234, 0, none⟩ = some (.int .i64 a0_0) := (blk_cell BK234.out 0).trans rfl; have hcz14_1 : w13.cell? ⟨gb234, 1, none⟩ = some (.slice A0_1 l0_1.length c0_1) := (blk_cell BK234.out 1).trans rfl; have hfz14_0 := blk_frozen BK234.out 0; have hfz14_1 := blk_frozen BK234.out 1))
      go_ret
      exact ⟨by first | rfl | (simp [errW_none, errW_some] <;> rfl) | (simp [*, errW_none, errW_some] <;> rfl), by repeat (first | (with_reducible first | exact HB.out | apply below_alloc | apply pw_below_drewN | apply below_drew1 | refine below_set ?_ GE234.out) | exact HB.out)⟩
  · replace c3 := Bool.eq_false_iff.mpr c3
    subst c3
    have H1 : (some false) = some r := by rw [if_neg (show ¬ (false = true) by decide)] at H; exact H
    clear H
    have H := H1
    clear H1
    obtain rfl := Option.some.inj H
    go_enter Try.func50, Try.ntmps50
    go_wp2_with (first | ((with_reducible refine gate_dst (N := 1) rfl ?_); refine box_event ?hg (N := 1) ?hd (cs := #[.int .i64 a0_0, .slice A0_1 l0_1.length c0_1]) (t := 31) ?hr ?_; (case hd => rfl); (case hg => rfl); (case hr => first | (go_simp; done) | (go_simp; rfl)); intro gb234 hg w15 hbox hb; have n0_ := Aside0.mk (below_step (by repeat (first | (with_reducible first | exact HB.out | apply below_alloc | apply pw_below_drewN | apply below_drew1) | exact HB.out)) hb); have n1_ := Aside0.mk (hbox); have n2_ := Aside0.mk ((by rw [hg]; exact (below_size (by repeat (first | (with_reducible first | exact HB.out | apply below_alloc | apply pw_below_drewN | apply below_drew1) | exact HB.out))) : w.heap.size ≤ gb234)); have n3_ := Aside0.mk ((by rw [hg]; exact (below_size (by repeat (first | (with_reducible first | exact HB.out | apply below_alloc | apply pw_below_drewN | apply below_drew1) | exact HB.out))) : w.heap.size ≤ gb234)); clear HB; have HB := n0_; have BK234 := n1_; have GW234 := n2_; have GE234 := n3_; clear n0_ n1_ n2_ n3_; clear hb hbox hg; have hcz16_0 : w15.cell? ⟨gb234, 0, none⟩ = some (.int .i64 a0_0) := (blk_cell BK234.out 0).trans rfl; have hcz16_1 : w15.cell? ⟨gb234, 1, none⟩ = some (.slice A0_1 l0_1.length c0_1) := (blk_cell BK234.out 1).trans rfl; have hfz16_0 := blk_frozen BK234.out 0; have hfz16_1 := blk_frozen BK234.out 1) | ((with_reducible refine gate_callee (f := 67) rfl ?_); refine goesL_ (some 4) rfl rfl Try.func67 (by kernel_rfl) rfl #[.agg #[.int .i64 a0_0, .slice A0_1 l0_1.length c0_1]] rfl (by (try simp only [List.map_toArray, List.map_cons, List.map_nil]); first | done | rfl | (simp only [List.length_drop, List.length_take]; rfl)) ?_; (with_reducible refine (impl_isLadder.calls a0_0 _ _ l0_1 false _ ?side1 ?side2 A2.out).mono ?_); (case side1 => repeat (first | exact (Kd.C_below HR0_1.out HB.out) | (with_reducible refine Kd.C_alloc ?_ _) | (with_reducible refine Kd.C_drewN ?_ _) | (with_reducible refine Kd.C_drew ?_))); (case side2 => exact HC0_1.out); rintro e w17 ⟨rfl, hb⟩; refine ⟨_, rfl, ?_⟩; have n0_ := Aside0.mk (blk_below (g := gb234) (o := .cells #[.int .i64 a0_0, .slice A0_1 l0_1.length c0_1] 31 (0, 0)) (by (with_reducible repeat (first | refine blk_drewN ?_ _ | refine blk_drew ?_ | refine blk_alloc ?_ _)); exact BK234.out) hb); have n1_ := Aside0.mk (below_step (by repeat (first | (with_reducible first | exact HB.out | apply below_alloc | apply pw_below_drewN | apply below_drew1 | refine below_set ?_ GE234.out) | exact HB.out)) hb); clear BK234; clear HB; have BK234 := n0_; have HB := n1_; clear n0_ n1_; (try clear hb); (try clear hb2); (try clear hk); (try clear hi)))
    go_ret
    exact ⟨by first | rfl | (simp [errW_none, errW_some] <;> rfl) | (simp [*, errW_none, errW_some] <;> rfl), by repeat (first | (with_reducible first | exact HB.out | apply below_alloc | apply pw_below_drewN | apply below_drew1 | refine below_set ?_ GE234.out) | exact HB.out)⟩

/-! ### impl_RankOfLeast: function 25 -/
open Classical in
noncomputable def impl_RankOfLeast.ev {α : Type} (g : Nat → Option α) : Option α := if h : ∃ k r, g k = some r then g h.choose else none
theorem impl_RankOfLeast.ev_some {α : Type} {g : Nat → Option α} {r : α} (h : impl_RankOfLeast.ev g = some r) : ∃ k, g k = some r := by
  unfold impl_RankOfLeast.ev at h
  split at h
  · exact ⟨_, h⟩
  · cases h
theorem impl_RankOfLeast.b1 {N i : Nat} (h : N ≤ i * 14824161510814728) : N ≤ i * 14824161510814728 + 0 * 1853020188851841 := Nat.le_trans h (Nat.le_add_right _ _)
theorem impl_RankOfLeast.b2 {M i m : Nat} (h : M ≤ i * 14824161510814728 + m * 1853020188851841) : M ≤ i * 14824161510814728 + (m + 1) * 1853020188851841 := Nat.le_trans h (Nat.add_le_add_left (Nat.mul_le_mul_right _ (Nat.le_succ m)) _)
theorem impl_RankOfLeast.b3 {M i m : Nat} (hi : i < 60) (hm : m < 8) (h : M ≤ i * 14824161510814728 + m * 1853020188851841) : M + 1853020188851841 ≤ 4611686018427387904 ∧ M + 1853020188851841 ≤ i * 14824161510814728 + (m + 1) * 1853020188851841 :=
  ⟨Nat.le_trans (Nat.add_le_add_right (Nat.le_trans h (Nat.add_le_add (Nat.mul_le_mul_right _ (show i ≤ 59 by omega)) (Nat.mul_le_mul_right _ (show m ≤ 7 by omega)))) _) (by decide),
   Nat.le_trans (Nat.add_le_add_right h _) (Nat.le_of_eq ((Nat.add_assoc _ _ _).trans (congrArg _ (Nat.succ_mul m _).symm)))⟩
theorem impl_RankOfLeast.b4 {M i m : Nat} (hm : m ≤ 8) (h : M ≤ i * 14824161510814728 + m * 1853020188851841) : M ≤ (i + 1) * 14824161510814728 :=
  Nat.le_trans h (Nat.le_trans (Nat.add_le_add_left (Nat.le_trans (Nat.mul_le_mul_right _ hm) (show 8 * 1853020188851841 ≤ 14824161510814728 by decide)) _) (Nat.le_of_eq (Nat.succ_mul i _).symm))
theorem impl_RankOfLeast.b0 : 0 ≤ 0 * 14824161510814728 := Nat.zero_le _
def impl_RankOfLeast.di (g : List Int → Option Int) (p : List Int) (r : Int) : List Int → Int → Option Int
  | [], s => some s
  | x :: ds, s => if x < r then (impl_exchanged.f p x).bind fun q => (g q).bind fun v => impl_RankOfLeast.di g p r ds (wrap64 (s + v)) else impl_RankOfLeast.di g p r ds s
noncomputable def impl_RankOfLeast.ro (g : List Int → Option Int) : List Int → List Int → Int → Option Int
  | [], _, s => some s
  | r :: rs, p, s => (impl_RankOfLeast.ev fun k => impl_descents.f k p).bind fun ds => if ds.length ≤ 8 then (impl_RankOfLeast.di g p r ds s).bind fun s' => (impl_exchanged.f p r).bind fun q => impl_RankOfLeast.ro g rs q s' else none
noncomputable def impl_RankOfLeast.f (a0 : Int) (l0 : List Int) : Option (Int × Bool) := (impl_RankOfLeast.ev fun k => impl_isCountedLadder.f k a0 l0).bind fun t => if t = true then (if l0.length ≤ 60 then (impl_RankOfLeast.ev fun k => impl_result.f k a0 l0).bind fun p => (impl_RankOfLeast.ro impl_counter_count.f l0 p 0).bind fun s => some (s, true) else none) else some (0, false)
set_option maxHeartbeats 8000000 in
set_option maxRecDepth 100000 in
theorem impl_RankOfLeast.calls (a0_0 : Int) (A0_1 : Option Addr) (c0_1 : Nat) (l0_1 : List Int) (r1 : Int) (r2 : Bool) (w : World) (hr0_1 : Kd.C (Kd.int .i64) w A0_1 l0_1.length l0_1) (hc0_1 : l0_1.length ≤ c0_1) (h : impl_RankOfLeast.f a0_0 l0_1 = some (r1, r2)) :
    Calls Try.prog 25 #[.agg #[.int .i64 a0_0, .slice A0_1 l0_1.length c0_1]] w fun e w' => e = .returned (.tuple #[.int .i64 r1, .bool r2]) ∧ Below w.heap.size w w' := by
  have HR := Aside0.mk hr0_1
  have HC := Aside0.mk hc0_1
  have hu26 := Try.underlying31
  clear hr0_1 hc0_1
  unfold impl_RankOfLeast.f at h
  obtain ⟨t, ht, h⟩ := Option.bind_eq_some_iff.1 h
  obtain ⟨kt, ht⟩ := impl_RankOfLeast.ev_some ht
  have HT := Aside0.mk ht
  clear ht
  cases t with
  | false =>
    rw [if_neg (by decide)] at h
    simp only [Option.some.injEq, Prod.mk.injEq] at h
    obtain ⟨rfl, rfl⟩ := h
    go_enter Try.func25, Try.ntmps25
    go_wp2_with (go_at_call 50; (with_reducible refine (impl_isCountedLadder.calls kt a0_0 A0_1 c0_1 l0_1 false _ ?side1 HC.out HT.out).mono ?_); (case side1 => (repeat (first | exact HR.out | (with_reducible refine Kd.C_alloc ?_ _) | (with_reducible refine Kd.C_drewN ?_ _) | (with_reducible refine Kd.C_drew ?_)))); rintro e w1 ⟨rfl, hb⟩; have HB := Aside0.mk (below_step (w := w) (by repeat (first | exact Below.refl _ _ | apply below_alloc | apply pw_below_drewN | apply below_drew1)) hb); clear hb)
    go_ret2
    exact ⟨rfl, HB.out⟩
  | true =>
    rw [if_pos rfl] at h
    split at h
    · rename_i hn
      obtain ⟨p0, hp0, h⟩ := Option.bind_eq_some_iff.1 h
      obtain ⟨kp, hp0⟩ := impl_RankOfLeast.ev_some hp0
      obtain ⟨s1, hro, h⟩ := Option.bind_eq_some_iff.1 h
      simp only [Option.some.injEq, Prod.mk.injEq] at h
      obtain ⟨rfl, rfl⟩ := h
      have HP0 := Aside0.mk hp0
      have HRO := Aside0.mk hro
      have H60 := Aside0.mk hn
      clear hp0 hro hn
      have hmm := @run_makeMap Try.prog
      go_enter Try.func25, Try.ntmps25
      go_wp2_with (first | (go_at_call 50; (with_reducible refine (impl_isCountedLadder.calls kt a0_0 A0_1 c0_1 l0_1 true _ ?side1 HC.out HT.out).mono ?_); (case side1 => (repeat (first | exact HR.out | (with_reducible refine Kd.C_alloc ?_ _) | (with_reducible refine Kd.C_drewN ?_ _) | (with_reducible refine Kd.C_drew ?_)))); rintro e w1 ⟨rfl, hb⟩; have hcell0 : w1.cell? ⟨w.heap.size, 0, none⟩ = some (.int .i64 a0_0) := (hb.cell (p := ⟨w.heap.size, 0, none⟩) (by simp)).trans (by simp); have hcell1 : w1.cell? ⟨w.heap.size, 1, none⟩ = some (.slice A0_1 l0_1.length c0_1) := (hb.cell (p := ⟨w.heap.size, 1, none⟩) (by simp)).trans (by simp); have HB := Aside0.mk (below_step (w := w) (by repeat (first | exact Below.refl _ _ | apply below_alloc | apply pw_below_drewN | apply below_drew1)) hb); clear hb) | (go_at_call 51; (with_reducible refine (impl_result.calls kp a0_0 A0_1 c0_1 l0_1 p0 _ ?side1 HC.out HP0.out).mono ?_); (case side1 => (repeat (first | exact (Kd.C_below HR.out HB.out) | (with_reducible refine Kd.C_alloc ?_ _) | (with_reducible refine Kd.C_drewN ?_ _) | (with_reducible refine Kd.C_drew ?_)))); rintro e w2 ⟨v2, rfl, ho, hb_⟩; have hb := below_step (w := w1) (by repeat (first | exact Below.refl _ _ | apply below_alloc | apply pw_below_drewN | apply below_drew1)) hb_; have hd1 : w2.cell? ⟨w.heap.size, 1, none⟩ = some (.slice A0_1 l0_1.length c0_1) := (hb.cell (p := ⟨w.heap.size, 1, none⟩) (World.block_lt_of_cell? _ _ hcell1)).trans hcell1; have hd2 : (w2.alloc (.map #[] 0)).cell? ⟨w.heap.size, 1, none⟩ = some (.slice A0_1 l0_1.length c0_1) := ((below_alloc (Below.refl w2.heap.size w2) _).cell (p := ⟨w.heap.size, 1, none⟩) (World.block_lt_of_cell? _ _ hd1)).trans hd1; have HB2 := Aside0.mk (below_step HB.out hb); have HP := Aside0.mk (Kd.R_lower (Kd.R_mono (Kd.R_bound ho) (fun k_ h_ => h_.2.2.1)) (below_size (w := w) (show Below w.heap.size w _ from (by repeat (first | exact HB.out | apply below_alloc | apply pw_below_drewN | apply below_drew1))))); clear hb hb_ ho hcell0 hcell1; obtain ⟨A2, c2, e2⟩ := Kd.R_slice HP.out; subst e2))
      have HLEN := Aside0.mk (show l0_1.length ≤ 9223372036854775807 from HR.out.2.1)
      have HBB := Aside0.mk (show w.heap.size ≤ w2.heap.size from HB2.out.size)
      have HP3 := Aside0.mk (Kd.R_mono (Kd.R_alloc HP.out (.map #[] 0)) (fun k_ h_ => (show k_ ≠ w2.heap.size from fun e_ => by omega)))
      have HM3 := Aside0.mk (impl_counter_count.Mem.made w2)
      have HB3 := Aside0.mk (below_alloc HB2.out (.map #[] 0))
      clear hd2 hd1 HB HB2 HP
      generalize w2.heap.size = B at HBB HP3 HM3 ⊢
      go_loopg [4, 6, 23] l0_1.length (fun gg v4 v6 v24 w' => ∃ (i N : Nat) (s : Int) (p : List Int) (A : Option Addr) (c : Nat), v4 = .slice A p.length c ∧ v6 = .int .i64 s ∧ v24 = .int .i64 i ∧ i ≤ l0_1.length ∧ l0_1.length - i ≤ gg ∧ Aside0 (impl_RankOfLeast.ro impl_counter_count.f (l0_1.drop i) p s = some s1) ∧ Aside0 (Kd.R (Kd.int .i64) 3 w' w.heap.size (fun k_ => k_ ≠ B) (.slice A p.length c) p) ∧ Aside0 (impl_counter_count.Mem w' B N) ∧ Aside0 (N ≤ i * 14824161510814728) ∧ Aside0 (Below w.heap.size w w'))
      case atStart => exact ⟨0, 0, 0, p0, A2, c2, rfl, rfl, rfl, Nat.zero_le _, by omega, ⟨by rw [List.drop_zero]; exact HRO.out⟩, HP3, HM3, ⟨impl_RankOfLeast.b0⟩, HB3⟩
      case round =>
        clear HRO HP3 HM3 HB3
        obtain ⟨i, N, s, p, A, c, rfl, rfl, rfl, hi, hgk, HRO, HP, HM, HNN, HB⟩ := hrel
        by_cases hlt : i < l0_1.length
        · have hltz : (i : Int) < (l0_1.length : Int) := by omega
          have hro := HRO.out
          have hdr : l0_1.drop i = rd l0_1 (i : Int) :: l0_1.drop (i + 1) := by
            have hr_ : rd l0_1 (i : Int) = l0_1[i] := by
              show l0_1.getD ((i : Int)).toNat 0 = _
              rw [Int.toNat_natCast, List.getD_eq_getElem?_getD, List.getElem?_eq_getElem hlt]; rfl
            rw [hr_]; exact List.drop_eq_getElem_cons hlt
          rw [hdr, impl_RankOfLeast.ro] at hro
          obtain ⟨ad, ead, hx0⟩ := Kd.at_int (Kd.C_below HR.out HB.out) (i : Int) (Int.natCast_nonneg i) hltz
          cases ead
          obtain ⟨x, hx⟩ : ∃ x, x = rd l0_1 (i : Int) := ⟨_, rfl⟩
          rw [← hx] at hx0 hro
          rw [Int.toNat_natCast] at hx0
          obtain ⟨ds, hds, hro⟩ := Option.bind_eq_some_iff.1 hro
          obtain ⟨kd, hds⟩ := impl_RankOfLeast.ev_some hds
          split at hro
          · rename_i hd8
            obtain ⟨s', hri, hro⟩ := Option.bind_eq_some_iff.1 hro
            obtain ⟨q, hq, hro⟩ := Option.bind_eq_some_iff.1 hro
            have HRI := Aside0.mk hri
            have HQ := Aside0.mk hq
            have HRO2 := Aside0.mk hro
            have HD8 := Aside0.mk hd8
            have HDS := Aside0.mk hds
            clear HRO hro hri hq hdr hx hds
            go_wp2_with (go_at_call 46; (with_reducible refine (impl_descents.calls kd _ _ p ds _ ?side1 ?side2 HDS.out).mono ?_); (case side1 => (repeat (first | exact (Kd.R_reads' HP.out).2.2 | (with_reducible refine Kd.C_alloc ?_ _) | (with_reducible refine Kd.C_drewN ?_ _) | (with_reducible refine Kd.C_drew ?_)))); (case side2 => exact (Kd.R_reads' HP.out).2.1); rintro e w3 ⟨v3, rfl, ho3, hb3_⟩; have hb3 := below_step (w := wr) (by repeat (first | exact Below.refl _ _ | apply below_alloc | apply pw_below_drewN | apply below_drew1)) hb3_; clear hb3_; have HL := Aside0.mk (Kd.R_lower (Kd.R_mono (Kd.R_bound ho3) (fun k_ h_ => (show k_ ≠ B from fun e_ => by have h1_ := HM.out.lt; have h2_ := h_.2.1; exact absurd (Nat.lt_of_lt_of_le h1_ h2_) (by rw [e_]; exact Nat.lt_irrefl B)))) (show w.heap.size ≤ _ from HB.out.size)); have HB3 := Aside0.mk (below_step HB.out hb3); have HM3 := Aside0.mk (HM.out.below hb3); have HP3 := Aside0.mk (Kd.R_below HP.out hb3); clear hb3 ho3; obtain ⟨A3, c3, e3⟩ := Kd.R_slice HL.out; subst e3)
            clear hx0 HP HM HB
            go_loopg [6, 30] ds.length (fun gg v6 v9 w' => ∃ (m M : Nat) (s : Int), v6 = .int .i64 s ∧ v9 = .int .i64 m ∧ m ≤ ds.length ∧ ds.length - m ≤ gg ∧ Aside0 (impl_RankOfLeast.di impl_counter_count.f p x (ds.drop m) s = some s') ∧ Aside0 (Kd.R (Kd.int .i64) 3 w' w.heap.size (fun k_ => k_ ≠ B) (.slice A p.length c) p) ∧ Aside0 (Kd.R (Kd.int .i64) 3 w' w.heap.size (fun k_ => k_ ≠ B) (.slice A3 ds.length c3) ds) ∧ Aside0 (impl_counter_count.Mem w' B M) ∧ Aside0 (M ≤ i * 14824161510814728 + m * 1853020188851841) ∧ Aside0 (Below w.heap.size w w'))
            case atStart => exact ⟨0, N, s, rfl, rfl, Nat.zero_le _, by omega, ⟨by rw [List.drop_zero]; exact HRI.out⟩, HP3, HL, HM3, ⟨impl_RankOfLeast.b1 HNN.out⟩, HB3⟩
            case round =>
              clear HRI HP3 HM3 HB3 HL HNN
              obtain ⟨m, M, s2, rfl, rfl, hm, hgk2, HRI, HP, HL, HM, HNN, HB⟩ := hrel
              by_cases hlt2 : m < ds.length
              · have hltz2 : (m : Int) < (ds.length : Int) := by omega
                have hri := HRI.out
                have hdr : ds.drop m = rd ds (m : Int) :: ds.drop (m + 1) := by
                  have hr_ : rd ds (m : Int) = ds[m] := by
                    show ds.getD ((m : Int)).toNat 0 = _
                    rw [Int.toNat_natCast, List.getD_eq_getElem?_getD, List.getElem?_eq_getElem hlt2]; rfl
                  rw [hr_]; exact List.drop_eq_getElem_cons hlt2
                rw [hdr, impl_RankOfLeast.di] at hri
                obtain ⟨ad1, ead1, hx0⟩ := Kd.at_int (Kd.R_reads' HL.out).2.2 (m : Int) (Int.natCast_nonneg m) hltz2
                cases ead1
                obtain ⟨z, hz⟩ : ∃ z, z = rd ds (m : Int) := ⟨_, rfl⟩
                rw [← hz] at hx0 hri
                rw [Int.toNat_natCast] at hx0
                clear hz HRI hdr
                have hd8_ := HD8.out
                by_cases hc : z < x
                · rw [if_pos hc] at hri
                  obtain ⟨q2, hq2, hri⟩ := Option.bind_eq_some_iff.1 hri
                  obtain ⟨v2, hv2, hri⟩ := Option.bind_eq_some_iff.1 hri
                  have HQ2 := Aside0.mk hq2
                  have HV2 := Aside0.mk hv2
                  have HRI := Aside0.mk hri
                  have hc0 : decide (z < x) = true := decide_eq_true hc
                  have HLIM := Aside0.mk (impl_RankOfLeast.b3 (M := M) (i := i) (m := m) (by have := H60.out; omega) (by omega) HNN.out)
                  clear hq2 hv2 hri hc
                  go_wp2_with (first | (go_at_call 44; (with_reducible refine (impl_exchanged.calls _ _ p z q2 _ ?side1 ?side2 HQ2.out).mono ?_); (case side1 => (repeat (first | exact (Kd.R_reads' HP.out).2.2 | (with_reducible refine Kd.C_alloc ?_ _) | (with_reducible refine Kd.C_drewN ?_ _) | (with_reducible refine Kd.C_drew ?_)))); (case side2 => exact (Kd.R_reads' HP.out).2.1); rintro e w4 ⟨v4, rfl, ho4, hb4_⟩; have hb4 := below_step (w := wr) (by repeat (first | exact Below.refl _ _ | apply below_alloc | apply pw_below_drewN | apply below_drew1)) hb4_; clear hb4_; have HQR := Aside0.mk (Kd.R_mono (Kd.R_bound ho4) (fun k_ h_ => (show k_ ≠ B from fun e_ => by have h1_ := HM.out.lt; have h2_ := h_.2.1; exact absurd (Nat.lt_of_lt_of_le h1_ h2_) (by rw [e_]; exact Nat.lt_irrefl B)))); have HB4 := Aside0.mk (below_step HB.out hb4); have HM4 := Aside0.mk (HM.out.below hb4); have HP4 := Aside0.mk (Kd.R_below HP.out hb4); have HL4 := Aside0.mk (Kd.R_below HL.out hb4); clear hb4 ho4; obtain ⟨A4, c4, e4⟩ := Kd.R_slice HQR.out; subst e4) | (go_at_call 40; (with_reducible refine (impl_counter_count.callsN B M _ _ q2 v2 w _ ?side1 HBB.out ?side2 HLIM.out.1 ?side3 ?side4 HV2.out).mono ?_); (case side1 => exact HB4.out); (case side2 => exact HM4.out); (case side3 => exact Kd.C_kept_own HQR.out (fun _ h1_ h2_ => h1_ h2_)); (case side4 => exact (Kd.R_reads' HQR.out).2.1); rintro e w5 ⟨rfl, hm5, hb5, hk5⟩; have HM5 := Aside0.mk hm5; have HB5 := Aside0.mk hb5; have HP5 := Aside0.mk (Kd.R_kept HP4.out hk5 (fun _ h1_ h2_ => h1_ h2_)); have HL5 := Aside0.mk (Kd.R_kept HL4.out hk5 (fun _ h1_ h2_ => h1_ h2_)); clear hm5 hb5 hk5))
                  go_roundg (ds.length - (m + 1))
                  case measure => omega
                  case rel => exact ⟨m + 1, M + 1853020188851841, wrap64 (s2 + v2), (by first | rfl | (simp; done)), (by first | go_num | (congr 1; unfold wrap64; omega)), by omega, by omega, HRI, HP5, HL5, HM5, ⟨HLIM.out.2⟩, HB5⟩
                · rw [if_neg hc] at hri
                  have HRI := Aside0.mk hri
                  have hc0 : decide (z < x) = false := decide_eq_false hc
                  clear hri hc
                  go_wp2
                  go_roundg (ds.length - (m + 1))
                  case measure => omega
                  case rel => exact ⟨m + 1, M, s2, rfl, (by first | go_num | (congr 1; unfold wrap64; omega)), by omega, by omega, HRI, ⟨(by (with_reducible repeat (first | apply Kd.R_alloc | apply Kd.R_drewN | apply Kd.R_drew)); exact HP.out)⟩, ⟨(by (with_reducible repeat (first | apply Kd.R_alloc | apply Kd.R_drewN | apply Kd.R_drew)); exact HL.out)⟩, ⟨HM.out.below (by repeat (first | exact Below.refl _ _ | apply below_alloc | apply pw_below_drewN | apply below_drew1))⟩, ⟨impl_RankOfLeast.b2 HNN.out⟩, ⟨(by repeat (first | exact HB.out | apply below_alloc | apply pw_below_drewN | apply below_drew1))⟩⟩
              · have hltz2 : ¬ (m : Int) < (ds.length : Int) := by omega
                have hri := HRI.out
                rw [List.drop_eq_nil_of_le (by omega), impl_RankOfLeast.di] at hri
                obtain rfl := Option.some.inj hri
                clear hri HRI
                go_wp2_with (go_at_call 44; (with_reducible refine (impl_exchanged.calls _ _ p x q _ ?side1 ?side2 HQ.out).mono ?_); (case side1 => (repeat (first | exact (Kd.R_reads' HP.out).2.2 | (with_reducible refine Kd.C_alloc ?_ _) | (with_reducible refine Kd.C_drewN ?_ _) | (with_reducible refine Kd.C_drew ?_)))); (case side2 => exact (Kd.R_reads' HP.out).2.1); rintro e w6 ⟨v6, rfl, ho6, hb6_⟩; have hb6 := below_step (w := wr) (by repeat (first | exact Below.refl _ _ | apply below_alloc | apply pw_below_drewN | apply below_drew1)) hb6_; clear hb6_; have HP6 := Aside0.mk (Kd.R_lower (Kd.R_mono (Kd.R_bound ho6) (fun k_ h_ => (show k_ ≠ B from fun e_ => by have h1_ := HM.out.lt; have h2_ := h_.2.1; exact absurd (Nat.lt_of_lt_of_le h1_ h2_) (by rw [e_]; exact Nat.lt_irrefl B)))) (show w.heap.size ≤ _ from HB.out.size)); have HB6 := Aside0.mk (below_step HB.out hb6); have HM6 := Aside0.mk (HM.out.below hb6); clear hb6 ho6; obtain ⟨A6, c6, e6⟩ := Kd.R_slice HP6.out; subst e6)
                go_roundg (l0_1.length - (i + 1))
                case measure => omega
                case rel => exact ⟨i + 1, M, s2, q, A6, c6, rfl, rfl, (by have := HLEN.out; first | go_num | (congr 1; unfold wrap64; omega)), by omega, by omega, HRO2, HP6, HM6, ⟨impl_RankOfLeast.b4 (by have := HD8.out; omega) HNN.out⟩, HB6⟩
          · cases hro
        · have hltz : ¬ (i : Int) < (l0_1.length : Int) := by omega
          have hro := HRO.out
          rw [List.drop_eq_nil_of_le (by omega), impl_RankOfLeast.ro] at hro
          obtain rfl := Option.some.inj hro
          clear hro HRO
          go_wp2
          go_ret2
          exact ⟨rfl, (by repeat (first | exact HB.out | apply below_alloc | apply pw_below_drewN | apply below_drew1))⟩
    · cases h

end
end Go.Proofs.Ytheeffchjdkhnaa.PRl
