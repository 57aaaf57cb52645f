-- Written for this claim by a program of this session (myprint.py) over the kit's printer.
import Derived.Test.YtlmiiijjjcddkaaGreatDoorPLgx0
import Derived.Test.YtlmiiijjjcddkaaGreatDoorPLgx1
namespace Go.Proofs.YtlmiiijjjcddkaaGreatDoor.PLg
noncomputable section
open Go.RowKit Go.Proofs.YtlmiiijjjcddkaaGreatDoorW.PrintWords Go.Proofs.YtlmiiijjjcddkaaGreatDoorW.PrintLast Go.Proofs.YtlmiiijjjcddkaaGreatDoorW.PrintMore
attribute [local go_sem] max2_int min2_int max_two min_two max_three min_three max_four min_four   -- for this text's walks alone
open List (setIfInBounds_toArray set_cons_zero set_cons_succ)
set_option maxHeartbeats 8000000
set_option maxRecDepth 100000
set_option linter.unusedVariables false
set_option linter.unusedSimpArgs false
/-! ### slices_Reverse_int_int: function 58 -/
def slices_Reverse_int_int.l0 : Nat → List Int → Int → Int → Option (List Int)
 | 0, _, _, _ => none
 | k + 1, x0, x2, x3 => if x2 < x3 then (if 0 ≤ x3 then (if x3 < (x0.length : Int) then (if 0 ≤ x2 then (if x2 < (x0.length : Int) then (slices_Reverse_int_int.l0 k ((x0.set (x2 : Int).toNat (rd x0 x3)).set (x3 : Int).toNat (rd x0 x2)) (wrap64 (x2 + 1)) (wrap64 (x3 - 1))) else (none)) else (none)) else (none)) else (none)) else (some x0)
def slices_Reverse_int_int.f (k : Nat) (l0 : List Int) : Option (List Int) := slices_Reverse_int_int.l0 k l0 0 (wrap64 ((l0.length : Int) - 1))
theorem slices_Reverse_int_int.mono_l : ∀ k, (∀ y0 y1 y2, LeO (slices_Reverse_int_int.l0 k y0 y1 y2) (slices_Reverse_int_int.l0 (k + 1) y0 y1 y2))
 | 0 => fun _ _ _ r h => by simp [slices_Reverse_int_int.l0] at h
 | k + 1 => by
  have ih0 := slices_Reverse_int_int.mono_l k
  ·intro y0 y1 y2
   unfold slices_Reverse_int_int.l0
   repeat' first | (with_reducible first | exact ih0 _ _ _ | exact LeO.refl _ | exact LeO.none _ | refine LeO.ite ?_ ?_ | refine LeO.bind ?_ (fun _ => ?_))
theorem slices_Reverse_int_int.mono : ∀ a0 k, LeO (slices_Reverse_int_int.f k a0) (slices_Reverse_int_int.f (k + 1) a0) := by
 intro a0 k
 have ih0 := slices_Reverse_int_int.mono_l k
 unfold slices_Reverse_int_int.f
 repeat' first | (with_reducible first | exact ih0 _ _ _ | exact LeO.refl _ | exact LeO.none _ | refine LeO.ite ?_ ?_ | refine LeO.bind ?_ (fun _ => ?_))
def slices_Reverse_int_int.T3 : Bool × List (List Nat × List Nat) := (true, [([], []), ([], []), ([], []), ([], []), ([], []), ([], []), ([4, 5], [4, 5]), ([6], [6]), ([], []), ([], []), ([8, 9], [8, 9]), ([10], [10]), ([0, 1, 0, 1, 4, 5, 6, 7, 11], [0, 1]), ([12, 7, 0, 1, 4, 5, 6, 7, 11], [7, 12]), ([2, 3, 0, 1, 2, 3, 4, 5, 6, 7, 8, 9, 10, 11, 12, 13], [2, 3]), ([14, 11, 13, 0, 1, 2, 3, 4, 5, 6, 7, 8, 9, 10, 11, 12, 13], [11, 14])])
def slices_Reverse_int_int.B3 : List Nat := [0, 0, 0, 0, 0, 0, 48, 112, 0, 0, 768, 1792, 4083, 8179, 16383, 32767]
theorem slices_Reverse_int_int.tab3 : rtab .any (opsOf Tryz.f58 3) = slices_Reverse_int_int.T3 := by kernel_rfl
theorem slices_Reverse_int_int.bits3 : waitsOk slices_Reverse_int_int.T3.2 slices_Reverse_int_int.B3 = true := by kernel_rfl
theorem slices_Reverse_int_int.calls (k : Nat) (P0_ : Nat → Prop) (u9000_ : Value) (l0 : List Int) (r : List Int) (w0 w : World) (hB : Below w0.heap.size w0 w) (ho0 : Kd.R (Kd.int .i64) 3 w w0.heap.size P0_ u9000_ l0) (h : slices_Reverse_int_int.f k l0 = some r) :
  Calls Tryz.prog 58 #[u9000_] w fun e w' => e = .returned (.tuple #[]) ∧ Kd.R (Kd.int .i64) 3 w' w0.heap.size (fun k_ => (P0_ k_ ∨ w.heap.size ≤ k_)) u9000_ r ∧ Below w0.heap.size w0 w' ∧ Kept w w' (fun k_ => P0_ k_) := by
 have HO0 := am (show Kd.R (Kd.int .i64) 3 w w0.heap.size (fun k_ => (P0_ k_ ∨ w.heap.size ≤ k_)) u9000_ l0 from Kd.R_mono ho0 (fun k_ hk => (.inl hk)))
 have HK := am (Kept.refl w (fun k_ => P0_ k_))
 have HW0 := am hB.size
 have HB := am hB
 clear hB
 unfold slices_Reverse_int_int.f at h
 have H := h
 clear h
 have H' := am H
 clear H
 obtain ⟨Ao2, co2, eo2⟩ := Kd.R_slice HO0.out
 subst eo2
 go_enter Tryz.func58, Tryz.ntmps58
 go_wp2
 go_loopg [2, 3] k (fun kq v2 v3 w' => ∃ (x0_1 : List Int) (x2_1 : Int) (x3_1 : Int), v2 = .int .i64 x2_1 ∧ v3 = .int .i64 x3_1 ∧ Aside0 (slices_Reverse_int_int.l0 kq x0_1 x2_1 x3_1 = some r) ∧ Aside0 (kq ≤ k) ∧ Aside0 (Kd.R (Kd.int .i64) 3 w' w0.heap.size (fun k_ => (P0_ k_ ∨ w.heap.size ≤ k_)) (.slice Ao2 l0.length co2) x0_1) ∧ Aside0 (Kept w w' (fun k_ => P0_ k_)) ∧ Aside0 (Below w0.heap.size w0 w'))
 case atStart => exact ⟨(l0), (0), (wrap64 ((l0.length : Int) - 1)), zq10, zq10, H', ⟨Nat.le_refl _⟩, ⟨by (with_reducible repeat (first | apply Kd.R_alloc | apply Kd.R_drewN | apply Kd.R_drew)); exact HO0.out⟩, ⟨zq29⟩, ⟨zq13⟩⟩
 case round =>
  clear H'
  obtain ⟨x0_1, x2_1, x3_1, rfl, rfl, HA, HK1, HO_0, HK, HB⟩ := hrel
  have hl0_1 := (Kd.R_reads' HO_0.out).1
  rw [hl0_1] at HO_0
  (try simp only [hl0_1])
  cases gk with
  | zero => exact absurd HA.out (by simp [slices_Reverse_int_int.l0])
  | succ k1 =>
   have H := HA.out
   clear HA
   simp only [slices_Reverse_int_int.l0] at H
   by_cases c3 : x2_1 < x3_1
   ·rw [if_pos c3] at H
    have c3b0 := decide_eq_true c3
    clear c3
    obtain ⟨c4, H⟩ := zI H
    have c4b0 := decide_eq_true c4
    clear c4
    obtain ⟨c5, H⟩ := zI H
    have c5b0 := decide_eq_true c5
    clear c5
    obtain ⟨c6, H⟩ := zI H
    have c6b0 := decide_eq_true c6
    clear c6
    obtain ⟨c7, H⟩ := zI H
    have c7b0 := decide_eq_true c7
    clear c7
    obtain ⟨y173, Ny173⟩ : ∃ y_ : List Int, Aside0 (y_ = (x0_1.set (x2_1 : Int).toNat (rd x0_1 x3_1))) := ⟨_, ⟨rfl⟩⟩
    rw [← Ny173.out] at H
    obtain ⟨y174, Ny174⟩ : ∃ y_ : List Int, Aside0 (y_ = (y173.set (x3_1 : Int).toNat (rd x0_1 x2_1))) := ⟨_, ⟨rfl⟩⟩
    rw [← Ny174.out] at H
    have H' := am H
    clear H
    try go_wp2
    replace HO_0 := am (Kd.R_drew HO_0.out)
    replace HK := am (Kept.drew HK.out)
    replace HB := am (below_drew1 HB.out)
    have p171 : 0 ≤ (x3_1 : Int) := of_decide_eq_true zq9
    have q171 : x3_1 < (x0_1.length : Int) := of_decide_eq_true zq9
    obtain ⟨ad171, e171, hx171_0⟩ := Kd.at_int (Kd.R_reads' HO_0.out).2.2 x3_1 p171 q171
    cases e171
    replace p171 := eq_true p171
    replace q171 := eq_true q171
    have p172 : 0 ≤ (x2_1 : Int) := of_decide_eq_true zq9
    have q172 : x2_1 < (x0_1.length : Int) := of_decide_eq_true zq9
    obtain ⟨ad172, e172, hx172_0⟩ := Kd.at_int (Kd.R_reads' HO_0.out).2.2 x2_1 p172 q172
    obtain rfl : ad171 = ad172 := (by injection e172)
    replace p172 := eq_true p172
    replace q172 := eq_true q172
    have p8 : 0 ≤ (x2_1 : Int) := of_decide_eq_true zq9
    have q8 : (x2_1 : Int) < ((x0_1.length : Int) : Int) := of_decide_eq_true zq9
    obtain ⟨go8, co8, eo8, gb8, gl8, cl8, HG8⟩ := Kd.R_form HO_0.out zq32
    (first | cases eo8 | (injection eo8 with ea_ en_ ec_; (first | subst ea_ | (injection ea_ with ea_; subst ea_)); subst ec_; clear en_))
    have GB8 := am gb8
    have GG8 := am HG8
    clear gb8 gl8 HG8
    have HMgo8 := am (show (P0_ go8 ∨ w.heap.size ≤ go8) from (HO_0.out.1 _ rfl))
    (first | simp only [add_plain] at hx171_0 | skip)
    (first | simp only [add_plain] at hx172_0 | skip)
    obtain ⟨hx8_0, hf8_0⟩ := Kd.R_celln 0 HO_0.out (x2_1 : Int) p8 q8
    replace p8 := eq_true p8
    replace q8 := eq_true q8
    have HP11 := Kd.R_putn HO_0.out (x2_1 : Int) (rd x0_1 x3_1)
    rw [← Ny173.out] at HP11
    have HQ11 := am HP11
    clear HP11
    have p9 : 0 ≤ (x3_1 : Int) := of_decide_eq_true zq9
    have q9 : (x3_1 : Int) < ((x0_1.length : Int) : Int) := of_decide_eq_true zq9
    obtain ⟨hx9_0, hf9_0⟩ := Kd.R_celln 0 HQ11.out (x3_1 : Int) p9 q9
    replace p9 := eq_true p9
    replace q9 := eq_true q9
    have HP12 := Kd.R_putn HQ11.out (x3_1 : Int) (rd x0_1 x2_1)
    rw [← Ny174.out] at HP12
    have HQ12 := am HP12
    clear HP12
    refine start_ (n := 16) (S := fun w' => w'.cell? ⟨go8, (x3_1).toNat, none⟩ = some (.int .i64 (rd x0_1 x3_1)) ∧ w'.cell? ⟨go8, (x2_1).toNat, none⟩ = some (.int .i64 (rd x0_1 x2_1))) (ds := [13, 15]) #[false, false, false, false, false, false, false, false, false, false, false, false, false, false, false, false] zq15 rfl rfl ⟨hx171_0, hx172_0⟩ (fun hHeld => ?_); refine with_tabW slices_Reverse_int_int.tab3 slices_Reverse_int_int.bits3 (fun HT_ HW_ => ?_)
    generalize wr.drew = w10 at HO_0 HK HB GG8 HQ11 HQ12 hf8_0 hf9_0 hx171_0 hx172_0 hx8_0 hx9_0 hHeld ⊢
    refine zU 0 14 HT_ ?_
    refine zU 1 15 HT_ ?_
    refine zU 2 16 HT_ ?_
    refine zU 3 17 HT_ ?_
    refine zU 4 18 HT_ ?_
    refine zU 5 19 HT_ ?_
    refine zU 6 20 HT_ ?_
    refine zU 8 22 HT_ ?_
    refine zU 9 23 HT_ ?_
    refine zU 10 24 HT_ ?_
    refine zT 7 21 HT_ HW_ hHeld ?_
    refine zT 11 25 HT_ HW_ hHeld ?_
    refine zU 12 26 HT_ ?_
    refine last_ (i := 13) (N := none) #[true, true, true, true, true, true, true, true, true, true, true, true, true, true, false, false] rfl rfl (one_of HT_.out zq15) zq27 (fun K hK => ?_)
    refine skip_ (w1 := ?_) (by rfl) rfl ?_ ?_
    rotate_left
    ·go_simp
     rfl
    refine hK.out _ _ ?_
    clear hK K
    refine zU 14 27 HT_ ?_
    refine last_ (i := 15) (N := none) #[true, true, true, true, true, true, true, true, true, true, true, true, true, true, true, true] rfl rfl (one_of HT_.out zq15) zq27 (fun K hK => ?_)
    refine skip_ (w1 := ?_) (by rfl) rfl ?_ ?_
    rotate_left
    ·go_simp
     rfl
    refine hK.out _ _ ?_
    clear hK K
    refine done_ (done_of HT_.out zq15) ?_
    try go_wp2
    (try simp only [← hl0_1])
    go_roundg k1
    case measure => have := HK1.out; omega
    case rel => exact ⟨(y174), (wrap64 (x2_1 + 1)), (wrap64 (x3_1 - 1)), zq10, zq10, H', ⟨zq82⟩, ⟨by (try simp only [hl0_1]); (with_reducible repeat (first | apply Kd.R_alloc | apply Kd.R_drewN | apply Kd.R_drew)); exact HQ12.out⟩, ⟨by repeat (first | (with_reducible first | exact HK.out | apply Kept.alloc | apply Kept.drewN | apply Kept.drew | refine Kept.setCell ?_ HMgo8.out _ | refine Kept.setCell ?_ HMgo8.out _) | exact HK.out)⟩, ⟨by repeat (first | (with_reducible first | exact HB.out | apply below_alloc | apply pw_below_drewN | apply below_drew1 | refine below_set ?_ GB8.out | refine below_set ?_ GB8.out) | exact HB.out)⟩⟩
   ·rw [if_neg c3] at H
    have c3b0 := decide_eq_false c3
    clear c3
    obtain rfl := Option.some.inj H
    go_wp2
    first | go_end0 | ((try simp only [Exit.inBlock, Exit.then]); refine bodyPost_ret (results_none rfl _ _ _) rfl ?_)
    exact ⟨zq6, (by first | exact (pRq HO_0) | (simp only [hl0_1]; exact (pRq HO_0))), zq13, zq29⟩
/-! ### impl_TurnLadder: function 7 -/
def impl_TurnLadder.f (k : Nat) (a0_0 : Int) (l0_1 : List Int) : Option (Int × List Int × Bool) := (impl_isLadder.f a0_0 l0_1).bind fun t177 => (if t177 = true then ((slices_Clone_int_int.f l0_1).bind fun t178 => ((slices_Reverse_int_int.f k t178).bind fun t182 => (some (a0_0, t182, true)))) else (some (0, ([] : List Int), false)))
theorem impl_TurnLadder.mono : ∀ a0 a1 k, LeO (impl_TurnLadder.f k a0 a1) (impl_TurnLadder.f (k + 1) a0 a1) := by
 intro a0 a1 k
 unfold impl_TurnLadder.f
 repeat' first | (with_reducible first | exact slices_Reverse_int_int.mono _ _ | exact LeO.refl _ | exact LeO.none _ | refine LeO.ite ?_ ?_ | refine LeO.bind ?_ (fun _ => ?_))
def impl_TurnLadder.T3 : Bool × List (List Nat × List Nat) := (true, [([], []), ([0], [0]), ([], []), ([2], [2]), ([3], [3]), ([1, 4], [1, 4]), ([], []), ([6, 5, 4, 0, 1, 2, 3, 4, 5, 6], [5, 6])])
def impl_TurnLadder.B3 : List Nat := [0, 1, 0, 4, 12, 31, 0, 127]
theorem impl_TurnLadder.tab3 : rtab .any (opsOf Tryz.f7 3) = impl_TurnLadder.T3 := by kernel_rfl
theorem impl_TurnLadder.bits3 : waitsOk impl_TurnLadder.T3.2 impl_TurnLadder.B3 = true := by kernel_rfl
theorem impl_TurnLadder.calls (k : Nat) (a0_0 : Int) (A0_1 : Option Addr) (c0_1 : Nat) (l0_1 : List Int) (r1 : Int) (r2 : List Int) (r3 : Bool) (w : World) (hr0_1 : Kd.C (Kd.int .i64) w A0_1 l0_1.length l0_1) (hc0_1 : l0_1.length ≤ c0_1) (h : impl_TurnLadder.f k a0_0 l0_1 = some (r1, r2, r3)) :
  Calls Tryz.prog 7 #[.agg #[.int .i64 a0_0, .slice A0_1 l0_1.length c0_1]] w fun e w' => ∃ v1_ : Value, e = .returned (.tuple #[.agg #[.int .i64 r1, v1_], .bool r3]) ∧ Kd.R (Kd.int .i64) 3 w' w.heap.size (fun _ => True) v1_ r2 ∧ Below w.heap.size w w' := by
 have hu26 := Tryz.underlying26
 have HR0_1 := am hr0_1
 have HC0_1 := am hc0_1
 clear hr0_1 hc0_1
 have HB := am (Below.refl w.heap.size w)
 unfold impl_TurnLadder.f at h
 have H := h
 clear h
 obtain ⟨t177, A2, H⟩ := zS H
 (try dsimp only at H)
 by_cases c3 : t177 = true
 ·subst c3
  rw [if_pos rfl] at H
  obtain ⟨t178, A4, H⟩ := zS H
  (try dsimp only at H)
  obtain ⟨t182, A5, H⟩ := zS H
  (try dsimp only at H)
  simp only [Option.some.injEq, Prod.mk.injEq] at H
  obtain ⟨rfl, rfl, rfl⟩ := H
  go_enter Tryz.func7, Tryz.ntmps7
  try go_wp2_with (first | ((with_reducible refine gate_dst (N := 1) rfl ?_); refine zE 1 (cs := #[.int .i64 a0_0, .slice A0_1 l0_1.length c0_1]) 26 ?_; intro gb175 hg w6 hbox hb; have BK175 := am (hbox); have GW175 := am ((zq19 : w.heap.size ≤ gb175)); have GE175 := am ((zq19 : w.heap.size ≤ gb175)); replace HB := sB HB hb; clear hb hbox hg) | ((with_reducible refine gate_dst (N := 2) rfl ?_); refine zE 2 (cs := #[.int .i64 0, .slice none 0 0]) 26 ?_; intro gb176 hg w7 hbox hb; have BK176 := am (hbox); have GW176 := am ((zq19 : w.heap.size ≤ gb176)); have GE176 := am ((zq19 : w.heap.size ≤ gb176)); have NB175_176 := am ((zq106 : gb175 ≠ gb176)); have NB176_175 := am ((zq108 : gb176 ≠ gb175)); replace BK175 := sK BK175 hb; replace HB := sB HB hb; clear hb hbox hg; have hnb8 := NB175_176.out; have hnc8 := NB176_175.out; obtain ⟨hcz9_0, hcz9_1, hfz9_0, hfz9_1⟩ := sC BK175) | ((with_reducible refine gate_callee (f := 56) rfl ?_); refine goesL_ (some 6) rfl rfl Tryz.func56 zq15 rfl #[.agg #[.int .i64 a0_0, .slice A0_1 l0_1.length c0_1]] rfl zq0 ?_; (with_reducible refine (impl_isLadder.calls a0_0 _ _ l0_1 true _ ?side1 ?side2 A2.out).mono ?_); (case side1 => exact zq7); (case side2 => exact zq97); rintro e w10 ⟨rfl, hb⟩; refine ⟨_, rfl, ?_⟩; replace BK175 := sK BK175 hb; replace BK176 := sK BK176 hb; replace HB := sB HB hb; (try clear hb)))
  replace BK175 := am (blk_drew BK175.out)
  replace BK176 := am (blk_drew BK176.out)
  replace HB := am (below_drew1 HB.out)
  refine start_ (n := 8) (S := fun w' => w'.cell? ⟨gb175, 0, none⟩ = some (.int .i64 a0_0) ∧ w'.cell? ⟨gb175, 1, none⟩ = some (.slice A0_1 l0_1.length c0_1)) (ds := []) #[false, false, false, false, false, false, false, false] zq15 rfl rfl ⟨(blk_cell BK175.out 0).trans rfl, (blk_cell BK175.out 1).trans rfl⟩ (fun hHeld => ?_); refine with_tabW impl_TurnLadder.tab3 impl_TurnLadder.bits3 (fun HT_ HW_ => ?_)
  generalize w10.drew = w11 at BK175 BK176 HB hHeld ⊢
  refine zU 0 9 HT_ ?_
  refine zU 2 11 HT_ ?_
  refine zT 1 10 HT_ HW_ hHeld ?_
  refine zT 3 12 HT_ HW_ hHeld ?_
  refine join_ (σ := Value × Nat) 1 #[true, true, true, true, true, true, true, false] (fun s_ => [(13, s_.1), (4, .pointer (some ⟨s_.2, 0, none⟩)), (14, .agg #[.int .i64 a0_0, s_.1])]) (fun s_ w' => (w'.cell? ⟨gb175, 0, none⟩ = some (.int .i64 a0_0) ∧ w'.cell? ⟨gb175, 1, none⟩ = some (.slice A0_1 l0_1.length c0_1)) ∧ (Kd.R (Kd.int .i64) 3 w' w.heap.size (fun _ => True) s_.1 t178) ∧ (w'.heap[gb175]? = some (.cells #[.int .i64 a0_0, .slice A0_1 l0_1.length c0_1] 26 (0, 0))) ∧ (w'.heap[gb176]? = some (.cells #[.int .i64 0, .slice none 0 0] 26 (0, 0))) ∧ (w'.heap[s_.2]? = some (.cells #[.int .i64 0, .slice none 0 0] 26 (0, 0))) ∧ (w.heap.size ≤ s_.2) ∧ (w.heap.size ≤ s_.2) ∧ (gb175 ≠ s_.2) ∧ (s_.2 ≠ gb175) ∧ (gb176 ≠ s_.2) ∧ (s_.2 ≠ gb176) ∧ (Below w.heap.size w w')) ?_ ?_
  rotate_left
  ·intro hCont
   refine two_ (i := 4) (j := 6) (Ni := some 13) (Nj := some 4) #[true, true, true, true, true, false, false, false] #[true, true, true, true, false, false, true, false] rfl rfl rfl rfl (two_of HT_.out zq15) zq27 zq27 (fun K hK => ?_) (fun K hK => ?_)
   ·skip
    refine goes_ Tryz.func57 zq15 rfl #[.slice A0_1 l0_1.length c0_1] (by rfl) rfl rfl zq0 ?_
    with_reducible refine (slices_Clone_int_int.calls _ _ l0_1 t178 _ ?side1 ?side2 A4.out).mono ?_
    (case side1 => exact zq7)
    (case side2 => exact zq97)
    rintro e w12 ⟨v179, rfl, ho0, hb⟩
    refine ⟨_, rfl, ?_⟩
    have HO180 := am (Kd.R_lower ho0 (below_size (pBq HB)))
    replace BK175 := sK BK175 hb
    replace BK176 := sK BK176 hb
    replace HB := sB HB hb
    (try clear hb)
    (try clear hb2)
    (try clear hk)
    (try clear hi)
    (try clear ho0)
    obtain ⟨Ao13, co13, eo13⟩ := Kd.R_slice HO180.out
    (first | subst eo13 | (injection eo13 with f1_ f2_ f3_; have f4_ := f1_.symm; have f5_ := f3_.symm; clear f1_ f2_ f3_; subst f4_; subst f5_))
    refine hK.out _ _ ⟨(blk_cell BK175.out 0).trans rfl, (blk_cell BK175.out 1).trans rfl⟩ (fun hHeld => ?_)
    clear hK K
    refine zN 13 ?_
    refine zU 5 14 HT_ ?_
    refine zO 6 4 HT_ fun K hK => ?_
    refine box_step ?hg (N := 4) ?hd (cs := #[.int .i64 0, .slice none 0 0]) (t := 26) ?hr ?_; (case hd => rfl); (case hg => rfl); (case hr => exact zq30)
    intro gb181 hg w14 hbox hb
    have BK181 := am (hbox)
    have GW181 := am ((zq19 : w.heap.size ≤ gb181))
    have GE181 := am ((zq19 : w.heap.size ≤ gb181))
    have NB175_181 := am ((zq106 : gb175 ≠ gb181))
    have NB181_175 := am ((zq108 : gb181 ≠ gb175))
    have NB176_181 := am ((by rw [hg]; exact Nat.ne_of_lt (blk_lt (pKq BK176)) : gb176 ≠ gb181))
    have NB181_176 := am ((by rw [hg]; exact Nat.ne_of_gt (blk_lt (pKq BK176)) : gb181 ≠ gb176))
    replace HO180 := sR HO180 hb
    replace BK175 := sK BK175 hb
    replace BK176 := sK BK176 hb
    replace HB := sB HB hb
    clear hb hbox hg
    refine hK.out _ _ ⟨(blk_cell BK175.out 0).trans rfl, (blk_cell BK175.out 1).trans rfl⟩ (fun hHeld => ?_)
    clear hK K
    refine zN 4 ?_
    exact norm_ zq60 (hCont (.slice Ao13 t178.length co13, gb181) _ ⟨hHeld, (pRq HO180), (pKq BK175), (pKq BK176), (pKq BK181), GW181.out, GE181.out, NB175_181.out, NB181_175.out, NB176_181.out, NB181_176.out, (pBq HB)⟩)
   ·skip
    refine box_step ?hg (N := 4) ?hd (cs := #[.int .i64 0, .slice none 0 0]) (t := 26) ?hr ?_; (case hd => rfl); (case hg => rfl); (case hr => exact zq30)
    intro gb181 hg w12 hbox hb
    have BK181 := am (hbox)
    have GW181 := am ((zq19 : w.heap.size ≤ gb181))
    have GE181 := am ((zq19 : w.heap.size ≤ gb181))
    have NB175_181 := am ((zq106 : gb175 ≠ gb181))
    have NB181_175 := am ((zq108 : gb181 ≠ gb175))
    have NB176_181 := am ((by rw [hg]; exact Nat.ne_of_lt (blk_lt (pKq BK176)) : gb176 ≠ gb181))
    have NB181_176 := am ((by rw [hg]; exact Nat.ne_of_gt (blk_lt (pKq BK176)) : gb181 ≠ gb176))
    replace BK175 := sK BK175 hb
    replace BK176 := sK BK176 hb
    replace HB := sB HB hb
    clear hb hbox hg
    refine hK.out _ _ ⟨(blk_cell BK175.out 0).trans rfl, (blk_cell BK175.out 1).trans rfl⟩ (fun hHeld => ?_)
    clear hK K
    refine zN 4 ?_
    refine zO 4 13 HT_ fun K hK => ?_
    refine goes_ Tryz.func57 zq15 rfl #[.slice A0_1 l0_1.length c0_1] (by rfl) rfl rfl zq0 ?_
    with_reducible refine (slices_Clone_int_int.calls _ _ l0_1 t178 _ ?side1 ?side2 A4.out).mono ?_
    (case side1 => exact zq7)
    (case side2 => exact zq97)
    rintro e w13 ⟨v179, rfl, ho0, hb⟩
    refine ⟨_, rfl, ?_⟩
    have HO180 := am (Kd.R_lower ho0 (below_size (pBq HB)))
    replace BK175 := sK BK175 hb
    replace BK176 := sK BK176 hb
    replace BK181 := sK BK181 hb
    replace HB := sB HB hb
    (try clear hb)
    (try clear hb2)
    (try clear hk)
    (try clear hi)
    (try clear ho0)
    obtain ⟨Ao14, co14, eo14⟩ := Kd.R_slice HO180.out
    (first | subst eo14 | (injection eo14 with f1_ f2_ f3_; have f4_ := f1_.symm; have f5_ := f3_.symm; clear f1_ f2_ f3_; subst f4_; subst f5_))
    refine hK.out _ _ ⟨(blk_cell BK175.out 0).trans rfl, (blk_cell BK175.out 1).trans rfl⟩ (fun hHeld => ?_)
    clear hK K
    refine zN 13 ?_
    refine zU 5 14 HT_ ?_
    exact norm_ zq60 (hCont (.slice Ao14 t178.length co14, gb181) _ ⟨hHeld, (pRq HO180), (pKq BK175), (pKq BK176), (pKq BK181), GW181.out, GE181.out, NB175_181.out, NB181_175.out, NB176_181.out, NB181_176.out, (pBq HB)⟩)
  rintro ⟨v179, gb181⟩ w15 ⟨hS_, h0_, h1_, h2_, h3_, h4_, h5_, h6_, h7_, h8_, h9_, h10_⟩
  (try dsimp only at hS_ h0_ h1_ h2_ h3_ h4_ h5_ h6_ h7_ h8_ h9_ h10_)
  have HO180 := am h0_
  replace BK175 := am h1_
  replace BK176 := am h2_
  have BK181 := am h3_
  have GW181 := am h4_
  have GE181 := am h5_
  have NB175_181 := am h6_
  have NB181_175 := am h7_
  have NB176_181 := am h8_
  have NB181_176 := am h9_
  replace HB := am h10_
  clear h0_ h1_ h2_ h3_ h4_ h5_ h6_ h7_ h8_ h9_ h10_
  have hHeld := hS_
  obtain ⟨Ao16, co16, eo16⟩ := Kd.R_slice HO180.out
  (first | subst eo16 | (injection eo16 with f1_ f2_ f3_; have f4_ := f1_.symm; have f5_ := f3_.symm; clear f1_ f2_ f3_; subst f4_; subst f5_))
  refine norm_ (a' := ?_) ?_ ?_
  rotate_left
  ·simp only [putAll, Act.put, setIfInBounds_toArray, set_cons_zero, set_cons_succ]
   rfl
  refine one_ (i := 7) (N := none) #[true, true, true, true, true, true, true, true] rfl rfl (one_of HT_.out zq15) zq27 (fun K hK => ?_)
  have hs17 : w15.cell? ⟨gb181, 0, none⟩ = some (.int .i64 0) := (blk_cell BK181.out 0).trans rfl
  have hfs17 := blk_frozen BK181.out 0
  have hns17_0 := NB175_181.out
  have hns17_1 := NB176_181.out
  have hms17_0 := NB181_175.out
  have hms17_1 := NB181_176.out
  have hs18 : w15.cell? ⟨gb181, 1, none⟩ = some (.slice none 0 0) := (blk_cell BK181.out 1).trans rfl
  have hfs18 := blk_frozen BK181.out 1
  have hns18_0 := NB175_181.out
  have hns18_1 := NB176_181.out
  have hms18_0 := NB181_175.out
  have hms18_1 := NB181_176.out
  refine skip_ (w1 := ?_) (by rfl) rfl ?_ ?_
  rotate_left
  ·go_simp
   rfl
  refine hK.out _ _ ⟨((cell_far (p := ⟨gb181, _, none⟩) NB175_181.out _).trans (((cell_far (p := ⟨gb181, _, none⟩) NB175_181.out _).trans (hHeld.1)))), ((cell_far (p := ⟨gb181, _, none⟩) NB175_181.out _).trans (((cell_far (p := ⟨gb181, _, none⟩) NB175_181.out _).trans (hHeld.2))))⟩ (fun hHeld => ?_)
  clear hK K
  refine done_ (done_of HT_.out zq15) ?_
  have n0_ : Aside0 (Kd.R (Kd.int .i64) 3 ((w15.setCell ⟨gb181, 0, none⟩ (.int .i64 a0_0)).setCell ⟨gb181, 1, none⟩ (.slice Ao16 t178.length co16)) w.heap.size (fun _ => True) (.slice Ao16 t178.length co16) t178) := ⟨by (with_reducible repeat (first | apply Kd.R_alloc | apply Kd.R_drewN | apply Kd.R_drew)); exact Kd.R_mono (Kd.R_far (p := ⟨gb181, 1, none⟩) (Kd.R_far (p := ⟨gb181, 0, none⟩) (Kd.R_types HO180.out BK181.out zq27) (fun _ hk => hk.2) (.int .i64 a0_0)) (fun _ hk => hk.2) (.slice Ao16 t178.length co16)) (fun _ hk => trivial)⟩
  have n1_ : Aside0 (((w15.setCell ⟨gb181, 0, none⟩ (.int .i64 a0_0)).setCell ⟨gb181, 1, none⟩ (.slice Ao16 t178.length co16)).heap[gb175]? = some (.cells #[.int .i64 a0_0, .slice A0_1 l0_1.length c0_1] 26 (0, 0))) := ⟨by (with_reducible repeat (first | refine blk_drewN ?_ _ | refine blk_drew ?_ | refine blk_alloc ?_ _)); refine blk_far ?_ NB175_181.out _; (with_reducible repeat (first | refine blk_drewN ?_ _ | refine blk_drew ?_ | refine blk_alloc ?_ _)); refine blk_far ?_ NB175_181.out _; (with_reducible repeat (first | refine blk_drewN ?_ _ | refine blk_drew ?_ | refine blk_alloc ?_ _)); exact BK175.out⟩
  have n2_ : Aside0 (((w15.setCell ⟨gb181, 0, none⟩ (.int .i64 a0_0)).setCell ⟨gb181, 1, none⟩ (.slice Ao16 t178.length co16)).heap[gb176]? = some (.cells #[.int .i64 0, .slice none 0 0] 26 (0, 0))) := ⟨by (with_reducible repeat (first | refine blk_drewN ?_ _ | refine blk_drew ?_ | refine blk_alloc ?_ _)); refine blk_far ?_ NB176_181.out _; (with_reducible repeat (first | refine blk_drewN ?_ _ | refine blk_drew ?_ | refine blk_alloc ?_ _)); refine blk_far ?_ NB176_181.out _; (with_reducible repeat (first | refine blk_drewN ?_ _ | refine blk_drew ?_ | refine blk_alloc ?_ _)); exact BK176.out⟩
  have n3_ : Aside0 (((w15.setCell ⟨gb181, 0, none⟩ (.int .i64 a0_0)).setCell ⟨gb181, 1, none⟩ (.slice Ao16 t178.length co16)).heap[gb181]? = some (.cells #[.int .i64 a0_0, .slice Ao16 t178.length co16] 26 (0, 0))) := ⟨by (with_reducible repeat (first | refine blk_drewN ?_ _ | refine blk_drew ?_ | refine blk_alloc ?_ _)); refine blk_put (cs := #[.int .i64 a0_0, .slice none 0 0]) ?_ 1 _ rfl; (with_reducible repeat (first | refine blk_drewN ?_ _ | refine blk_drew ?_ | refine blk_alloc ?_ _)); refine blk_put (cs := #[.int .i64 0, .slice none 0 0]) ?_ 0 _ rfl; (with_reducible repeat (first | refine blk_drewN ?_ _ | refine blk_drew ?_ | refine blk_alloc ?_ _)); exact BK181.out⟩
  have n4_ : Aside0 (Below w.heap.size w ((w15.setCell ⟨gb181, 0, none⟩ (.int .i64 a0_0)).setCell ⟨gb181, 1, none⟩ (.slice Ao16 t178.length co16))) := ⟨zq1⟩
  (try clear HO180)
  (try clear BK175)
  (try clear BK176)
  (try clear BK181)
  (try clear HB)
  generalize ((w15.setCell ⟨gb181, 0, none⟩ (.int .i64 a0_0)).setCell ⟨gb181, 1, none⟩ (.slice Ao16 t178.length co16)) = w19 at n0_ n1_ n2_ n3_ n4_ ⊢
  have HO180 := n0_
  have BK175 := n1_
  have BK176 := n2_
  have BK181 := n3_
  have HB := n4_
  clear n0_ n1_ n2_ n3_ n4_
  have hnb20 := NB181_175.out
  have hnc20 := NB175_181.out
  have hnb21 := NB181_176.out
  have hnc21 := NB176_181.out
  obtain ⟨hcz22_0, hcz22_1, hfz22_0, hfz22_1⟩ := sC BK181
  try go_wp2_with (first | ((with_reducible refine gate_callee (f := 58) rfl ?_); refine goesL_ (some 17) rfl rfl Tryz.func58 zq15 rfl #[.slice Ao16 t178.length co16] rfl zq0 ?_; (with_reducible refine (slices_Reverse_int_int.calls k (fun k_ => some k_ = (.slice Ao16 t178.length co16 : Value).ownBlock) (.slice Ao16 t178.length co16) t178 t182 w _ ?side1 ?side2 A5.out).mono ?_); (case side1 => exact zq1); (case side2 => exact Kd.R_tight rfl HO180.out); rintro e w23 ⟨rfl, hy0, hb, hkp⟩; refine ⟨_, rfl, ?_⟩; replace BK175 := am (blk_kept (pKq BK175) hkp (fun hs_ => (fun e_ => (Kd.R_ne HO180.out BK175.out zq27) e_) hs_)); replace BK176 := am (blk_kept (pKq BK176) hkp (fun hs_ => (fun e_ => (Kd.R_ne HO180.out BK176.out zq27) e_) hs_)); replace BK181 := am (blk_kept (pKq BK181) hkp (fun hs_ => (fun e_ => (Kd.R_ne HO180.out BK181.out zq27) e_) hs_)); replace HO180 := am (Kd.R_reok rfl hy0 (fun k_ e_ => HO180.out.1 k_ e_)); replace HB := am (hb); (try clear hb hkp hy0); obtain ⟨hcz24_0, hcz24_1, hfz24_0, hfz24_1⟩ := sC BK181; obtain ⟨hcz25_0, hcz25_1, hfz25_0, hfz25_1⟩ := sC BK176))
  refine bodyPost_ret (results_ct rfl _ _ gb176 26 #[.int .i64 a0_0, .slice Ao16 t178.length co16] (0, 0) _ rfl (by (with_reducible repeat (first | refine blk_drewN ?_ _ | refine blk_drew ?_ | refine blk_alloc ?_ _)); refine blk_put (cs := #[.int .i64 a0_0, .slice none 0 0]) ?_ 1 _ rfl; (with_reducible repeat (first | refine blk_drewN ?_ _ | refine blk_drew ?_ | refine blk_alloc ?_ _)); refine blk_put (cs := #[.int .i64 0, .slice none 0 0]) ?_ 0 _ rfl; (with_reducible repeat (first | refine blk_drewN ?_ _ | refine blk_drew ?_ | refine blk_alloc ?_ _)); exact BK176.out) Tryz.underlying26 rfl zq15) rfl ?_
  exact ⟨_, zq6, by (with_reducible repeat (first | apply Kd.R_alloc | apply Kd.R_drewN | apply Kd.R_drew)); exact Kd.R_mono (Kd.R_far (p := ⟨gb176, 1, none⟩) (Kd.R_far (p := ⟨gb176, 0, none⟩) (Kd.R_types HO180.out BK176.out zq27) (fun _ hk => hk.2) (.int .i64 a0_0)) (fun _ hk => hk.2) (.slice Ao16 t178.length co16)) (fun _ hk => trivial), zq1⟩
 ·replace c3 := Bool.eq_false_iff.mpr c3
  subst c3
  rw [if_neg (show ¬ (false = true) by decide)] at H
  simp only [Option.some.injEq, Prod.mk.injEq] at H
  obtain ⟨rfl, rfl, rfl⟩ := H
  go_enter Tryz.func7, Tryz.ntmps7
  go_wp2_with (first | ((with_reducible refine gate_dst (N := 1) rfl ?_); refine zE 1 (cs := #[.int .i64 a0_0, .slice A0_1 l0_1.length c0_1]) 26 ?_; intro gb175 hg w26 hbox hb; have BK175 := am (hbox); have GW175 := am ((zq19 : w.heap.size ≤ gb175)); have GE175 := am ((zq19 : w.heap.size ≤ gb175)); replace HB := sB HB hb; clear hb hbox hg) | ((with_reducible refine gate_dst (N := 2) rfl ?_); refine zE 2 (cs := #[.int .i64 0, .slice none 0 0]) 26 ?_; intro gb176 hg w27 hbox hb; have BK176 := am (hbox); have GW176 := am ((zq19 : w.heap.size ≤ gb176)); have GE176 := am ((zq19 : w.heap.size ≤ gb176)); have NB175_176 := am ((zq106 : gb175 ≠ gb176)); have NB176_175 := am ((zq108 : gb176 ≠ gb175)); replace BK175 := sK BK175 hb; replace HB := sB HB hb; clear hb hbox hg; have hnb28 := NB175_176.out; have hnc28 := NB176_175.out; obtain ⟨hcz29_0, hcz29_1, hfz29_0, hfz29_1⟩ := sC BK175) | ((with_reducible refine gate_callee (f := 56) rfl ?_); refine goesL_ (some 6) rfl rfl Tryz.func56 zq15 rfl #[.agg #[.int .i64 a0_0, .slice A0_1 l0_1.length c0_1]] rfl zq0 ?_; (with_reducible refine (impl_isLadder.calls a0_0 _ _ l0_1 false _ ?side1 ?side2 A2.out).mono ?_); (case side1 => exact zq7); (case side2 => exact zq97); rintro e w30 ⟨rfl, hb⟩; refine ⟨_, rfl, ?_⟩; replace BK175 := sK BK175 hb; replace BK176 := sK BK176 hb; replace HB := sB HB hb; (try clear hb); obtain ⟨hcz31_0, hcz31_1, hfz31_0, hfz31_1⟩ := sC BK176))
  refine bodyPost_ret (results_ct rfl _ _ gb176 26 #[.int .i64 0, .slice none 0 0] (0, 0) _ rfl (by (with_reducible repeat (first | refine blk_drewN ?_ _ | refine blk_drew ?_ | refine blk_alloc ?_ _)); refine blk_put (cs := #[.int .i64 0, .slice none 0 0]) ?_ 1 _ rfl; (with_reducible repeat (first | refine blk_drewN ?_ _ | refine blk_drew ?_ | refine blk_alloc ?_ _)); refine blk_put (cs := #[.int .i64 0, .slice none 0 0]) ?_ 0 _ rfl; (with_reducible repeat (first | refine blk_drewN ?_ _ | refine blk_drew ?_ | refine blk_alloc ?_ _)); exact BK176.out) Tryz.underlying26 rfl zq15) rfl ?_
  exact ⟨_, zq6, zq11, zq1⟩
/-! ### spec_l1In: function 73 -/
def spec_l1In.f (a0 : Int) (a1 : Int) (a2 : Int) : Option (Bool) := if a0 ≥ a1 then (some (decide (a0 ≤ a2))) else (some false)
theorem spec_l1In.calls (a0 : Int) (a1 : Int) (a2 : Int) (r : Bool) (w : World) (h : spec_l1In.f a0 a1 a2 = some r) :
  Calls Tryz.prog 73 #[.int .i64 a0, .int .i64 a1, .int .i64 a2] w fun e w' => e = .returned (.bool r) ∧ Drawn0 w w' := by
 unfold spec_l1In.f at h
 have H := h
 clear h
 by_cases c4 : a0 ≥ a1
 ·rw [if_pos c4] at H
  have c4b0 : decide (a1 ≤ a0) = true := decide_eq_true c4
  clear c4
  obtain rfl := Option.some.inj H
  go_enter Tryz.func73, Tryz.ntmps73
  go_wp2
  go_ret
  exact ⟨zq10, zq17⟩
 ·rw [if_neg c4] at H
  have c4b0 : decide (a1 ≤ a0) = false := decide_eq_false c4
  clear c4
  obtain rfl := Option.some.inj H
  go_enter Tryz.func73, Tryz.ntmps73
  go_wp2
  go_ret
  exact ⟨zq10, zq17⟩
/-! ### spec_l1All: function 107 -/
def spec_l1All.l0 : Nat → Int → Int → List Int → Int → Int → Option (Bool)
 | 0, _, _, _, _, _ => none
 | k + 1, x1, x2, x9, x10, x11 => if x11 < x10 then (if 0 ≤ x11 then (if x11 < (x9.length : Int) then ((spec_l1In.f (rd x9 x11) x1 x2).bind fun t184 => (if t184 = true then (spec_l1All.l0 k x1 x2 x9 x10 (wrap64 (x11 + 1))) else (some false))) else (none)) else (none)) else (some true)
def spec_l1All.f (k : Nat) (l0 : List Int) (a1 : Int) (a2 : Int) : Option (Bool) := spec_l1All.l0 k a1 a2 l0 (l0.length : Int) 0
theorem spec_l1All.mono_l : ∀ k, (∀ y0 y1 y2 y3 y4, LeO (spec_l1All.l0 k y0 y1 y2 y3 y4) (spec_l1All.l0 (k + 1) y0 y1 y2 y3 y4))
 | 0 => fun _ _ _ _ _ r h => by simp [spec_l1All.l0] at h
 | k + 1 => by
  have ih0 := spec_l1All.mono_l k
  ·intro y0 y1 y2 y3 y4
   unfold spec_l1All.l0
   repeat' first | (with_reducible first | exact ih0 _ _ _ _ _ | exact LeO.refl _ | exact LeO.none _ | refine LeO.ite ?_ ?_ | refine LeO.bind ?_ (fun _ => ?_))
theorem spec_l1All.mono : ∀ a0 a1 a2 k, LeO (spec_l1All.f k a0 a1 a2) (spec_l1All.f (k + 1) a0 a1 a2) := by
 intro a0 a1 a2 k
 have ih0 := spec_l1All.mono_l k
 unfold spec_l1All.f
 repeat' first | (with_reducible first | exact ih0 _ _ _ _ _ | exact LeO.refl _ | exact LeO.none _ | refine LeO.ite ?_ ?_ | refine LeO.bind ?_ (fun _ => ?_))
theorem spec_l1All.calls (k : Nat) (A0 : Option Addr) (c0 : Nat) (l0 : List Int) (a1 : Int) (a2 : Int) (r : Bool) (w : World) (hr0 : Kd.C (Kd.int .i64) w A0 l0.length l0) (hc0 : l0.length ≤ c0) (h : spec_l1All.f k l0 a1 a2 = some r) :
  Calls Tryz.prog 107 #[.slice A0 l0.length c0, .int .i64 a1, .int .i64 a2] w fun e w' => e = .returned (.bool r) ∧ Drawn0 w w' := by
 have HR0 := am hr0
 have HC0 := am hc0
 clear hr0 hc0
 unfold spec_l1All.f at h
 have H := h
 clear h
 have H' := am H
 clear H
 go_enter Tryz.func107, Tryz.ntmps107
 go_wp2
 go_loopg [11] k (fun kq v11 w' => ∃ (x11_1 : Int), v11 = .int .i64 x11_1 ∧ Aside0 (spec_l1All.l0 kq a1 a2 l0 (l0.length : Int) x11_1 = some r) ∧ Aside0 (kq ≤ k) ∧ Drawn0 w w')
 case atStart => exact ⟨(0), zq10, H', ⟨Nat.le_refl _⟩, zq17⟩
 case round =>
  clear H'
  obtain ⟨x11_1, rfl, HA, HK1, ⟨m1, rfl⟩⟩ := hrel
  cases gk with
  | zero => exact absurd HA.out (by simp [spec_l1All.l0])
  | succ k1 =>
   have H := HA.out
   clear HA
   simp only [spec_l1All.l0] at H
   by_cases c4 : x11_1 < (l0.length : Int)
   ·rw [if_pos c4] at H
    have c4b0 := decide_eq_true c4
    clear c4
    obtain ⟨c5, H⟩ := zI H
    have c5b0 := decide_eq_true c5
    clear c5
    obtain ⟨c6, H⟩ := zI H
    have c6b0 := decide_eq_true c6
    clear c6
    obtain ⟨t184, A7, H⟩ := zS H
    (try dsimp only at H)
    by_cases c8 : t184 = true
    ·subst c8
     rw [if_pos rfl] at H
     have H' := am H
     clear H
     have p183 : 0 ≤ (x11_1 : Int) := of_decide_eq_true zq9
     have q183 : x11_1 < (l0.length : Int) := of_decide_eq_true zq9
     obtain ⟨ad183, e183, hx183_0⟩ := Kd.at_int HR0.out x11_1 p183 q183
     cases e183
     replace p183 := eq_true p183
     replace q183 := eq_true q183
     go_wp2_with (first | ((with_reducible refine gate_callee (f := 73) rfl ?_); refine goesL_ (some 18) rfl rfl Tryz.func73 zq15 rfl #[.int .i64 (rd l0 x11_1), .int .i64 a1, .int .i64 a2] rfl zq0 ?_; (with_reducible refine (spec_l1In.calls (rd l0 x11_1) a1 a2 true _ A7.out).mono ?_); rintro e w' ⟨rfl, ⟨nd, rfl⟩⟩; refine ⟨_, rfl, ?_⟩))
     go_roundg k1
     case measure => have := HK1.out; omega
     case rel => exact ⟨(wrap64 (x11_1 + 1)), zq10, H', ⟨zq82⟩, zq17⟩
    ·replace c8 := Bool.eq_false_iff.mpr c8
     subst c8
     rw [if_neg (show ¬ (false = true) by decide)] at H
     obtain rfl := Option.some.inj H
     have p183 : 0 ≤ (x11_1 : Int) := of_decide_eq_true zq9
     have q183 : x11_1 < (l0.length : Int) := of_decide_eq_true zq9
     obtain ⟨ad183, e183, hx183_0⟩ := Kd.at_int HR0.out x11_1 p183 q183
     cases e183
     replace p183 := eq_true p183
     replace q183 := eq_true q183
     go_wp2_with (first | ((with_reducible refine gate_callee (f := 73) rfl ?_); refine goesL_ (some 18) rfl rfl Tryz.func73 zq15 rfl #[.int .i64 (rd l0 x11_1), .int .i64 a1, .int .i64 a2] rfl zq0 ?_; (with_reducible refine (spec_l1In.calls (rd l0 x11_1) a1 a2 false _ A7.out).mono ?_); rintro e w' ⟨rfl, ⟨nd, rfl⟩⟩; refine ⟨_, rfl, ?_⟩))
     go_ret
     exact ⟨zq10, zq17⟩
   ·rw [if_neg c4] at H
    have c4b0 := decide_eq_false c4
    clear c4
    obtain rfl := Option.some.inj H
    go_wp2
    go_ret
    exact ⟨zq10, zq17⟩
/-! ### spec_laGood: function 59 -/
def spec_laGood.f (k : Nat) (a0_0 : Int) (l0_1 : List Int) : Option (Bool) := (spec_l1In.f a0_0 2 8).bind fun t186 => (if t186 = true then (if (l0_1.length : Int) ≤ 60 then ((spec_l1All.f k l0_1 0 (wrap64 (a0_0 - 2))).bind fun t187 => (some t187)) else (some false)) else (some false))
theorem spec_laGood.mono : ∀ a0 a1 k, LeO (spec_laGood.f k a0 a1) (spec_laGood.f (k + 1) a0 a1) := by
 intro a0 a1 k
 unfold spec_laGood.f
 repeat' first | (with_reducible first | exact spec_l1All.mono _ _ _ _ | exact LeO.refl _ | exact LeO.none _ | refine LeO.ite ?_ ?_ | refine LeO.bind ?_ (fun _ => ?_))
theorem spec_laGood.calls (k : Nat) (a0_0 : Int) (A0_1 : Option Addr) (c0_1 : Nat) (l0_1 : List Int) (r : Bool) (w : World) (hr0_1 : Kd.C (Kd.int .i64) w A0_1 l0_1.length l0_1) (hc0_1 : l0_1.length ≤ c0_1) (h : spec_laGood.f k a0_0 l0_1 = some r) :
  Calls Tryz.prog 59 #[.agg #[.int .i64 a0_0, .slice A0_1 l0_1.length c0_1]] w fun e w' => e = .returned (.bool r) ∧ Below w.heap.size w w' := by
 have hu26 := Tryz.underlying26
 have HR0_1 := am hr0_1
 have HC0_1 := am hc0_1
 clear hr0_1 hc0_1
 have HB := am (Below.refl w.heap.size w)
 unfold spec_laGood.f at h
 have H := h
 clear h
 obtain ⟨t186, A2, H⟩ := zS H
 (try dsimp only at H)
 by_cases c3 : t186 = true
 ·subst c3
  rw [if_pos rfl] at H
  by_cases c4 : (l0_1.length : Int) ≤ 60
  ·rw [if_pos c4] at H
   have c4b0 := decide_eq_true c4
   have c4b1 : decide (l0_1.length ≤ 60) = true := decide_eq_true zq32
   clear c4
   obtain ⟨t187, A5, H⟩ := zS H
   (try dsimp only at H)
   obtain rfl := Option.some.inj H
   go_enter Tryz.func59, Tryz.ntmps59
   go_wp2_with (first | ((with_reducible refine gate_dst (N := 1) rfl ?_); (try (refine gate_guard (by rfl) ?_; dsimp only)); refine zE 1 (cs := #[.int .i64 a0_0, .slice A0_1 l0_1.length c0_1]) 26 ?_; intro gb185 hg w6 hbox hb; have BK185 := am (hbox); have GW185 := am ((zq19 : w.heap.size ≤ gb185)); have GE185 := am ((zq19 : w.heap.size ≤ gb185)); replace HB := sB HB hb; clear hb hbox hg; obtain ⟨hcz7_0, hcz7_1, hfz7_0, hfz7_1⟩ := sC BK185) | ((with_reducible refine gate_callee (f := 73) rfl ?_); refine goesL_ (some 5) rfl rfl Tryz.func73 zq15 rfl #[.int .i64 a0_0, .int .i64 2, .int .i64 8] rfl zq0 ?_; (with_reducible refine (spec_l1In.calls a0_0 2 8 true _ A2.out).mono ?_); rintro e w' ⟨rfl, ⟨nd, rfl⟩⟩; refine ⟨_, rfl, ?_⟩) | (go_at_call 107; (with_reducible refine (spec_l1All.calls k _ _ l0_1 0 (wrap64 (a0_0 - 2)) t187 _ ?side1 ?side2 A5.out).mono ?_); (case side1 => repeat (first | exact (Kd.C_below HR0_1.out (pBq HB)) | (with_reducible refine Kd.C_alloc ?_ _) | (with_reducible refine Kd.C_drewN ?_ _) | (with_reducible refine Kd.C_drew ?_))); (case side2 => exact zq97); rintro e w' ⟨rfl, ⟨nd, rfl⟩⟩))
   go_ret
   exact ⟨zq6, zq1⟩
  ·rw [if_neg c4] at H
   have c4b0 := decide_eq_false c4
   have c4b1 : decide (l0_1.length ≤ 60) = false := decide_eq_false zq32
   clear c4
   obtain rfl := Option.some.inj H
   go_enter Tryz.func59, Tryz.ntmps59
   go_wp2_with (first | ((with_reducible refine gate_dst (N := 1) rfl ?_); (try (refine gate_guard (by rfl) ?_; dsimp only)); refine zE 1 (cs := #[.int .i64 a0_0, .slice A0_1 l0_1.length c0_1]) 26 ?_; intro gb185 hg w8 hbox hb; have BK185 := am (hbox); have GW185 := am ((zq19 : w.heap.size ≤ gb185)); have GE185 := am ((zq19 : w.heap.size ≤ gb185)); replace HB := sB HB hb; clear hb hbox hg; obtain ⟨hcz9_0, hcz9_1, hfz9_0, hfz9_1⟩ := sC BK185) | ((with_reducible refine gate_callee (f := 73) rfl ?_); refine goesL_ (some 5) rfl rfl Tryz.func73 zq15 rfl #[.int .i64 a0_0, .int .i64 2, .int .i64 8] rfl zq0 ?_; (with_reducible refine (spec_l1In.calls a0_0 2 8 true _ A2.out).mono ?_); rintro e w' ⟨rfl, ⟨nd, rfl⟩⟩; refine ⟨_, rfl, ?_⟩))
   go_ret
   exact ⟨zq6, zq1⟩
 ·replace c3 := Bool.eq_false_iff.mpr c3
  subst c3
  rw [if_neg (show ¬ (false = true) by decide)] at H
  obtain rfl := Option.some.inj H
  go_enter Tryz.func59, Tryz.ntmps59
  go_wp2_with (first | ((with_reducible refine gate_dst (N := 1) rfl ?_); (try (refine gate_guard (by rfl) ?_; dsimp only)); refine zE 1 (cs := #[.int .i64 a0_0, .slice A0_1 l0_1.length c0_1]) 26 ?_; intro gb185 hg w10 hbox hb; have BK185 := am (hbox); have GW185 := am ((zq19 : w.heap.size ≤ gb185)); have GE185 := am ((zq19 : w.heap.size ≤ gb185)); replace HB := sB HB hb; clear hb hbox hg; obtain ⟨hcz11_0, hcz11_1, hfz11_0, hfz11_1⟩ := sC BK185) | ((with_reducible refine gate_callee (f := 73) rfl ?_); refine goesL_ (some 5) rfl rfl Tryz.func73 zq15 rfl #[.int .i64 a0_0, .int .i64 2, .int .i64 8] rfl zq0 ?_; (with_reducible refine (spec_l1In.calls a0_0 2 8 false _ A2.out).mono ?_); rintro e w' ⟨rfl, ⟨nd, rfl⟩⟩; refine ⟨_, rfl, ?_⟩))
  go_ret
  exact ⟨zq6, zq1⟩
/-! ### spec_TurnLadder: function 8 -/
def spec_TurnLadder.l0 : Nat → Int → Int → List Int → Int → List Int → Option (Int × List Int × Bool)
 | 0, _, _, _, _, _ => none
 | k + 1, x5, x189000, x189001, x192000, x192001 => if x5 ≥ 0 then (if 0 ≤ x5 then (if x5 < (x189001.length : Int) then (if x192001.length < 17592186044416 then (spec_TurnLadder.l0 k (wrap64 (x5 - 1)) x189000 x189001 x192000 (x192001 ++ [rd x189001 x5])) else (none)) else (none)) else (none)) else (some (x192000, x192001, true))
def spec_TurnLadder.f (k : Nat) (a0_0 : Int) (l0_1 : List Int) : Option (Int × List Int × Bool) := (spec_laGood.f k a0_0 l0_1).bind fun t190 => (if t190 = true then (spec_TurnLadder.l0 k (wrap64 ((l0_1.length : Int) - 1)) a0_0 l0_1 a0_0 ([] : List Int)) else (some (0, ([] : List Int), false)))
theorem spec_TurnLadder.mono_l : ∀ k, (∀ y0 y1 y2 y3 y4, LeO (spec_TurnLadder.l0 k y0 y1 y2 y3 y4) (spec_TurnLadder.l0 (k + 1) y0 y1 y2 y3 y4))
 | 0 => fun _ _ _ _ _ r h => by simp [spec_TurnLadder.l0] at h
 | k + 1 => by
  have ih0 := spec_TurnLadder.mono_l k
  ·intro y0 y1 y2 y3 y4
   unfold spec_TurnLadder.l0
   repeat' first | (with_reducible first | exact ih0 _ _ _ _ _ | exact spec_laGood.mono _ _ _ | exact LeO.refl _ | exact LeO.none _ | refine LeO.ite ?_ ?_ | refine LeO.bind ?_ (fun _ => ?_))
theorem spec_TurnLadder.mono : ∀ a0 a1 k, LeO (spec_TurnLadder.f k a0 a1) (spec_TurnLadder.f (k + 1) a0 a1) := by
 intro a0 a1 k
 have ih0 := spec_TurnLadder.mono_l k
 unfold spec_TurnLadder.f
 repeat' first | (with_reducible first | exact ih0 _ _ _ _ _ | exact spec_laGood.mono _ _ _ | exact LeO.refl _ | exact LeO.none _ | refine LeO.ite ?_ ?_ | refine LeO.bind ?_ (fun _ => ?_))
def spec_TurnLadder.T7 : Bool × List (List Nat × List Nat) := (true, [([], []), ([0], [0]), ([], []), ([2], [2]), ([], []), ([3, 4], [3, 4]), ([5], [5]), ([6], [6]), ([1, 7], [1, 7]), ([0, 1, 2, 3, 4, 5, 6, 7, 8], []), ([9, 8, 8, 0, 1, 2, 3, 4, 5, 6, 7, 8], [8, 9])])
def spec_TurnLadder.B7 : List Nat := [0, 1, 0, 4, 0, 28, 60, 124, 255, 511, 1023]
theorem spec_TurnLadder.tab7 : rtab .any (opsOf Tryz.f8 7) = spec_TurnLadder.T7 := by kernel_rfl
theorem spec_TurnLadder.bits7 : waitsOk spec_TurnLadder.T7.2 spec_TurnLadder.B7 = true := by kernel_rfl
theorem spec_TurnLadder.calls (k : Nat) (a0_0 : Int) (A0_1 : Option Addr) (c0_1 : Nat) (l0_1 : List Int) (r1 : Int) (r2 : List Int) (r3 : Bool) (w : World) (hr0_1 : Kd.C (Kd.int .i64) w A0_1 l0_1.length l0_1) (hc0_1 : l0_1.length ≤ c0_1) (h : spec_TurnLadder.f k a0_0 l0_1 = some (r1, r2, r3)) :
  Calls Tryz.prog 8 #[.agg #[.int .i64 a0_0, .slice A0_1 l0_1.length c0_1]] w fun e w' => ∃ v1_ : Value, e = .returned (.tuple #[.agg #[.int .i64 r1, v1_], .bool r3]) ∧ Kd.R (Kd.int .i64) 3 w' w.heap.size (fun _ => True) v1_ r2 ∧ Below w.heap.size w w' := by
 have hu26 := Tryz.underlying26
 have HR0_1 := am hr0_1
 have HC0_1 := am hc0_1
 clear hr0_1 hc0_1
 have HB := am (Below.refl w.heap.size w)
 unfold spec_TurnLadder.f at h
 have H := h
 clear h
 obtain ⟨t190, A2, H⟩ := zS H
 (try dsimp only at H)
 by_cases c3 : t190 = true
 ·subst c3
  rw [if_pos rfl] at H
  have H' := am H
  clear H
  go_enter Tryz.func8, Tryz.ntmps8
  go_wp2_with (first | ((with_reducible refine gate_dst (N := 1) rfl ?_); refine zE 1 (cs := #[.int .i64 a0_0, .slice A0_1 l0_1.length c0_1]) 26 ?_; intro gb188 hg w4 hbox hb; have BK188 := am (hbox); have GW188 := am ((zq19 : w.heap.size ≤ gb188)); have GE188 := am ((zq19 : w.heap.size ≤ gb188)); replace HB := sB HB hb; clear hb hbox hg) | ((with_reducible refine gate_dst (N := 2) rfl ?_); refine zE 2 (cs := #[.int .i64 0, .slice none 0 0]) 26 ?_; intro gb189 hg w5 hbox hb; have BK189 := am (hbox); have GW189 := am ((zq19 : w.heap.size ≤ gb189)); have GE189 := am ((zq19 : w.heap.size ≤ gb189)); have NB188_189 := am ((by rw [hg]; exact Nat.ne_of_lt (blk_lt (pKq BK188)) : gb188 ≠ gb189)); have NB189_188 := am ((by rw [hg]; exact Nat.ne_of_gt (blk_lt (pKq BK188)) : gb189 ≠ gb188)); replace BK188 := sK BK188 hb; replace HB := sB HB hb; clear hb hbox hg; have hnb6 := NB188_189.out; have hnc6 := NB189_188.out; obtain ⟨hcz7_0, hcz7_1, hfz7_0, hfz7_1⟩ := sC BK188) | ((with_reducible refine gate_callee (f := 59) rfl ?_); refine goesL_ (some 7) rfl rfl Tryz.func59 zq15 rfl #[.agg #[.int .i64 a0_0, .slice A0_1 l0_1.length c0_1]] rfl zq0 ?_; (with_reducible refine (spec_laGood.calls k a0_0 _ _ l0_1 true _ ?side1 ?side2 A2.out).mono ?_); (case side1 => exact zq7); (case side2 => exact zq97); rintro e w8 ⟨rfl, hb⟩; refine ⟨_, rfl, ?_⟩; replace BK188 := sK BK188 hb; replace BK189 := sK BK189 hb; replace HB := sB HB hb; (try clear hb); obtain ⟨hcz9_0, hcz9_1, hfz9_0, hfz9_1⟩ := sC BK188) | ((with_reducible refine gate_dst (N := 4) rfl ?_); refine zE 4 (cs := #[.int .i64 0, .slice none 0 0]) 26 ?_; intro gb191 hg w10 hbox hb; have BK191 := am (hbox); have GW191 := am ((zq19 : w.heap.size ≤ gb191)); have NB188_191 := am ((by rw [hg]; exact Nat.ne_of_lt (blk_lt (pKq BK188)) : gb188 ≠ gb191)); have NB191_188 := am ((by rw [hg]; exact Nat.ne_of_gt (blk_lt (pKq BK188)) : gb191 ≠ gb188)); have NB189_191 := am ((by rw [hg]; exact Nat.ne_of_lt (blk_lt (pKq BK189)) : gb189 ≠ gb191)); have NB191_189 := am ((by rw [hg]; exact Nat.ne_of_gt (blk_lt (pKq BK189)) : gb191 ≠ gb189)); replace BK188 := sK BK188 hb; replace BK189 := sK BK189 hb; replace HB := sB HB hb; clear hb hbox hg; have hnb11 := NB191_188.out; have hnc11 := NB188_191.out; have hnb12 := NB191_189.out; have hnc12 := NB189_191.out; obtain ⟨hcz13_0, hcz13_1, hfz13_0, hfz13_1⟩ := sC BK191; obtain ⟨hcz14_0, hcz14_1, hfz14_0, hfz14_1⟩ := sC BK188))
  go_loopg [5] k (fun kq v5 w' => ∃ (x5_1 : Int) (x192001_1 : List Int) (u192001 : Value), v5 = .int .i64 x5_1 ∧ Aside0 (spec_TurnLadder.l0 kq x5_1 a0_0 l0_1 a0_0 x192001_1 = some (r1, r2, r3)) ∧ Aside0 (kq ≤ k) ∧ Aside0 (Kd.R (Kd.int .i64) 3 w' w.heap.size (fun _ => True) u192001 x192001_1) ∧ Aside0 (w'.heap[gb188]? = some (.cells #[.int .i64 a0_0, (.slice A0_1 l0_1.length c0_1)] 26 (0, 0))) ∧ Aside0 (w'.heap[gb189]? = some (.cells #[.int .i64 0, (.slice none 0 0)] 26 (0, 0))) ∧ Aside0 (w'.heap[gb191]? = some (.cells #[.int .i64 a0_0, u192001] 26 (0, 0))) ∧ Aside0 (Below w.heap.size w w'))
  case atStart => exact ⟨(wrap64 ((l0_1.length : Int) - 1)), (([] : List Int)), (.slice none 0 0), zq10, H', ⟨Nat.le_refl _⟩, ⟨zq11⟩, ⟨by (with_reducible repeat (first | refine blk_drewN ?_ _ | refine blk_drew ?_ | refine blk_alloc ?_ _)); refine blk_far ?_ NB188_191.out _; (with_reducible repeat (first | refine blk_drewN ?_ _ | refine blk_drew ?_ | refine blk_alloc ?_ _)); refine blk_far ?_ NB188_191.out _; (with_reducible repeat (first | refine blk_drewN ?_ _ | refine blk_drew ?_ | refine blk_alloc ?_ _)); exact BK188.out⟩, ⟨by (with_reducible repeat (first | refine blk_drewN ?_ _ | refine blk_drew ?_ | refine blk_alloc ?_ _)); refine blk_far ?_ NB189_191.out _; (with_reducible repeat (first | refine blk_drewN ?_ _ | refine blk_drew ?_ | refine blk_alloc ?_ _)); refine blk_far ?_ NB189_191.out _; (with_reducible repeat (first | refine blk_drewN ?_ _ | refine blk_drew ?_ | refine blk_alloc ?_ _)); exact BK189.out⟩, ⟨by (with_reducible repeat (first | refine blk_drewN ?_ _ | refine blk_drew ?_ | refine blk_alloc ?_ _)); refine blk_put (cs := #[.int .i64 a0_0, .slice none 0 0]) ?_ 1 _ rfl; (with_reducible repeat (first | refine blk_drewN ?_ _ | refine blk_drew ?_ | refine blk_alloc ?_ _)); refine blk_put (cs := #[.int .i64 0, .slice none 0 0]) ?_ 0 _ rfl; (with_reducible repeat (first | refine blk_drewN ?_ _ | refine blk_drew ?_ | refine blk_alloc ?_ _)); exact BK191.out⟩, ⟨zq1⟩⟩
  case round =>
   clear H'
   obtain ⟨x5_1, x192001_1, u192001, rfl, HA, HK1, HO_192001, BK188, BK189, BK191, HB⟩ := hrel
   cases gk with
   | zero => exact absurd HA.out (by simp [spec_TurnLadder.l0])
   | succ k1 =>
    have H := HA.out
    clear HA
    simp only [spec_TurnLadder.l0] at H
    by_cases c15 : x5_1 ≥ 0
    ·rw [if_pos c15] at H
     have c15b0 : decide (0 ≤ x5_1) = true := decide_eq_true c15
     clear c15
     obtain ⟨c16, H⟩ := zI H
     have c16b0 := decide_eq_true c16
     clear c16
     obtain ⟨c17, H⟩ := zI H
     have c17b0 := decide_eq_true c17
     clear c17
     obtain ⟨c18, H⟩ := zI H
     have LMc18 := am c18
     clear c18
     obtain ⟨y193, Ny193⟩ : ∃ y_ : List Int, Aside0 (y_ = (x192001_1 ++ [rd l0_1 x5_1])) := ⟨_, ⟨rfl⟩⟩
     rw [← Ny193.out] at H
     have H' := am H
     clear H
     try go_wp2
     replace HO_192001 := am (Kd.R_drew HO_192001.out)
     replace BK188 := am (blk_drew BK188.out)
     replace BK189 := am (blk_drew BK189.out)
     replace BK191 := am (blk_drew BK191.out)
     replace HB := am (below_drew1 HB.out)
     have p192 : 0 ≤ (x5_1 : Int) := of_decide_eq_true zq9
     have q192 : x5_1 < (l0_1.length : Int) := of_decide_eq_true zq9
     obtain ⟨ad192, e192, hx192_0⟩ := Kd.at_int HR0_1.out x5_1 p192 q192
     have hw192_0 := hx192_0
     cases e192
     replace hx192_0 := (HB.out.cell (World.block_lt_of_cell? w _ hx192_0)).trans hx192_0
     replace p192 := eq_true p192
     replace q192 := eq_true q192
     refine start_ (n := 11) (S := fun w' => w'.cell? ⟨gb191, 0, none⟩ = some (.int .i64 a0_0) ∧ w'.cell? ⟨gb191, 1, none⟩ = some (u192001) ∧ w'.cell? ⟨gb188, 0, none⟩ = some (.int .i64 a0_0) ∧ w'.cell? ⟨gb188, 1, none⟩ = some (.slice (some ad192) l0_1.length c0_1) ∧ w'.cell? (ad192.add (x5_1).toNat) = some (.int .i64 (rd l0_1 x5_1))) (ds := [10]) #[false, false, false, false, false, false, false, false, false, false, false] zq15 rfl rfl ⟨(blk_cell BK191.out 0).trans rfl, (blk_cell BK191.out 1).trans rfl, (blk_cell BK188.out 0).trans rfl, (blk_cell BK188.out 1).trans rfl, ((HB.out.cell (World.block_lt_of_cell? w _ hw192_0)).trans hw192_0)⟩ (fun hHeld => ?_); refine with_tabW spec_TurnLadder.tab7 spec_TurnLadder.bits7 (fun HT_ HW_ => ?_)
     generalize wr.drew = w19 at HO_192001 BK188 BK189 BK191 HB hx192_0 hHeld ⊢
     refine zU 0 21 HT_ ?_
     refine zU 2 23 HT_ ?_
     refine zU 4 25 HT_ ?_
     refine zT 1 22 HT_ HW_ hHeld ?_
     refine zT 3 24 HT_ HW_ hHeld ?_
     refine zU 5 26 HT_ ?_
     refine zT 6 27 HT_ HW_ hHeld ?_
     refine zO 7 28 HT_ fun K hK => ?_
     refine value_ (w1 := ?_) (v := ?_) (by rfl) rfl ?_ ?_
     rotate_left 2
     ·go_simp
      constructor
      ·rfl
      ·rfl
     refine hK.out _ _ ⟨(blk_cell (blk_alloc BK191.out _) 0).trans rfl, (blk_cell (blk_alloc BK191.out _) 1).trans rfl, (blk_cell (blk_alloc BK188.out _) 0).trans rfl, (blk_cell (blk_alloc BK188.out _) 1).trans rfl, (World.cell?_alloc_lt _ _ _ (World.block_lt_of_cell? _ _ (((HB.out.cell (World.block_lt_of_cell? w _ hw192_0)).trans hw192_0)))).trans (((HB.out.cell (World.block_lt_of_cell? w _ hw192_0)).trans hw192_0))⟩ (fun hHeld => ?_)
     clear hK K
     refine zN 28 ?_
     refine zO 8 29 HT_ fun K hK => ?_
     refine Kd.R_append_step (Kd.int .i64) (w0 := w) w.heap.size (by rfl) (.tmp 22) (.tmp 28) 24 3 (.int .i64 0) 8 rfl Tryz.underlying24 info3 rfl zq27 zq32 u192001 x192001_1 (rd l0_1 x5_1) [.int .i64 (rd l0_1 x5_1)] (fun _ => True) (fun _ => False) rfl rfl ?aP (fun _ hk => hk.elim) ?aF ?aO ?aB ?aS ?aL ?_
     (case aP => exact rfl)
     (case aB => exact (pBq HB))
     (case aF => exact zq99)
     (case aO => exact (pRq HO_192001))
     (case aS => exact (below_size (pBq HB)))
     (case aL => have := LMc18.out; omega)
     intro v194 w20 ho hb hg hat
     rw [← Ny193.out] at ho
     have HO195 := am (ho)
     replace BK188 := am (blk_grown (g := gb188) (o := .cells #[.int .i64 a0_0, .slice (some ad192) l0_1.length c0_1] 26 (0, 0)) (pKq BK188) hg (Kd.R_ne HO_192001.out BK188.out zq27))
     replace BK189 := am (blk_grown (g := gb189) (o := .cells #[.int .i64 0, .slice none 0 0] 26 (0, 0)) (pKq BK189) hg (Kd.R_ne HO_192001.out BK189.out zq27))
     replace BK191 := am (blk_grown (g := gb191) (o := .cells #[.int .i64 a0_0, u192001] 26 (0, 0)) (pKq BK191) hg (Kd.R_ne HO_192001.out BK191.out zq27))
     replace HB := am (hb)
     clear HO_192001
     clear ho hb hg hat
     obtain ⟨Ao21, co21, eo21⟩ := Kd.R_slice HO195.out
     (first | subst eo21 | (injection eo21 with f1_ f2_ f3_; have f4_ := f1_.symm; have f5_ := f3_.symm; clear f1_ f2_ f3_; subst f4_; subst f5_))
     refine hK.out _ _ ⟨(blk_cell BK191.out 0).trans rfl, (blk_cell BK191.out 1).trans rfl, (blk_cell BK188.out 0).trans rfl, (blk_cell BK188.out 1).trans rfl, ((HB.out.cell (World.block_lt_of_cell? w _ hw192_0)).trans hw192_0)⟩ (fun hHeld => ?_)
     clear hK K
     refine zN 29 ?_
     refine zU 9 30 HT_ ?_
     refine last_ (i := 10) (N := none) #[true, true, true, true, true, true, true, true, true, true, true] rfl rfl (one_of HT_.out zq15) zq27 (fun K hK => ?_)
     have hs22 : w20.cell? ⟨gb191, 1, none⟩ = some (u192001) := (blk_cell BK191.out 1).trans rfl
     have hfs22 := blk_frozen BK191.out 1
     have hns22_0 := NB188_191.out
     have hns22_1 := NB189_191.out
     have hms22_0 := NB191_188.out
     have hms22_1 := NB191_189.out
     refine skip_ (w1 := ?_) (by rfl) rfl ?_ ?_
     rotate_left
     ·go_simp
      rfl
     refine hK.out _ _ ?_
     clear hK K
     refine done_ (done_of HT_.out zq15) ?_
     try go_wp2
     go_roundg k1
     case measure => have := HK1.out; omega
     case rel => exact ⟨(wrap64 (x5_1 - 1)), (y193), (.slice Ao21 y193.length co21), zq10, H', ⟨zq82⟩, ⟨by (with_reducible repeat (first | apply Kd.R_alloc | apply Kd.R_drewN | apply Kd.R_drew)); exact Kd.R_mono (Kd.R_far (p := ⟨gb191, 1, none⟩) (Kd.R_types HO195.out BK191.out zq27) (fun _ hk => hk.2) (.slice Ao21 y193.length co21)) (fun _ hk => trivial)⟩, ⟨by (with_reducible repeat (first | refine blk_drewN ?_ _ | refine blk_drew ?_ | refine blk_alloc ?_ _)); refine blk_far ?_ NB188_191.out _; (with_reducible repeat (first | refine blk_drewN ?_ _ | refine blk_drew ?_ | refine blk_alloc ?_ _)); exact BK188.out⟩, ⟨by (with_reducible repeat (first | refine blk_drewN ?_ _ | refine blk_drew ?_ | refine blk_alloc ?_ _)); refine blk_far ?_ NB189_191.out _; (with_reducible repeat (first | refine blk_drewN ?_ _ | refine blk_drew ?_ | refine blk_alloc ?_ _)); exact BK189.out⟩, ⟨by (with_reducible repeat (first | refine blk_drewN ?_ _ | refine blk_drew ?_ | refine blk_alloc ?_ _)); refine blk_put (cs := #[.int .i64 a0_0, u192001]) ?_ 1 _ rfl; (with_reducible repeat (first | refine blk_drewN ?_ _ | refine blk_drew ?_ | refine blk_alloc ?_ _)); exact BK191.out⟩, ⟨zq1⟩⟩
    ·rw [if_neg c15] at H
     have c15b0 : decide (0 ≤ x5_1) = false := decide_eq_false c15
     clear c15
     simp only [Option.some.injEq, Prod.mk.injEq] at H
     obtain ⟨rfl, rfl, rfl⟩ := H
     have hnb23 := NB191_188.out
     have hnc23 := NB188_191.out
     have hnb24 := NB191_189.out
     have hnc24 := NB189_191.out
     obtain ⟨hcz25_0, hcz25_1, hfz25_0, hfz25_1⟩ := sC BK191
     have hnb26 := NB189_188.out
     have hnc26 := NB188_189.out
     obtain ⟨hcz27_0, hcz27_1, hfz27_0, hfz27_1⟩ := sC BK189
     obtain ⟨Ao28, co28, eo28⟩ := Kd.R_slice HO_192001.out
     subst eo28
     go_wp2
     refine bodyPost_ret (results_ct rfl _ _ gb189 26 #[.int .i64 a0_0, .slice Ao28 x192001_1.length co28] (0, 0) _ rfl (by (with_reducible repeat (first | refine blk_drewN ?_ _ | refine blk_drew ?_ | refine blk_alloc ?_ _)); refine blk_put (cs := #[.int .i64 a0_0, .slice none 0 0]) ?_ 1 _ rfl; (with_reducible repeat (first | refine blk_drewN ?_ _ | refine blk_drew ?_ | refine blk_alloc ?_ _)); refine blk_put (cs := #[.int .i64 0, .slice none 0 0]) ?_ 0 _ rfl; (with_reducible repeat (first | refine blk_drewN ?_ _ | refine blk_drew ?_ | refine blk_alloc ?_ _)); exact BK189.out) Tryz.underlying26 rfl zq15) rfl ?_
     exact ⟨_, zq6, by (with_reducible repeat (first | apply Kd.R_alloc | apply Kd.R_drewN | apply Kd.R_drew)); exact Kd.R_mono (Kd.R_far (p := ⟨gb189, 1, none⟩) (Kd.R_far (p := ⟨gb189, 0, none⟩) (Kd.R_types HO_192001.out BK189.out zq27) (fun _ hk => hk.2) (.int .i64 a0_0)) (fun _ hk => hk.2) (.slice Ao28 x192001_1.length co28)) (fun _ hk => trivial), zq1⟩
 ·replace c3 := Bool.eq_false_iff.mpr c3
  subst c3
  rw [if_neg (show ¬ (false = true) by decide)] at H
  simp only [Option.some.injEq, Prod.mk.injEq] at H
  obtain ⟨rfl, rfl, rfl⟩ := H
  go_enter Tryz.func8, Tryz.ntmps8
  go_wp2_with (first | ((with_reducible refine gate_dst (N := 1) rfl ?_); refine zE 1 (cs := #[.int .i64 a0_0, .slice A0_1 l0_1.length c0_1]) 26 ?_; intro gb188 hg w29 hbox hb; have BK188 := am (hbox); have GW188 := am ((zq19 : w.heap.size ≤ gb188)); have GE188 := am ((zq19 : w.heap.size ≤ gb188)); replace HB := sB HB hb; clear hb hbox hg) | ((with_reducible refine gate_dst (N := 2) rfl ?_); refine zE 2 (cs := #[.int .i64 0, .slice none 0 0]) 26 ?_; intro gb189 hg w30 hbox hb; have BK189 := am (hbox); have GW189 := am ((zq19 : w.heap.size ≤ gb189)); have GE189 := am ((zq19 : w.heap.size ≤ gb189)); have NB188_189 := am ((by rw [hg]; exact Nat.ne_of_lt (blk_lt (pKq BK188)) : gb188 ≠ gb189)); have NB189_188 := am ((by rw [hg]; exact Nat.ne_of_gt (blk_lt (pKq BK188)) : gb189 ≠ gb188)); replace BK188 := sK BK188 hb; replace HB := sB HB hb; clear hb hbox hg; have hnb31 := NB188_189.out; have hnc31 := NB189_188.out; obtain ⟨hcz32_0, hcz32_1, hfz32_0, hfz32_1⟩ := sC BK188) | ((with_reducible refine gate_callee (f := 59) rfl ?_); refine goesL_ (some 7) rfl rfl Tryz.func59 zq15 rfl #[.agg #[.int .i64 a0_0, .slice A0_1 l0_1.length c0_1]] rfl zq0 ?_; (with_reducible refine (spec_laGood.calls k a0_0 _ _ l0_1 false _ ?side1 ?side2 A2.out).mono ?_); (case side1 => exact zq7); (case side2 => exact zq97); rintro e w33 ⟨rfl, hb⟩; refine ⟨_, rfl, ?_⟩; replace BK188 := sK BK188 hb; replace BK189 := sK BK189 hb; replace HB := sB HB hb; (try clear hb); obtain ⟨hcz34_0, hcz34_1, hfz34_0, hfz34_1⟩ := sC BK189))
  refine bodyPost_ret (results_ct rfl _ _ gb189 26 #[.int .i64 0, .slice none 0 0] (0, 0) _ rfl (by (with_reducible repeat (first | refine blk_drewN ?_ _ | refine blk_drew ?_ | refine blk_alloc ?_ _)); refine blk_put (cs := #[.int .i64 0, .slice none 0 0]) ?_ 1 _ rfl; (with_reducible repeat (first | refine blk_drewN ?_ _ | refine blk_drew ?_ | refine blk_alloc ?_ _)); refine blk_put (cs := #[.int .i64 0, .slice none 0 0]) ?_ 0 _ rfl; (with_reducible repeat (first | refine blk_drewN ?_ _ | refine blk_drew ?_ | refine blk_alloc ?_ _)); exact BK189.out) Tryz.underlying26 rfl zq15) rfl ?_
  exact ⟨_, zq6, zq11, zq1⟩
/-! ### impl_MirrorLadder: function 9 -/
def impl_MirrorLadder.l0 : Nat → List Int → Int → Int → Int → List Int → Int → List Int → Option (Int × List Int × Bool)
 | 0, _, _, _, _, _, _, _ => none
 | k + 1, x15, x16, x17, x197000, x197001, x200000, x200001 => if x17 < x16 then (if 0 ≤ x17 then (if x17 < (x15.length : Int) then (if x200001.length < 17592186044416 then (impl_MirrorLadder.l0 k x15 x16 (wrap64 (x17 + 1)) x197000 x197001 x200000 (x200001 ++ [wrap64 ((wrap64 (x197000 - 2)) - (rd x15 x17))])) else (none)) else (none)) else (none)) else (some (x200000, x200001, true))
def impl_MirrorLadder.f (k : Nat) (a0_0 : Int) (l0_1 : List Int) : Option (Int × List Int × Bool) := (impl_isLadder.f a0_0 l0_1).bind fun t198 => (if t198 = true then (impl_MirrorLadder.l0 k l0_1 (l0_1.length : Int) 0 a0_0 l0_1 a0_0 ([] : List Int)) else (some (0, ([] : List Int), false)))
theorem impl_MirrorLadder.mono_l : ∀ k, (∀ y0 y1 y2 y3 y4 y5 y6, LeO (impl_MirrorLadder.l0 k y0 y1 y2 y3 y4 y5 y6) (impl_MirrorLadder.l0 (k + 1) y0 y1 y2 y3 y4 y5 y6))
 | 0 => fun _ _ _ _ _ _ _ r h => by simp [impl_MirrorLadder.l0] at h
 | k + 1 => by
  have ih0 := impl_MirrorLadder.mono_l k
  ·intro y0 y1 y2 y3 y4 y5 y6
   unfold impl_MirrorLadder.l0
   repeat' first | (with_reducible first | exact ih0 _ _ _ _ _ _ _ | exact LeO.refl _ | exact LeO.none _ | refine LeO.ite ?_ ?_ | refine LeO.bind ?_ (fun _ => ?_))
theorem impl_MirrorLadder.mono : ∀ a0 a1 k, LeO (impl_MirrorLadder.f k a0 a1) (impl_MirrorLadder.f (k + 1) a0 a1) := by
 intro a0 a1 k
 have ih0 := impl_MirrorLadder.mono_l k
 unfold impl_MirrorLadder.f
 repeat' first | (with_reducible first | exact ih0 _ _ _ _ _ _ _ | exact LeO.refl _ | exact LeO.none _ | refine LeO.ite ?_ ?_ | refine LeO.bind ?_ (fun _ => ?_))
theorem impl_MirrorLadder.calls (k : Nat) (a0_0 : Int) (A0_1 : Option Addr) (c0_1 : Nat) (l0_1 : List Int) (r1 : Int) (r2 : List Int) (r3 : Bool) (w : World) (hr0_1 : Kd.C (Kd.int .i64) w A0_1 l0_1.length l0_1) (hc0_1 : l0_1.length ≤ c0_1) (h : impl_MirrorLadder.f k a0_0 l0_1 = some (r1, r2, r3)) :
  Calls Tryz.prog 9 #[.agg #[.int .i64 a0_0, .slice A0_1 l0_1.length c0_1]] w fun e w' => ∃ v1_ : Value, e = .returned (.tuple #[.agg #[.int .i64 r1, v1_], .bool r3]) ∧ Kd.R (Kd.int .i64) 3 w' w.heap.size (fun _ => True) v1_ r2 ∧ Below w.heap.size w w' := by
 have hu26 := Tryz.underlying26
 have HR0_1 := am hr0_1
 have HC0_1 := am hc0_1
 clear hr0_1 hc0_1
 have HB := am (Below.refl w.heap.size w)
 unfold impl_MirrorLadder.f at h
 have H := h
 clear h
 obtain ⟨t198, A2, H⟩ := zS H
 (try dsimp only at H)
 by_cases c3 : t198 = true
 ·subst c3
  rw [if_pos rfl] at H
  have H' := am H
  clear H
  go_enter Tryz.func9, Tryz.ntmps9
  go_wp2_with (first | ((with_reducible refine gate_dst (N := 1) rfl ?_); refine zE 1 (cs := #[.int .i64 a0_0, .slice A0_1 l0_1.length c0_1]) 26 ?_; intro gb196 hg w4 hbox hb; have BK196 := am (hbox); have GW196 := am ((zq19 : w.heap.size ≤ gb196)); have GE196 := am ((zq19 : w.heap.size ≤ gb196)); replace HB := sB HB hb; clear hb hbox hg) | ((with_reducible refine gate_dst (N := 2) rfl ?_); refine zE 2 (cs := #[.int .i64 0, .slice none 0 0]) 26 ?_; intro gb197 hg w5 hbox hb; have BK197 := am (hbox); have GW197 := am ((zq19 : w.heap.size ≤ gb197)); have GE197 := am ((zq19 : w.heap.size ≤ gb197)); have NB196_197 := am ((by rw [hg]; exact Nat.ne_of_lt (blk_lt (pKq BK196)) : gb196 ≠ gb197)); have NB197_196 := am ((by rw [hg]; exact Nat.ne_of_gt (blk_lt (pKq BK196)) : gb197 ≠ gb196)); replace BK196 := sK BK196 hb; replace HB := sB HB hb; clear hb hbox hg; have hnb6 := NB196_197.out; have hnc6 := NB197_196.out; obtain ⟨hcz7_0, hcz7_1, hfz7_0, hfz7_1⟩ := sC BK196) | ((with_reducible refine gate_callee (f := 56) rfl ?_); refine goesL_ (some 8) rfl rfl Tryz.func56 zq15 rfl #[.agg #[.int .i64 a0_0, .slice A0_1 l0_1.length c0_1]] rfl zq0 ?_; (with_reducible refine (impl_isLadder.calls a0_0 _ _ l0_1 true _ ?side1 ?side2 A2.out).mono ?_); (case side1 => exact zq7); (case side2 => exact zq97); rintro e w8 ⟨rfl, hb⟩; refine ⟨_, rfl, ?_⟩; replace BK196 := sK BK196 hb; replace BK197 := sK BK197 hb; replace HB := sB HB hb; (try clear hb); obtain ⟨hcz9_0, hcz9_1, hfz9_0, hfz9_1⟩ := sC BK196) | ((with_reducible refine gate_dst (N := 4) rfl ?_); refine zE 4 (cs := #[.int .i64 0, .slice none 0 0]) 26 ?_; intro gb199 hg w10 hbox hb; have BK199 := am (hbox); have GW199 := am ((zq19 : w.heap.size ≤ gb199)); have NB196_199 := am ((by rw [hg]; exact Nat.ne_of_lt (blk_lt (pKq BK196)) : gb196 ≠ gb199)); have NB199_196 := am ((by rw [hg]; exact Nat.ne_of_gt (blk_lt (pKq BK196)) : gb199 ≠ gb196)); have NB197_199 := am ((by rw [hg]; exact Nat.ne_of_lt (blk_lt (pKq BK197)) : gb197 ≠ gb199)); have NB199_197 := am ((by rw [hg]; exact Nat.ne_of_gt (blk_lt (pKq BK197)) : gb199 ≠ gb197)); replace BK196 := sK BK196 hb; replace BK197 := sK BK197 hb; replace HB := sB HB hb; clear hb hbox hg; have hnb11 := NB199_196.out; have hnc11 := NB196_199.out; have hnb12 := NB199_197.out; have hnc12 := NB197_199.out; obtain ⟨hcz13_0, hcz13_1, hfz13_0, hfz13_1⟩ := sC BK199; obtain ⟨hcz14_0, hcz14_1, hfz14_0, hfz14_1⟩ := sC BK196))
  go_loopg [17] k (fun kq v17 w' => ∃ (x17_1 : Int) (x200001_1 : List Int) (u200001 : Value), v17 = .int .i64 x17_1 ∧ Aside0 (impl_MirrorLadder.l0 kq l0_1 (l0_1.length : Int) x17_1 a0_0 l0_1 a0_0 x200001_1 = some (r1, r2, r3)) ∧ Aside0 (kq ≤ k) ∧ Aside0 (Kd.R (Kd.int .i64) 3 w' w.heap.size (fun _ => True) u200001 x200001_1) ∧ Aside0 (w'.heap[gb196]? = some (.cells #[.int .i64 a0_0, (.slice A0_1 l0_1.length c0_1)] 26 (0, 0))) ∧ Aside0 (w'.heap[gb197]? = some (.cells #[.int .i64 0, (.slice none 0 0)] 26 (0, 0))) ∧ Aside0 (w'.heap[gb199]? = some (.cells #[.int .i64 a0_0, u200001] 26 (0, 0))) ∧ Aside0 (Below w.heap.size w w'))
  case atStart => exact ⟨(0), (([] : List Int)), (.slice none 0 0), zq10, H', ⟨Nat.le_refl _⟩, ⟨zq11⟩, ⟨by (with_reducible repeat (first | refine blk_drewN ?_ _ | refine blk_drew ?_ | refine blk_alloc ?_ _)); refine blk_far ?_ NB196_199.out _; (with_reducible repeat (first | refine blk_drewN ?_ _ | refine blk_drew ?_ | refine blk_alloc ?_ _)); refine blk_far ?_ NB196_199.out _; (with_reducible repeat (first | refine blk_drewN ?_ _ | refine blk_drew ?_ | refine blk_alloc ?_ _)); exact BK196.out⟩, ⟨by (with_reducible repeat (first | refine blk_drewN ?_ _ | refine blk_drew ?_ | refine blk_alloc ?_ _)); refine blk_far ?_ NB197_199.out _; (with_reducible repeat (first | refine blk_drewN ?_ _ | refine blk_drew ?_ | refine blk_alloc ?_ _)); refine blk_far ?_ NB197_199.out _; (with_reducible repeat (first | refine blk_drewN ?_ _ | refine blk_drew ?_ | refine blk_alloc ?_ _)); exact BK197.out⟩, ⟨by (with_reducible repeat (first | refine blk_drewN ?_ _ | refine blk_drew ?_ | refine blk_alloc ?_ _)); refine blk_put (cs := #[.int .i64 a0_0, .slice none 0 0]) ?_ 1 _ rfl; (with_reducible repeat (first | refine blk_drewN ?_ _ | refine blk_drew ?_ | refine blk_alloc ?_ _)); refine blk_put (cs := #[.int .i64 0, .slice none 0 0]) ?_ 0 _ rfl; (with_reducible repeat (first | refine blk_drewN ?_ _ | refine blk_drew ?_ | refine blk_alloc ?_ _)); exact BK199.out⟩, ⟨zq1⟩⟩
  case round =>
   clear H'
   obtain ⟨x17_1, x200001_1, u200001, rfl, HA, HK1, HO_200001, BK196, BK197, BK199, HB⟩ := hrel
   cases gk with
   | zero => exact absurd HA.out (by simp [impl_MirrorLadder.l0])
   | succ k1 =>
    have H := HA.out
    clear HA
    simp only [impl_MirrorLadder.l0] at H
    by_cases c15 : x17_1 < (l0_1.length : Int)
    ·rw [if_pos c15] at H
     have c15b0 := decide_eq_true c15
     clear c15
     obtain ⟨c16, H⟩ := zI H
     have c16b0 := decide_eq_true c16
     clear c16
     obtain ⟨c17, H⟩ := zI H
     have c17b0 := decide_eq_true c17
     clear c17
     obtain ⟨c18, H⟩ := zI H
     have LMc18 := am c18
     clear c18
     obtain ⟨y201, Ny201⟩ : ∃ y_ : List Int, Aside0 (y_ = (x200001_1 ++ [wrap64 ((wrap64 (a0_0 - 2)) - (rd l0_1 x17_1))])) := ⟨_, ⟨rfl⟩⟩
     rw [← Ny201.out] at H
     have H' := am H
     clear H
     have p200 : 0 ≤ (x17_1 : Int) := of_decide_eq_true zq9
     have q200 : x17_1 < (l0_1.length : Int) := of_decide_eq_true zq9
     obtain ⟨ad200, e200, hx200_0⟩ := Kd.at_int HR0_1.out x17_1 p200 q200
     cases e200
     replace hx200_0 := (HB.out.cell (World.block_lt_of_cell? w _ hx200_0)).trans hx200_0
     replace p200 := eq_true p200
     replace q200 := eq_true q200
     have hnb19 := NB199_196.out
     have hnc19 := NB196_199.out
     have hnb20 := NB199_197.out
     have hnc20 := NB197_199.out
     obtain ⟨hcz21_0, hcz21_1, hfz21_0, hfz21_1⟩ := sC BK199
     have hnb22 := NB196_197.out
     have hnc22 := NB197_196.out
     obtain ⟨hcz23_0, hcz23_1, hfz23_0, hfz23_1⟩ := sC BK196
     go_wp2_with (first | ((with_reducible refine gate_builtin (b := .append) (xs := #[.tmp 22, .tmp 28]) rfl ?_); at_builtin; refine Kd.R_append (Kd.int .i64) (w0 := w) w.heap.size rfl (.tmp 22) (.tmp 28) 24 3 (.int .i64 0) 8 rfl Tryz.underlying24 info3 rfl zq27 zq32 u200001 x200001_1 (wrap64 ((wrap64 (a0_0 - 2)) - (rd l0_1 x17_1))) [.int .i64 (wrap64 ((wrap64 (a0_0 - 2)) - (rd l0_1 x17_1)))] (fun _ => True) (fun _ => False) rfl rfl ?aP (fun _ hk => hk.elim) ?aF ?aO ?aB ?aS ?aL ?_; (case aP => exact rfl); (case aB => exact (pBq HB)); (case aF => exact zq99); (case aO => exact (pRq HO_200001)); (case aS => exact (below_size (pBq HB))); (case aL => have := LMc18.out; omega); intro v202 w24 ho hb hg hat; rw [← Ny201.out] at ho; have HO203 := am (ho); replace BK196 := am (blk_grown (g := gb196) (o := .cells #[.int .i64 a0_0, .slice (some ad200) l0_1.length c0_1] 26 (0, 0)) (pKq BK196) hg (Kd.R_ne HO_200001.out BK196.out zq27)); replace BK197 := am (blk_grown (g := gb197) (o := .cells #[.int .i64 0, .slice none 0 0] 26 (0, 0)) (pKq BK197) hg (Kd.R_ne HO_200001.out BK197.out zq27)); replace BK199 := am (blk_grown (g := gb199) (o := .cells #[.int .i64 a0_0, u200001] 26 (0, 0)) (pKq BK199) hg (Kd.R_ne HO_200001.out BK199.out zq27)); replace HB := am (hb); clear HO_200001; clear ho hb hg hat; obtain ⟨Ao25, co25, eo25⟩ := Kd.R_slice HO203.out; subst eo25; obtain ⟨hcz26_0, hcz26_1, hfz26_0, hfz26_1⟩ := sC BK199))
     go_roundg k1
     case measure => have := HK1.out; omega
     case rel => exact ⟨(wrap64 (x17_1 + 1)), (y201), (.slice Ao25 y201.length co25), zq10, H', ⟨zq82⟩, ⟨by (with_reducible repeat (first | apply Kd.R_alloc | apply Kd.R_drewN | apply Kd.R_drew)); exact Kd.R_mono (Kd.R_far (p := ⟨gb199, 1, none⟩) (Kd.R_types HO203.out BK199.out zq27) (fun _ hk => hk.2) (.slice Ao25 y201.length co25)) (fun _ hk => trivial)⟩, ⟨by (with_reducible repeat (first | refine blk_drewN ?_ _ | refine blk_drew ?_ | refine blk_alloc ?_ _)); refine blk_far ?_ NB196_199.out _; (with_reducible repeat (first | refine blk_drewN ?_ _ | refine blk_drew ?_ | refine blk_alloc ?_ _)); exact BK196.out⟩, ⟨by (with_reducible repeat (first | refine blk_drewN ?_ _ | refine blk_drew ?_ | refine blk_alloc ?_ _)); refine blk_far ?_ NB197_199.out _; (with_reducible repeat (first | refine blk_drewN ?_ _ | refine blk_drew ?_ | refine blk_alloc ?_ _)); exact BK197.out⟩, ⟨by (with_reducible repeat (first | refine blk_drewN ?_ _ | refine blk_drew ?_ | refine blk_alloc ?_ _)); refine blk_put (cs := #[.int .i64 a0_0, u200001]) ?_ 1 _ rfl; (with_reducible repeat (first | refine blk_drewN ?_ _ | refine blk_drew ?_ | refine blk_alloc ?_ _)); exact BK199.out⟩, ⟨zq1⟩⟩
    ·rw [if_neg c15] at H
     have c15b0 := decide_eq_false c15
     clear c15
     simp only [Option.some.injEq, Prod.mk.injEq] at H
     obtain ⟨rfl, rfl, rfl⟩ := H
     have hnb27 := NB199_196.out
     have hnc27 := NB196_199.out
     have hnb28 := NB199_197.out
     have hnc28 := NB197_199.out
     obtain ⟨hcz29_0, hcz29_1, hfz29_0, hfz29_1⟩ := sC BK199
     have hnb30 := NB197_196.out
     have hnc30 := NB196_197.out
     obtain ⟨hcz31_0, hcz31_1, hfz31_0, hfz31_1⟩ := sC BK197
     obtain ⟨Ao32, co32, eo32⟩ := Kd.R_slice HO_200001.out
     subst eo32
     go_wp2
     refine bodyPost_ret (results_ct rfl _ _ gb197 26 #[.int .i64 a0_0, .slice Ao32 x200001_1.length co32] (0, 0) _ rfl (by (with_reducible repeat (first | refine blk_drewN ?_ _ | refine blk_drew ?_ | refine blk_alloc ?_ _)); refine blk_put (cs := #[.int .i64 a0_0, .slice none 0 0]) ?_ 1 _ rfl; (with_reducible repeat (first | refine blk_drewN ?_ _ | refine blk_drew ?_ | refine blk_alloc ?_ _)); refine blk_put (cs := #[.int .i64 0, .slice none 0 0]) ?_ 0 _ rfl; (with_reducible repeat (first | refine blk_drewN ?_ _ | refine blk_drew ?_ | refine blk_alloc ?_ _)); exact BK197.out) Tryz.underlying26 rfl zq15) rfl ?_
     exact ⟨_, zq6, by (with_reducible repeat (first | apply Kd.R_alloc | apply Kd.R_drewN | apply Kd.R_drew)); exact Kd.R_mono (Kd.R_far (p := ⟨gb197, 1, none⟩) (Kd.R_far (p := ⟨gb197, 0, none⟩) (Kd.R_types HO_200001.out BK197.out zq27) (fun _ hk => hk.2) (.int .i64 a0_0)) (fun _ hk => hk.2) (.slice Ao32 x200001_1.length co32)) (fun _ hk => trivial), zq1⟩
 ·replace c3 := Bool.eq_false_iff.mpr c3
  subst c3
  rw [if_neg (show ¬ (false = true) by decide)] at H
  simp only [Option.some.injEq, Prod.mk.injEq] at H
  obtain ⟨rfl, rfl, rfl⟩ := H
  go_enter Tryz.func9, Tryz.ntmps9
  go_wp2_with (first | ((with_reducible refine gate_dst (N := 1) rfl ?_); refine zE 1 (cs := #[.int .i64 a0_0, .slice A0_1 l0_1.length c0_1]) 26 ?_; intro gb196 hg w33 hbox hb; have BK196 := am (hbox); have GW196 := am ((zq19 : w.heap.size ≤ gb196)); have GE196 := am ((zq19 : w.heap.size ≤ gb196)); replace HB := sB HB hb; clear hb hbox hg) | ((with_reducible refine gate_dst (N := 2) rfl ?_); refine zE 2 (cs := #[.int .i64 0, .slice none 0 0]) 26 ?_; intro gb197 hg w34 hbox hb; have BK197 := am (hbox); have GW197 := am ((zq19 : w.heap.size ≤ gb197)); have GE197 := am ((zq19 : w.heap.size ≤ gb197)); have NB196_197 := am ((by rw [hg]; exact Nat.ne_of_lt (blk_lt (pKq BK196)) : gb196 ≠ gb197)); have NB197_196 := am ((by rw [hg]; exact Nat.ne_of_gt (blk_lt (pKq BK196)) : gb197 ≠ gb196)); replace BK196 := sK BK196 hb; replace HB := sB HB hb; clear hb hbox hg; have hnb35 := NB196_197.out; have hnc35 := NB197_196.out; obtain ⟨hcz36_0, hcz36_1, hfz36_0, hfz36_1⟩ := sC BK196) | ((with_reducible refine gate_callee (f := 56) rfl ?_); refine goesL_ (some 8) rfl rfl Tryz.func56 zq15 rfl #[.agg #[.int .i64 a0_0, .slice A0_1 l0_1.length c0_1]] rfl zq0 ?_; (with_reducible refine (impl_isLadder.calls a0_0 _ _ l0_1 false _ ?side1 ?side2 A2.out).mono ?_); (case side1 => exact zq7); (case side2 => exact zq97); rintro e w37 ⟨rfl, hb⟩; refine ⟨_, rfl, ?_⟩; replace BK196 := sK BK196 hb; replace BK197 := sK BK197 hb; replace HB := sB HB hb; (try clear hb); obtain ⟨hcz38_0, hcz38_1, hfz38_0, hfz38_1⟩ := sC BK197))
  refine bodyPost_ret (results_ct rfl _ _ gb197 26 #[.int .i64 0, .slice none 0 0] (0, 0) _ rfl (by (with_reducible repeat (first | refine blk_drewN ?_ _ | refine blk_drew ?_ | refine blk_alloc ?_ _)); refine blk_put (cs := #[.int .i64 0, .slice none 0 0]) ?_ 1 _ rfl; (with_reducible repeat (first | refine blk_drewN ?_ _ | refine blk_drew ?_ | refine blk_alloc ?_ _)); refine blk_put (cs := #[.int .i64 0, .slice none 0 0]) ?_ 0 _ rfl; (with_reducible repeat (first | refine blk_drewN ?_ _ | refine blk_drew ?_ | refine blk_alloc ?_ _)); exact BK197.out) Tryz.underlying26 rfl zq15) rfl ?_
  exact ⟨_, zq6, zq11, zq1⟩
/-! ### spec_MirrorLadder: function 10 -/
def spec_MirrorLadder.l0 : Nat → List Int → Int → Int → Int → List Int → Int → List Int → Option (Int × List Int × Bool)
 | 0, _, _, _, _, _, _, _ => none
 | k + 1, x15, x16, x17, x205000, x205001, x208000, x208001 => if x17 < x16 then (if 0 ≤ x17 then (if x17 < (x15.length : Int) then (if x208001.length < 17592186044416 then (spec_MirrorLadder.l0 k x15 x16 (wrap64 (x17 + 1)) x205000 x205001 x208000 (x208001 ++ [wrap64 ((wrap64 (x205000 - 2)) - (rd x15 x17))])) else (none)) else (none)) else (none)) else (some (x208000, x208001, true))
def spec_MirrorLadder.f (k : Nat) (a0_0 : Int) (l0_1 : List Int) : Option (Int × List Int × Bool) := (spec_laGood.f k a0_0 l0_1).bind fun t206 => (if t206 = true then (spec_MirrorLadder.l0 k l0_1 (l0_1.length : Int) 0 a0_0 l0_1 a0_0 ([] : List Int)) else (some (0, ([] : List Int), false)))
theorem spec_MirrorLadder.mono_l : ∀ k, (∀ y0 y1 y2 y3 y4 y5 y6, LeO (spec_MirrorLadder.l0 k y0 y1 y2 y3 y4 y5 y6) (spec_MirrorLadder.l0 (k + 1) y0 y1 y2 y3 y4 y5 y6))
 | 0 => fun _ _ _ _ _ _ _ r h => by simp [spec_MirrorLadder.l0] at h
 | k + 1 => by
  have ih0 := spec_MirrorLadder.mono_l k
  ·intro y0 y1 y2 y3 y4 y5 y6
   unfold spec_MirrorLadder.l0
   repeat' first | (with_reducible first | exact ih0 _ _ _ _ _ _ _ | exact spec_laGood.mono _ _ _ | exact LeO.refl _ | exact LeO.none _ | refine LeO.ite ?_ ?_ | refine LeO.bind ?_ (fun _ => ?_))
theorem spec_MirrorLadder.mono : ∀ a0 a1 k, LeO (spec_MirrorLadder.f k a0 a1) (spec_MirrorLadder.f (k + 1) a0 a1) := by
 intro a0 a1 k
 have ih0 := spec_MirrorLadder.mono_l k
 unfold spec_MirrorLadder.f
 repeat' first | (with_reducible first | exact ih0 _ _ _ _ _ _ _ | exact spec_laGood.mono _ _ _ | exact LeO.refl _ | exact LeO.none _ | refine LeO.ite ?_ ?_ | refine LeO.bind ?_ (fun _ => ?_))
theorem spec_MirrorLadder.calls (k : Nat) (a0_0 : Int) (A0_1 : Option Addr) (c0_1 : Nat) (l0_1 : List Int) (r1 : Int) (r2 : List Int) (r3 : Bool) (w : World) (hr0_1 : Kd.C (Kd.int .i64) w A0_1 l0_1.length l0_1) (hc0_1 : l0_1.length ≤ c0_1) (h : spec_MirrorLadder.f k a0_0 l0_1 = some (r1, r2, r3)) :
  Calls Tryz.prog 10 #[.agg #[.int .i64 a0_0, .slice A0_1 l0_1.length c0_1]] w fun e w' => ∃ v1_ : Value, e = .returned (.tuple #[.agg #[.int .i64 r1, v1_], .bool r3]) ∧ Kd.R (Kd.int .i64) 3 w' w.heap.size (fun _ => True) v1_ r2 ∧ Below w.heap.size w w' := by
 have hu26 := Tryz.underlying26
 have HR0_1 := am hr0_1
 have HC0_1 := am hc0_1
 clear hr0_1 hc0_1
 have HB := am (Below.refl w.heap.size w)
 unfold spec_MirrorLadder.f at h
 have H := h
 clear h
 obtain ⟨t206, A2, H⟩ := zS H
 (try dsimp only at H)
 by_cases c3 : t206 = true
 ·subst c3
  rw [if_pos rfl] at H
  have H' := am H
  clear H
  go_enter Tryz.func10, Tryz.ntmps10
  go_wp2_with (first | ((with_reducible refine gate_dst (N := 1) rfl ?_); refine zE 1 (cs := #[.int .i64 a0_0, .slice A0_1 l0_1.length c0_1]) 26 ?_; intro gb204 hg w4 hbox hb; have BK204 := am (hbox); have GW204 := am ((zq19 : w.heap.size ≤ gb204)); have GE204 := am ((zq19 : w.heap.size ≤ gb204)); replace HB := sB HB hb; clear hb hbox hg) | ((with_reducible refine gate_dst (N := 2) rfl ?_); refine zE 2 (cs := #[.int .i64 0, .slice none 0 0]) 26 ?_; intro gb205 hg w5 hbox hb; have BK205 := am (hbox); have GW205 := am ((zq19 : w.heap.size ≤ gb205)); have GE205 := am ((zq19 : w.heap.size ≤ gb205)); have NB204_205 := am ((by rw [hg]; exact Nat.ne_of_lt (blk_lt (pKq BK204)) : gb204 ≠ gb205)); have NB205_204 := am ((by rw [hg]; exact Nat.ne_of_gt (blk_lt (pKq BK204)) : gb205 ≠ gb204)); replace BK204 := sK BK204 hb; replace HB := sB HB hb; clear hb hbox hg; have hnb6 := NB204_205.out; have hnc6 := NB205_204.out; obtain ⟨hcz7_0, hcz7_1, hfz7_0, hfz7_1⟩ := sC BK204) | ((with_reducible refine gate_callee (f := 59) rfl ?_); refine goesL_ (some 8) rfl rfl Tryz.func59 zq15 rfl #[.agg #[.int .i64 a0_0, .slice A0_1 l0_1.length c0_1]] rfl zq0 ?_; (with_reducible refine (spec_laGood.calls k a0_0 _ _ l0_1 true _ ?side1 ?side2 A2.out).mono ?_); (case side1 => exact zq7); (case side2 => exact zq97); rintro e w8 ⟨rfl, hb⟩; refine ⟨_, rfl, ?_⟩; replace BK204 := sK BK204 hb; replace BK205 := sK BK205 hb; replace HB := sB HB hb; (try clear hb); obtain ⟨hcz9_0, hcz9_1, hfz9_0, hfz9_1⟩ := sC BK204) | ((with_reducible refine gate_dst (N := 4) rfl ?_); refine zE 4 (cs := #[.int .i64 0, .slice none 0 0]) 26 ?_; intro gb207 hg w10 hbox hb; have BK207 := am (hbox); have GW207 := am ((zq19 : w.heap.size ≤ gb207)); have NB204_207 := am ((by rw [hg]; exact Nat.ne_of_lt (blk_lt (pKq BK204)) : gb204 ≠ gb207)); have NB207_204 := am ((by rw [hg]; exact Nat.ne_of_gt (blk_lt (pKq BK204)) : gb207 ≠ gb204)); have NB205_207 := am ((by rw [hg]; exact Nat.ne_of_lt (blk_lt (pKq BK205)) : gb205 ≠ gb207)); have NB207_205 := am ((by rw [hg]; exact Nat.ne_of_gt (blk_lt (pKq BK205)) : gb207 ≠ gb205)); replace BK204 := sK BK204 hb; replace BK205 := sK BK205 hb; replace HB := sB HB hb; clear hb hbox hg; have hnb11 := NB207_204.out; have hnc11 := NB204_207.out; have hnb12 := NB207_205.out; have hnc12 := NB205_207.out; obtain ⟨hcz13_0, hcz13_1, hfz13_0, hfz13_1⟩ := sC BK207; obtain ⟨hcz14_0, hcz14_1, hfz14_0, hfz14_1⟩ := sC BK204))
  go_loopg [17] k (fun kq v17 w' => ∃ (x17_1 : Int) (x208001_1 : List Int) (u208001 : Value), v17 = .int .i64 x17_1 ∧ Aside0 (spec_MirrorLadder.l0 kq l0_1 (l0_1.length : Int) x17_1 a0_0 l0_1 a0_0 x208001_1 = some (r1, r2, r3)) ∧ Aside0 (kq ≤ k) ∧ Aside0 (Kd.R (Kd.int .i64) 3 w' w.heap.size (fun _ => True) u208001 x208001_1) ∧ Aside0 (w'.heap[gb204]? = some (.cells #[.int .i64 a0_0, (.slice A0_1 l0_1.length c0_1)] 26 (0, 0))) ∧ Aside0 (w'.heap[gb205]? = some (.cells #[.int .i64 0, (.slice none 0 0)] 26 (0, 0))) ∧ Aside0 (w'.heap[gb207]? = some (.cells #[.int .i64 a0_0, u208001] 26 (0, 0))) ∧ Aside0 (Below w.heap.size w w'))
  case atStart => exact ⟨(0), (([] : List Int)), (.slice none 0 0), zq10, H', ⟨Nat.le_refl _⟩, ⟨zq11⟩, ⟨by (with_reducible repeat (first | refine blk_drewN ?_ _ | refine blk_drew ?_ | refine blk_alloc ?_ _)); refine blk_far ?_ NB204_207.out _; (with_reducible repeat (first | refine blk_drewN ?_ _ | refine blk_drew ?_ | refine blk_alloc ?_ _)); refine blk_far ?_ NB204_207.out _; (with_reducible repeat (first | refine blk_drewN ?_ _ | refine blk_drew ?_ | refine blk_alloc ?_ _)); exact BK204.out⟩, ⟨by (with_reducible repeat (first | refine blk_drewN ?_ _ | refine blk_drew ?_ | refine blk_alloc ?_ _)); refine blk_far ?_ NB205_207.out _; (with_reducible repeat (first | refine blk_drewN ?_ _ | refine blk_drew ?_ | refine blk_alloc ?_ _)); refine blk_far ?_ NB205_207.out _; (with_reducible repeat (first | refine blk_drewN ?_ _ | refine blk_drew ?_ | refine blk_alloc ?_ _)); exact BK205.out⟩, ⟨by (with_reducible repeat (first | refine blk_drewN ?_ _ | refine blk_drew ?_ | refine blk_alloc ?_ _)); refine blk_put (cs := #[.int .i64 a0_0, .slice none 0 0]) ?_ 1 _ rfl; (with_reducible repeat (first | refine blk_drewN ?_ _ | refine blk_drew ?_ | refine blk_alloc ?_ _)); refine blk_put (cs := #[.int .i64 0, .slice none 0 0]) ?_ 0 _ rfl; (with_reducible repeat (first | refine blk_drewN ?_ _ | refine blk_drew ?_ | refine blk_alloc ?_ _)); exact BK207.out⟩, ⟨zq1⟩⟩
  case round =>
   clear H'
   obtain ⟨x17_1, x208001_1, u208001, rfl, HA, HK1, HO_208001, BK204, BK205, BK207, HB⟩ := hrel
   cases gk with
   | zero => exact absurd HA.out (by simp [spec_MirrorLadder.l0])
   | succ k1 =>
    have H := HA.out
    clear HA
    simp only [spec_MirrorLadder.l0] at H
    by_cases c15 : x17_1 < (l0_1.length : Int)
    ·rw [if_pos c15] at H
     have c15b0 := decide_eq_true c15
     clear c15
     obtain ⟨c16, H⟩ := zI H
     have c16b0 := decide_eq_true c16
     clear c16
     obtain ⟨c17, H⟩ := zI H
     have c17b0 := decide_eq_true c17
     clear c17
     obtain ⟨c18, H⟩ := zI H
     have LMc18 := am c18
     clear c18
     obtain ⟨y209, Ny209⟩ : ∃ y_ : List Int, Aside0 (y_ = (x208001_1 ++ [wrap64 ((wrap64 (a0_0 - 2)) - (rd l0_1 x17_1))])) := ⟨_, ⟨rfl⟩⟩
     rw [← Ny209.out] at H
     have H' := am H
     clear H
     have p208 : 0 ≤ (x17_1 : Int) := of_decide_eq_true zq9
     have q208 : x17_1 < (l0_1.length : Int) := of_decide_eq_true zq9
     obtain ⟨ad208, e208, hx208_0⟩ := Kd.at_int HR0_1.out x17_1 p208 q208
     cases e208
     replace hx208_0 := (HB.out.cell (World.block_lt_of_cell? w _ hx208_0)).trans hx208_0
     replace p208 := eq_true p208
     replace q208 := eq_true q208
     have hnb19 := NB207_204.out
     have hnc19 := NB204_207.out
     have hnb20 := NB207_205.out
     have hnc20 := NB205_207.out
     obtain ⟨hcz21_0, hcz21_1, hfz21_0, hfz21_1⟩ := sC BK207
     have hnb22 := NB204_205.out
     have hnc22 := NB205_204.out
     obtain ⟨hcz23_0, hcz23_1, hfz23_0, hfz23_1⟩ := sC BK204
     go_wp2_with (first | ((with_reducible refine gate_builtin (b := .append) (xs := #[.tmp 22, .tmp 28]) rfl ?_); at_builtin; refine Kd.R_append (Kd.int .i64) (w0 := w) w.heap.size rfl (.tmp 22) (.tmp 28) 24 3 (.int .i64 0) 8 rfl Tryz.underlying24 info3 rfl zq27 zq32 u208001 x208001_1 (wrap64 ((wrap64 (a0_0 - 2)) - (rd l0_1 x17_1))) [.int .i64 (wrap64 ((wrap64 (a0_0 - 2)) - (rd l0_1 x17_1)))] (fun _ => True) (fun _ => False) rfl rfl ?aP (fun _ hk => hk.elim) ?aF ?aO ?aB ?aS ?aL ?_; (case aP => exact rfl); (case aB => exact (pBq HB)); (case aF => exact zq99); (case aO => exact (pRq HO_208001)); (case aS => exact (below_size (pBq HB))); (case aL => have := LMc18.out; omega); intro v210 w24 ho hb hg hat; rw [← Ny209.out] at ho; have HO211 := am (ho); replace BK204 := am (blk_grown (g := gb204) (o := .cells #[.int .i64 a0_0, .slice (some ad208) l0_1.length c0_1] 26 (0, 0)) (pKq BK204) hg (Kd.R_ne HO_208001.out BK204.out zq27)); replace BK205 := am (blk_grown (g := gb205) (o := .cells #[.int .i64 0, .slice none 0 0] 26 (0, 0)) (pKq BK205) hg (Kd.R_ne HO_208001.out BK205.out zq27)); replace BK207 := am (blk_grown (g := gb207) (o := .cells #[.int .i64 a0_0, u208001] 26 (0, 0)) (pKq BK207) hg (Kd.R_ne HO_208001.out BK207.out zq27)); replace HB := am (hb); clear HO_208001; clear ho hb hg hat; obtain ⟨Ao25, co25, eo25⟩ := Kd.R_slice HO211.out; subst eo25; obtain ⟨hcz26_0, hcz26_1, hfz26_0, hfz26_1⟩ := sC BK207))
     go_roundg k1
     case measure => have := HK1.out; omega
     case rel => exact ⟨(wrap64 (x17_1 + 1)), (y209), (.slice Ao25 y209.length co25), zq10, H', ⟨zq82⟩, ⟨by (with_reducible repeat (first | apply Kd.R_alloc | apply Kd.R_drewN | apply Kd.R_drew)); exact Kd.R_mono (Kd.R_far (p := ⟨gb207, 1, none⟩) (Kd.R_types HO211.out BK207.out zq27) (fun _ hk => hk.2) (.slice Ao25 y209.length co25)) (fun _ hk => trivial)⟩, ⟨by (with_reducible repeat (first | refine blk_drewN ?_ _ | refine blk_drew ?_ | refine blk_alloc ?_ _)); refine blk_far ?_ NB204_207.out _; (with_reducible repeat (first | refine blk_drewN ?_ _ | refine blk_drew ?_ | refine blk_alloc ?_ _)); exact BK204.out⟩, ⟨by (with_reducible repeat (first | refine blk_drewN ?_ _ | refine blk_drew ?_ | refine blk_alloc ?_ _)); refine blk_far ?_ NB205_207.out _; (with_reducible repeat (first | refine blk_drewN ?_ _ | refine blk_drew ?_ | refine blk_alloc ?_ _)); exact BK205.out⟩, ⟨by (with_reducible repeat (first | refine blk_drewN ?_ _ | refine blk_drew ?_ | refine blk_alloc ?_ _)); refine blk_put (cs := #[.int .i64 a0_0, u208001]) ?_ 1 _ rfl; (with_reducible repeat (first | refine blk_drewN ?_ _ | refine blk_drew ?_ | refine blk_alloc ?_ _)); exact BK207.out⟩, ⟨zq1⟩⟩
    ·rw [if_neg c15] at H
     have c15b0 := decide_eq_false c15
     clear c15
     simp only [Option.some.injEq, Prod.mk.injEq] at H
     obtain ⟨rfl, rfl, rfl⟩ := H
     have hnb27 := NB207_204.out
     have hnc27 := NB204_207.out
     have hnb28 := NB207_205.out
     have hnc28 := NB205_207.out
     obtain ⟨hcz29_0, hcz29_1, hfz29_0, hfz29_1⟩ := sC BK207
     have hnb30 := NB205_204.out
     have hnc30 := NB204_205.out
     obtain ⟨hcz31_0, hcz31_1, hfz31_0, hfz31_1⟩ := sC BK205
     obtain ⟨Ao32, co32, eo32⟩ := Kd.R_slice HO_208001.out
     subst eo32
     go_wp2
     refine bodyPost_ret (results_ct rfl _ _ gb205 26 #[.int .i64 a0_0, .slice Ao32 x208001_1.length co32] (0, 0) _ rfl (by (with_reducible repeat (first | refine blk_drewN ?_ _ | refine blk_drew ?_ | refine blk_alloc ?_ _)); refine blk_put (cs := #[.int .i64 a0_0, .slice none 0 0]) ?_ 1 _ rfl; (with_reducible repeat (first | refine blk_drewN ?_ _ | refine blk_drew ?_ | refine blk_alloc ?_ _)); refine blk_put (cs := #[.int .i64 0, .slice none 0 0]) ?_ 0 _ rfl; (with_reducible repeat (first | refine blk_drewN ?_ _ | refine blk_drew ?_ | refine blk_alloc ?_ _)); exact BK205.out) Tryz.underlying26 rfl zq15) rfl ?_
     exact ⟨_, zq6, by (with_reducible repeat (first | apply Kd.R_alloc | apply Kd.R_drewN | apply Kd.R_drew)); exact Kd.R_mono (Kd.R_far (p := ⟨gb205, 1, none⟩) (Kd.R_far (p := ⟨gb205, 0, none⟩) (Kd.R_types HO_208001.out BK205.out zq27) (fun _ hk => hk.2) (.int .i64 a0_0)) (fun _ hk => hk.2) (.slice Ao32 x208001_1.length co32)) (fun _ hk => trivial), zq1⟩
 ·replace c3 := Bool.eq_false_iff.mpr c3
  subst c3
  rw [if_neg (show ¬ (false = true) by decide)] at H
  simp only [Option.some.injEq, Prod.mk.injEq] at H
  obtain ⟨rfl, rfl, rfl⟩ := H
  go_enter Tryz.func10, Tryz.ntmps10
  go_wp2_with (first | ((with_reducible refine gate_dst (N := 1) rfl ?_); refine zE 1 (cs := #[.int .i64 a0_0, .slice A0_1 l0_1.length c0_1]) 26 ?_; intro gb204 hg w33 hbox hb; have BK204 := am (hbox); have GW204 := am ((zq19 : w.heap.size ≤ gb204)); have GE204 := am ((zq19 : w.heap.size ≤ gb204)); replace HB := sB HB hb; clear hb hbox hg) | ((with_reducible refine gate_dst (N := 2) rfl ?_); refine zE 2 (cs := #[.int .i64 0, .slice none 0 0]) 26 ?_; intro gb205 hg w34 hbox hb; have BK205 := am (hbox); have GW205 := am ((zq19 : w.heap.size ≤ gb205)); have GE205 := am ((zq19 : w.heap.size ≤ gb205)); have NB204_205 := am ((by rw [hg]; exact Nat.ne_of_lt (blk_lt (pKq BK204)) : gb204 ≠ gb205)); have NB205_204 := am ((by rw [hg]; exact Nat.ne_of_gt (blk_lt (pKq BK204)) : gb205 ≠ gb204)); replace BK204 := sK BK204 hb; replace HB := sB HB hb; clear hb hbox hg; have hnb35 := NB204_205.out; have hnc35 := NB205_204.out; obtain ⟨hcz36_0, hcz36_1, hfz36_0, hfz36_1⟩ := sC BK204) | ((with_reducible refine gate_callee (f := 59) rfl ?_); refine goesL_ (some 8) rfl rfl Tryz.func59 zq15 rfl #[.agg #[.int .i64 a0_0, .slice A0_1 l0_1.length c0_1]] rfl zq0 ?_; (with_reducible refine (spec_laGood.calls k a0_0 _ _ l0_1 false _ ?side1 ?side2 A2.out).mono ?_); (case side1 => exact zq7); (case side2 => exact zq97); rintro e w37 ⟨rfl, hb⟩; refine ⟨_, rfl, ?_⟩; replace BK204 := sK BK204 hb; replace BK205 := sK BK205 hb; replace HB := sB HB hb; (try clear hb); obtain ⟨hcz38_0, hcz38_1, hfz38_0, hfz38_1⟩ := sC BK205))
  refine bodyPost_ret (results_ct rfl _ _ gb205 26 #[.int .i64 0, .slice none 0 0] (0, 0) _ rfl (by (with_reducible repeat (first | refine blk_drewN ?_ _ | refine blk_drew ?_ | refine blk_alloc ?_ _)); refine blk_put (cs := #[.int .i64 0, .slice none 0 0]) ?_ 1 _ rfl; (with_reducible repeat (first | refine blk_drewN ?_ _ | refine blk_drew ?_ | refine blk_alloc ?_ _)); refine blk_put (cs := #[.int .i64 0, .slice none 0 0]) ?_ 0 _ rfl; (with_reducible repeat (first | refine blk_drewN ?_ _ | refine blk_drew ?_ | refine blk_alloc ?_ _)); exact BK205.out) Tryz.underlying26 rfl zq15) rfl ?_
  exact ⟨_, zq6, zq11, zq1⟩
/-! ### strconv_log10Pow2: function 179 -/
def strconv_log10Pow2.f (a0 : Int) : Option (Int) := some ((wrap64 (a0 * 78913)) / 262144)
theorem strconv_log10Pow2.calls (a0 : Int) (r : Int) (w : World) (h : strconv_log10Pow2.f a0 = some r) :
  Calls Tryz.prog 179 #[.int .i64 a0] w fun e w' => e = .returned (.int .i64 r) ∧ Drawn0 w w' := by
 unfold strconv_log10Pow2.f at h
 have H := h
 clear h
 obtain rfl := Option.some.inj H
 go_enter Tryz.func179, Tryz.ntmps179
 go_wp2
 go_ret
 exact ⟨zq10, zq17⟩
end
end Go.Proofs.YtlmiiijjjcddkaaGreatDoor.PLg
