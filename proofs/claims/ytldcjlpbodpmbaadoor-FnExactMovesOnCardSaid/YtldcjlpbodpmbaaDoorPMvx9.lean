-- Written for this claim by a program of this session (myprint.py) over the kit's printer.
import Derived.Test.YtldcjlpbodpmbaaDoorPMvx0
import Derived.Test.YtldcjlpbodpmbaaDoorPMvx8
namespace Go.Proofs.YtldcjlpbodpmbaaDoor.PMv
noncomputable section
open Go.RowKit Go.Proofs.YtldcjlpbodpmbaaDoorW.PrintWords Go.Proofs.YtldcjlpbodpmbaaDoorW.PrintLast Go.Proofs.YtldcjlpbodpmbaaDoorW.PrintMore
attribute [local go_sem] max2_int min2_int max_two min_two max_three min_three max_four min_four   -- for this text's walks alone
set_option linter.unusedVariables false
set_option linter.unusedSimpArgs false

/-! ### impl_MovesOn: function 13 -/
def impl_MovesOn.itoa.f (a0 : Int) : Option ByteArray := if 0 ≤ a0 ∧ a0 < 100 then some ⟨(Lib.decDigits a0.toNat).toArray⟩ else none
theorem impl_MovesOn.itoa.calls (a0 : Int) (r : ByteArray) (w : World) (h : impl_MovesOn.itoa.f a0 = some r) :
    Calls Tryd.prog 32 #[.int .i64 a0] w fun e w' => e = .returned (.string r) ∧ Below w.heap.size w w' := by
  unfold impl_MovesOn.itoa.f at h
  split at h
  · rename_i hc
    obtain rfl := Option.some.inj h
    obtain ⟨m, rfl⟩ := Int.eq_ofNat_of_zero_le hc.1
    rw [Int.toNat_natCast]
    exact (Any.strconv_Itoa_small Tryd.laysItoa m (by omega) w).mono (fun e w' hh => ⟨hh.1, by rw [hh.2]; exact Below.refl _ _⟩)
  · cases h
open Classical in
noncomputable def impl_MovesOn.ev {α : Type} (g : Nat → Option α) : Option α := if h : ∃ k r, g k = some r then g h.choose else none
theorem impl_MovesOn.ev_some {α : Type} {g : Nat → Option α} {r : α} (h : impl_MovesOn.ev g = some r) : ∃ k, g k = some r := by
  unfold impl_MovesOn.ev at h
  split at h
  · exact ⟨_, h⟩
  · cases h
def impl_MovesOn.g (cf : Int → List Int → Int → Option Bool) (s : ByteArray) (a0 : Int) (l : List Int) : Nat → Nat → List ByteArray → Option (List ByteArray)
  | 0, _, acc => some acc
  | d + 1, i, acc => (cf a0 l (i : Int)).bind fun b => if b = true then (impl_MovesOn.itoa.f (i : Int)).bind fun t => (if s.size + t.size ≤ 9223372036854775807 then (if acc.length < 1000 then impl_MovesOn.g cf s a0 l d (i + 1) (acc ++ [s ++ t]) else none) else none) else impl_MovesOn.g cf s a0 l d (i + 1) acc
def impl_MovesOn.T4 : Bool × List (List Nat × List Nat) := (true, [([], []), ([], []), ([], []), ([2], [2]), ([1, 3], [1, 3]), ([4], [4]), ([0, 5, 3], [0, 5]), ([6, 6, 0, 1, 2, 3, 4, 5, 6], [6])])
def impl_MovesOn.B4 : List Nat := [0, 0, 0, 4, 14, 30, 63, 127]
theorem impl_MovesOn.tab4 : rtab .any (opsOf Tryd.f31 4) = impl_MovesOn.T4 := by kernel_rfl
theorem impl_MovesOn.bits4 : waitsOk impl_MovesOn.T4.2 impl_MovesOn.B4 = true := by kernel_rfl
set_option maxHeartbeats 8000000 in
set_option maxRecDepth 100000 in
theorem impl_MovesOn.calls_impl_canSlide (s : ByteArray) (a0 : Int) (A : Option Addr) (c0 : Nat) (l : List Int) (gl go_ : Nat) (u0 : Value) (acc0 res : List ByteArray) (w0 w : World) (hr : Kd.C (Kd.int .i64) w0 A l.length l) (hc : l.length ≤ c0) (hl : l.length ≤ 1000) (hB : Below w0.heap.size w0 w)
    (hbl : w.heap[gl]? = some (.cells #[.int .i64 a0, .slice A l.length c0] 28 (0, 0))) (hbo : w.heap[go_]? = some (.cells #[u0] 32 (0, 0))) (hgo : w0.heap.size ≤ go_) (hu : Kd.R Kd.string 9 w w0.heap.size (fun _ => True) u0 acc0) (h : impl_MovesOn.g impl_canSlide.f s a0 l l.length 0 acc0 = some res) :
    Calls Tryd.prog 31 #[.string s, .func (.func 33) #[] #[], .pointer (some ⟨gl, 0, none⟩), .pointer (some ⟨go_, 0, none⟩)] w fun e w' => e = .returned (.tuple #[]) ∧ ∃ u' : Value, w'.heap[gl]? = some (.cells #[.int .i64 a0, .slice A l.length c0] 28 (0, 0)) ∧ w'.heap[go_]? = some (.cells #[u'] 32 (0, 0)) ∧ Kd.R Kd.string 9 w' w0.heap.size (fun _ => True) u' res ∧ Below w0.heap.size w0 w' := by
  have hu28 := Tryd.underlying28
  have hu32 := Tryd.underlying32
  have HR := Aside0.mk hr
  have HC := Aside0.mk hc
  have HL := Aside0.mk hl
  have HB := Aside0.mk hB
  have BKL := Aside0.mk hbl
  have BKO := Aside0.mk hbo
  have HGO := Aside0.mk hgo
  have HU := Aside0.mk hu
  have H := Aside0.mk h
  clear hr hc hl hB hgo hu h
  have hcl0 : w.cell? ⟨gl, 0, none⟩ = some (.int .i64 a0) := blk_cell BKL.out 0
  have hcl1 : w.cell? ⟨gl, 1, none⟩ = some (.slice A l.length c0) := blk_cell BKL.out 1
  clear hbl hbo
  go_enter Tryd.func31, Tryd.ntmps31
  go_wp2
  clear hcl0 hcl1
  go_loopg [10] l.length (fun gg v10 w' => ∃ (i : Nat) (x10 : Int) (acc : List ByteArray) (u : Value), v10 = .int .i64 x10 ∧ Aside0 (x10 = (i : Int)) ∧ i ≤ l.length ∧ l.length - i ≤ gg ∧ Aside0 (impl_MovesOn.g impl_canSlide.f s a0 l (l.length - i) i acc = some res) ∧ Aside0 (Kd.R Kd.string 9 w' w0.heap.size (fun _ => True) u acc) ∧ Aside0 (w'.heap[gl]? = some (.cells #[.int .i64 a0, .slice A l.length c0] 28 (0, 0))) ∧ Aside0 (w'.heap[go_]? = some (.cells #[u] 32 (0, 0))) ∧ Aside0 (Below w0.heap.size w0 w'))
  case atStart => exact ⟨0, 0, acc0, u0, rfl, ⟨rfl⟩, Nat.zero_le _, by omega, ⟨H.out⟩, ⟨(by (with_reducible repeat (first | apply Kd.R_alloc | apply Kd.R_drewN | apply Kd.R_drew)); exact HU.out)⟩, ⟨(by (with_reducible repeat (first | refine blk_drewN ?_ _ | refine blk_drew ?_ | refine blk_alloc ?_ _)); exact BKL.out)⟩, ⟨(by (with_reducible repeat (first | refine blk_drewN ?_ _ | refine blk_drew ?_ | refine blk_alloc ?_ _)); exact BKO.out)⟩, ⟨(by repeat (first | (with_reducible first | exact HB.out | apply below_alloc | apply pw_below_drewN | apply below_drew1 | refine below_set ?_ HGO.out) | exact HB.out))⟩⟩
  case round =>
    clear HU BKL BKO HB H
    obtain ⟨i, x10, acc, u, rfl, HX, hi, hgk, H, HU, BKL, BKO, HB⟩ := hrel
    have hcl0 : wr.cell? ⟨gl, 0, none⟩ = some (.int .i64 a0) := blk_cell BKL.out 0
    have hcl1 : wr.cell? ⟨gl, 1, none⟩ = some (.slice A l.length c0) := blk_cell BKL.out 1
    have hco0 : wr.cell? ⟨go_, 0, none⟩ = some u := blk_cell BKO.out 0
    by_cases hlt : i < l.length
    · have q10 : x10 < (l.length : Int) := by have := HX.out; omega
      have q10b : decide (x10 < (l.length : Int)) = true := decide_eq_true q10
      have h := H.out
      clear H
      rw [show l.length - i = (l.length - (i + 1)) + 1 by omega, impl_MovesOn.g, ← HX.out] at h
      obtain ⟨b, hb, h⟩ := Option.bind_eq_some_iff.1 h
      have HCB := Aside0.mk hb
      clear hb
      cases b with
      | true =>
        rw [if_pos rfl] at h
        obtain ⟨t, ht, h⟩ := Option.bind_eq_some_iff.1 h
        split at h
        · rename_i hs
          split at h
          · rename_i h1000
            obtain ⟨y, hy⟩ : ∃ y, y = acc ++ [s ++ t] := ⟨_, rfl⟩
            rw [← hy] at h
            have Ny := Aside0.mk hy
            clear hy
            have H := Aside0.mk h
            have HT := Aside0.mk ht
            have hs0 := eq_true hs
            have hs1 : decide (s.size + t.size ≤ 9223372036854775807) = true := decide_eq_true hs
            have hs2 : (9223372036854775807 < s.size + t.size) = False := eq_false (Nat.not_lt.2 hs)
            have H1000 := Aside0.mk h1000
            clear h ht hs h1000 q10
            go_wp2_with (go_at_call 33; (refine (impl_canSlide.calls a0 A c0 l x10 true _ ?side1 HC.out HCB.out).mono ?_); (case side1 => repeat (first | exact (Kd.C_below HR.out HB.out) | (with_reducible refine Kd.C_alloc ?_ _) | (with_reducible refine Kd.C_drewN ?_ _) | (with_reducible refine Kd.C_drew ?_))); rintro e w1 ⟨rfl, hb⟩; have n0_ := Aside0.mk (Kd.R_below (by (with_reducible repeat (first | apply Kd.R_alloc | apply Kd.R_drewN | apply Kd.R_drew)); exact HU.out) hb); have n1_ := Aside0.mk (blk_below (g := gl) (o := .cells #[.int .i64 a0, .slice A l.length c0] 28 (0, 0)) (by (with_reducible repeat (first | refine blk_drewN ?_ _ | refine blk_drew ?_ | refine blk_alloc ?_ _)); exact BKL.out) hb); have n2_ := Aside0.mk (blk_below (g := go_) (o := .cells #[u] 32 (0, 0)) (by (with_reducible repeat (first | refine blk_drewN ?_ _ | refine blk_drew ?_ | refine blk_alloc ?_ _)); exact BKO.out) hb); have n3_ := Aside0.mk (below_step (by repeat (first | (with_reducible first | exact HB.out | apply below_alloc | apply pw_below_drewN | apply below_drew1 | refine below_set ?_ HGO.out) | exact HB.out)) hb); clear HU BKL BKO HB hcl0 hcl1 hco0; have HU := n0_; have BKL := n1_; have BKO := n2_; have HB := n3_; clear n0_ n1_ n2_ n3_ hb; have hco0 : w1.cell? ⟨go_, 0, none⟩ = some u := blk_cell BKO.out 0; have hfo := blk_frozen BKO.out 0)
            clear hco0 hfo
            have n0_ := Aside0.mk (Kd.R_drew HU.out)
            have n1_ := Aside0.mk (blk_drew BKL.out)
            have n2_ := Aside0.mk (blk_drew BKO.out)
            have n3_ := Aside0.mk (below_drew1 HB.out)
            clear HU BKL BKO HB
            have HU := n0_
            have BKL := n1_
            have BKO := n2_
            have HB := n3_
            clear n0_ n1_ n2_ n3_
            refine start_ (n := 8) (S := fun w' => w'.cell? ⟨go_, 0, none⟩ = some u) (ds := [6, 7]) #[false, false, false, false, false, false, false, false] (by kernel_rfl) rfl rfl (blk_cell BKO.out 0) (fun hHeld => ?_); refine with_tabW impl_MovesOn.tab4 impl_MovesOn.bits4 (fun HT_ HW_ => ?_)
            generalize w1.drew = w2 at HU BKL BKO HB hHeld ⊢
            refine pure_ (i := 1) (N := some 18) (v := ?_) (a' := ?_) #[false, true, false, false, false, false, false, false] rfl rfl (any_of HT_.out (by kernel_rfl)) (fun _ _ _ h => h) (Or.inl ⟨by rfl, ?_⟩) ?_ ?_
            rotate_left
            · intro w'
              go_simp
              with_reducible rfl
            rotate_left
            · simp only [Act.put, List.setIfInBounds_toArray, List.set_cons_zero, List.set_cons_succ, i64_w, i32_w]
              rfl
            refine pure_ (i := 2) (N := some 19) (v := ?_) (a' := ?_) #[false, true, true, false, false, false, false, false] rfl rfl (any_of HT_.out (by kernel_rfl)) (fun _ _ _ h => h) (Or.inl ⟨by rfl, ?_⟩) ?_ ?_
            rotate_left
            · intro w'
              go_simp
              with_reducible rfl
            rotate_left
            · simp only [Act.put, List.setIfInBounds_toArray, List.set_cons_zero, List.set_cons_succ, i64_w, i32_w]
              rfl
            refine take_ (i := 0) (N := some 17) (v := ?_) (a' := ?_) #[true, true, true, false, false, false, false, false] rfl rfl (take_ofW HT_.out HW_.out (by kernel_rfl)) (fun _ _ _ h => h) (Or.inl ⟨by rfl, ?_⟩) hHeld ?_ ?_
            rotate_left
            · rintro w' s0
              go_simp
              with_reducible rfl
            rotate_left
            · simp only [Act.put, List.setIfInBounds_toArray, List.set_cons_zero, List.set_cons_succ, i64_w, i32_w]
              rfl
            refine one_ (i := 3) (N := some 20) #[true, true, true, true, false, false, false, false] rfl rfl (one_of HT_.out (by kernel_rfl)) (by decide) (fun K hK => ?_)
            refine goes_ Tryd.func32 (by kernel_rfl) rfl #[.int .i64 x10] (by rfl) rfl rfl (by (try simp only [List.map_toArray, List.map_cons, List.map_nil]); first | done | rfl) ?_
            refine (impl_MovesOn.itoa.calls x10 t _ HT.out).mono ?_
            rintro e w3 ⟨rfl, hb⟩
            refine ⟨_, rfl, ?_⟩
            have n0_ := Aside0.mk (Kd.R_below (by (with_reducible repeat (first | apply Kd.R_alloc | apply Kd.R_drewN | apply Kd.R_drew)); exact HU.out) hb)
            have n1_ := Aside0.mk (blk_below (g := gl) (o := .cells #[.int .i64 a0, .slice A l.length c0] 28 (0, 0)) (by (with_reducible repeat (first | refine blk_drewN ?_ _ | refine blk_drew ?_ | refine blk_alloc ?_ _)); exact BKL.out) hb)
            have n2_ := Aside0.mk (blk_below (g := go_) (o := .cells #[u] 32 (0, 0)) (by (with_reducible repeat (first | refine blk_drewN ?_ _ | refine blk_drew ?_ | refine blk_alloc ?_ _)); exact BKO.out) hb)
            have n3_ := Aside0.mk (below_step (by repeat (first | (with_reducible first | exact HB.out | apply below_alloc | apply pw_below_drewN | apply below_drew1 | refine below_set ?_ HGO.out) | exact HB.out)) hb)
            clear HU BKL BKO HB hb hHeld
            have HU := n0_
            have BKL := n1_
            have BKO := n2_
            have HB := n3_
            clear n0_ n1_ n2_ n3_
            refine hK.out _ _ (blk_cell BKO.out 0) (fun hHeld => ?_)
            clear hK K
            refine norm_ (a' := ?_) ?_ ?_
            rotate_left
            · show Act.put _ (some 20) _ = _
              simp only [Act.put, List.setIfInBounds_toArray, List.set_cons_zero, List.set_cons_succ, i64_w, i32_w]
              rfl
            refine pure_ (i := 4) (N := some 21) (v := ?_) (a' := ?_) #[true, true, true, true, true, false, false, false] rfl rfl (any_of HT_.out (by kernel_rfl)) (fun _ _ _ h => h) (Or.inl ⟨by rfl, ?_⟩) ?_ ?_
            rotate_left
            · intro w'
              go_simp
              with_reducible rfl
            rotate_left
            · simp only [Act.put, List.setIfInBounds_toArray, List.set_cons_zero, List.set_cons_succ, i64_w, i32_w]
              rfl
            refine one_ (i := 5) (N := some 22) #[true, true, true, true, true, true, false, false] rfl rfl (one_of HT_.out (by kernel_rfl)) (by decide) (fun K hK => ?_)
            refine value_ (w1 := ?_) (v := ?_) (by rfl) rfl ?_ ?_
            rotate_left 2
            · go_simp
              constructor
              · rfl
              · rfl
            refine hK.out _ _ ((blk_cell (blk_alloc BKO.out _) 0).trans rfl) (fun hHeld => ?_)
            clear hK K
            refine norm_ (a' := ?_) ?_ ?_
            rotate_left
            · show Act.put _ (some 22) _ = _
              simp only [Act.put, List.setIfInBounds_toArray, List.set_cons_zero, List.set_cons_succ, i64_w, i32_w]
              rfl
            refine last_ (i := 6) (N := some 23) #[true, true, true, true, true, true, true, false] rfl rfl (one_of HT_.out (by kernel_rfl)) (by decide) (fun K hK => ?_)
            refine Kd.R_append_step Kd.string (w0 := w0) w0.heap.size (by rfl) (.tmp 17) (.tmp 22) 32 9 (.string ⟨#[]⟩) 16 rfl Tryd.underlying32 info9 rfl (by decide) (by omega) u acc (s ++ t) [.string (s ++ t)] (fun _ => True) (fun _ => False) rfl rfl ?aP (fun _ hk => hk.elim) ?aF ?aO ?aB ?aS ?aL ?_
            (case aP => exact rfl)
            (case aB => exact (by repeat (first | (with_reducible first | exact HB.out | apply below_alloc | apply pw_below_drewN | apply below_drew1 | refine below_set ?_ HGO.out) | exact HB.out)))
            (case aF => exact (fun _ _ => trivial))
            (case aO => exact (by (with_reducible repeat (first | apply Kd.R_alloc | apply Kd.R_drewN | apply Kd.R_drew)); exact HU.out))
            (case aS => exact (below_size (by repeat (first | (with_reducible first | exact HB.out | apply below_alloc | apply pw_below_drewN | apply below_drew1 | refine below_set ?_ HGO.out) | exact HB.out))))
            (case aL => have := H1000.out; omega)
            intro v3 w4 ho hb hg hat
            rw [← Ny.out] at ho
            have n0_ := Aside0.mk ho
            have n1_ := Aside0.mk (blk_grown (g := gl) (o := .cells #[.int .i64 a0, .slice A l.length c0] 28 (0, 0)) (by (with_reducible repeat (first | refine blk_drewN ?_ _ | refine blk_drew ?_ | refine blk_alloc ?_ _)); exact BKL.out) hg (Kd.R_ne HU.out BKL.out (by decide)))
            have n2_ := Aside0.mk (blk_grown (g := go_) (o := .cells #[u] 32 (0, 0)) (by (with_reducible repeat (first | refine blk_drewN ?_ _ | refine blk_drew ?_ | refine blk_alloc ?_ _)); exact BKO.out) hg (Kd.R_ne HU.out BKO.out (by decide)))
            have n3_ := Aside0.mk hb
            clear HU BKL BKO HB ho hb hg hat hHeld
            have HU := n0_
            have BKL := n1_
            have BKO := n2_
            have HB := n3_
            clear n0_ n1_ n2_ n3_
            obtain ⟨Ao, co, eo⟩ := Kd.R_slice HU.out
            subst eo
            refine hK.out _ _ ?_
            clear hK K
            refine norm_ (a' := ?_) ?_ ?_
            rotate_left
            · show Act.put _ (some 23) _ = _
              simp only [Act.put, List.setIfInBounds_toArray, List.set_cons_zero, List.set_cons_succ, i64_w, i32_w]
              rfl
            refine last_ (i := 7) (N := none) #[true, true, true, true, true, true, true, true] rfl rfl (one_of HT_.out (by kernel_rfl)) (by decide) (fun K hK => ?_)
            have hs17 : w4.cell? ⟨go_, 0, none⟩ = some u := blk_cell BKO.out 0
            have hfs17 := blk_frozen BKO.out 0
            refine skip_ (w1 := ?_) (by rfl) rfl ?_ ?_
            rotate_left
            · go_simp
              rfl
            refine hK.out _ _ ?_
            clear hK K
            refine done_ (done_of HT_.out (by kernel_rfl)) ?_
            try go_wp2
            go_roundg (l.length - (i + 1))
            case measure => omega
            case rel => exact ⟨i + 1, wrap64 (x10 + 1), y, _, (by first | rfl | (simp; done)), ⟨by have h1_ := HX.out; have h2_ := HL.out; unfold wrap64; omega⟩, by omega, by omega, H, ⟨by (with_reducible repeat (first | apply Kd.R_alloc | apply Kd.R_drewN | apply Kd.R_drew)); exact Kd.R_mono (Kd.R_far (p := ⟨go_, 0, none⟩) (Kd.R_types HU.out BKO.out (by decide)) (fun _ hk => hk.2) _) (fun _ _ => trivial)⟩, ⟨by (with_reducible repeat (first | refine blk_drewN ?_ _ | refine blk_drew ?_ | refine blk_alloc ?_ _)); refine blk_far ?_ (blk_ne BKL.out BKO.out (by decide)) _; (with_reducible repeat (first | refine blk_drewN ?_ _ | refine blk_drew ?_ | refine blk_alloc ?_ _)); exact BKL.out⟩, ⟨by (with_reducible repeat (first | refine blk_drewN ?_ _ | refine blk_drew ?_ | refine blk_alloc ?_ _)); refine blk_put (cs := #[u]) ?_ 0 _ rfl; (with_reducible repeat (first | refine blk_drewN ?_ _ | refine blk_drew ?_ | refine blk_alloc ?_ _)); exact BKO.out⟩, ⟨(by repeat (first | (with_reducible first | exact HB.out | apply below_alloc | apply pw_below_drewN | apply below_drew1 | refine below_set ?_ HGO.out) | exact HB.out))⟩⟩
          · cases h
        · cases h
      | false =>
        rw [if_neg (by decide)] at h
        have H := Aside0.mk h
        clear h q10
        go_wp2_with (go_at_call 33; (refine (impl_canSlide.calls a0 A c0 l x10 false _ ?side1 HC.out HCB.out).mono ?_); (case side1 => repeat (first | exact (Kd.C_below HR.out HB.out) | (with_reducible refine Kd.C_alloc ?_ _) | (with_reducible refine Kd.C_drewN ?_ _) | (with_reducible refine Kd.C_drew ?_))); rintro e w1 ⟨rfl, hb⟩; have n0_ := Aside0.mk (Kd.R_below (by (with_reducible repeat (first | apply Kd.R_alloc | apply Kd.R_drewN | apply Kd.R_drew)); exact HU.out) hb); have n1_ := Aside0.mk (blk_below (g := gl) (o := .cells #[.int .i64 a0, .slice A l.length c0] 28 (0, 0)) (by (with_reducible repeat (first | refine blk_drewN ?_ _ | refine blk_drew ?_ | refine blk_alloc ?_ _)); exact BKL.out) hb); have n2_ := Aside0.mk (blk_below (g := go_) (o := .cells #[u] 32 (0, 0)) (by (with_reducible repeat (first | refine blk_drewN ?_ _ | refine blk_drew ?_ | refine blk_alloc ?_ _)); exact BKO.out) hb); have n3_ := Aside0.mk (below_step (by repeat (first | (with_reducible first | exact HB.out | apply below_alloc | apply pw_below_drewN | apply below_drew1 | refine below_set ?_ HGO.out) | exact HB.out)) hb); clear HU BKL BKO HB hcl0 hcl1 hco0; have HU := n0_; have BKL := n1_; have BKO := n2_; have HB := n3_; clear n0_ n1_ n2_ n3_ hb; have hco0 : w1.cell? ⟨go_, 0, none⟩ = some u := blk_cell BKO.out 0; have hfo := blk_frozen BKO.out 0)
        go_roundg (l.length - (i + 1))
        case measure => omega
        case rel => exact ⟨i + 1, wrap64 (x10 + 1), acc, u, (by first | rfl | (simp; done)), ⟨by have h1_ := HX.out; have h2_ := HL.out; unfold wrap64; omega⟩, by omega, by omega, H, ⟨(by (with_reducible repeat (first | apply Kd.R_alloc | apply Kd.R_drewN | apply Kd.R_drew)); exact HU.out)⟩, ⟨(by (with_reducible repeat (first | refine blk_drewN ?_ _ | refine blk_drew ?_ | refine blk_alloc ?_ _)); exact BKL.out)⟩, ⟨(by (with_reducible repeat (first | refine blk_drewN ?_ _ | refine blk_drew ?_ | refine blk_alloc ?_ _)); exact BKO.out)⟩, ⟨(by repeat (first | (with_reducible first | exact HB.out | apply below_alloc | apply pw_below_drewN | apply below_drew1 | refine below_set ?_ HGO.out) | exact HB.out))⟩⟩
    · have q10 : ¬ x10 < (l.length : Int) := by have := HX.out; omega
      have q10b : decide (x10 < (l.length : Int)) = false := decide_eq_false q10
      have h := H.out
      rw [show l.length - i = 0 by omega, impl_MovesOn.g] at h
      obtain rfl := Option.some.inj h
      clear h H
      go_wp2
      first
      | go_end0
      | refine bodyPost_ret (results_none rfl _ _ _) rfl ?_
      exact ⟨rfl, (by (with_reducible repeat (first | refine blk_drewN ?_ _ | refine blk_drew ?_ | refine blk_alloc ?_ _)); exact BKL.out), u, (by (with_reducible repeat (first | refine blk_drewN ?_ _ | refine blk_drew ?_ | refine blk_alloc ?_ _)); exact BKO.out), (by (with_reducible repeat (first | apply Kd.R_alloc | apply Kd.R_drewN | apply Kd.R_drew)); exact HU.out), (by repeat (first | (with_reducible first | exact HB.out | apply below_alloc | apply pw_below_drewN | apply below_drew1 | refine below_set ?_ HGO.out) | exact HB.out))⟩
set_option maxHeartbeats 8000000 in
set_option maxRecDepth 100000 in
theorem impl_MovesOn.calls_impl_canFlip (s : ByteArray) (a0 : Int) (A : Option Addr) (c0 : Nat) (l : List Int) (gl go_ : Nat) (u0 : Value) (acc0 res : List ByteArray) (w0 w : World) (hr : Kd.C (Kd.int .i64) w0 A l.length l) (hc : l.length ≤ c0) (hl : l.length ≤ 1000) (hB : Below w0.heap.size w0 w)
    (hbl : w.heap[gl]? = some (.cells #[.int .i64 a0, .slice A l.length c0] 28 (0, 0))) (hbo : w.heap[go_]? = some (.cells #[u0] 32 (0, 0))) (hgo : w0.heap.size ≤ go_) (hu : Kd.R Kd.string 9 w w0.heap.size (fun _ => True) u0 acc0) (h : impl_MovesOn.g impl_canFlip.f s a0 l l.length 0 acc0 = some res) :
    Calls Tryd.prog 31 #[.string s, .func (.func 34) #[] #[], .pointer (some ⟨gl, 0, none⟩), .pointer (some ⟨go_, 0, none⟩)] w fun e w' => e = .returned (.tuple #[]) ∧ ∃ u' : Value, w'.heap[gl]? = some (.cells #[.int .i64 a0, .slice A l.length c0] 28 (0, 0)) ∧ w'.heap[go_]? = some (.cells #[u'] 32 (0, 0)) ∧ Kd.R Kd.string 9 w' w0.heap.size (fun _ => True) u' res ∧ Below w0.heap.size w0 w' := by
  have hu28 := Tryd.underlying28
  have hu32 := Tryd.underlying32
  have HR := Aside0.mk hr
  have HC := Aside0.mk hc
  have HL := Aside0.mk hl
  have HB := Aside0.mk hB
  have BKL := Aside0.mk hbl
  have BKO := Aside0.mk hbo
  have HGO := Aside0.mk hgo
  have HU := Aside0.mk hu
  have H := Aside0.mk h
  clear hr hc hl hB hgo hu h
  have hcl0 : w.cell? ⟨gl, 0, none⟩ = some (.int .i64 a0) := blk_cell BKL.out 0
  have hcl1 : w.cell? ⟨gl, 1, none⟩ = some (.slice A l.length c0) := blk_cell BKL.out 1
  clear hbl hbo
  go_enter Tryd.func31, Tryd.ntmps31
  go_wp2
  clear hcl0 hcl1
  go_loopg [10] l.length (fun gg v10 w' => ∃ (i : Nat) (x10 : Int) (acc : List ByteArray) (u : Value), v10 = .int .i64 x10 ∧ Aside0 (x10 = (i : Int)) ∧ i ≤ l.length ∧ l.length - i ≤ gg ∧ Aside0 (impl_MovesOn.g impl_canFlip.f s a0 l (l.length - i) i acc = some res) ∧ Aside0 (Kd.R Kd.string 9 w' w0.heap.size (fun _ => True) u acc) ∧ Aside0 (w'.heap[gl]? = some (.cells #[.int .i64 a0, .slice A l.length c0] 28 (0, 0))) ∧ Aside0 (w'.heap[go_]? = some (.cells #[u] 32 (0, 0))) ∧ Aside0 (Below w0.heap.size w0 w'))
  case atStart => exact ⟨0, 0, acc0, u0, rfl, ⟨rfl⟩, Nat.zero_le _, by omega, ⟨H.out⟩, ⟨(by (with_reducible repeat (first | apply Kd.R_alloc | apply Kd.R_drewN | apply Kd.R_drew)); exact HU.out)⟩, ⟨(by (with_reducible repeat (first | refine blk_drewN ?_ _ | refine blk_drew ?_ | refine blk_alloc ?_ _)); exact BKL.out)⟩, ⟨(by (with_reducible repeat (first | refine blk_drewN ?_ _ | refine blk_drew ?_ | refine blk_alloc ?_ _)); exact BKO.out)⟩, ⟨(by repeat (first | (with_reducible first | exact HB.out | apply below_alloc | apply pw_below_drewN | apply below_drew1 | refine below_set ?_ HGO.out) | exact HB.out))⟩⟩
  case round =>
    clear HU BKL BKO HB H
    obtain ⟨i, x10, acc, u, rfl, HX, hi, hgk, H, HU, BKL, BKO, HB⟩ := hrel
    have hcl0 : wr.cell? ⟨gl, 0, none⟩ = some (.int .i64 a0) := blk_cell BKL.out 0
    have hcl1 : wr.cell? ⟨gl, 1, none⟩ = some (.slice A l.length c0) := blk_cell BKL.out 1
    have hco0 : wr.cell? ⟨go_, 0, none⟩ = some u := blk_cell BKO.out 0
    by_cases hlt : i < l.length
    · have q10 : x10 < (l.length : Int) := by have := HX.out; omega
      have q10b : decide (x10 < (l.length : Int)) = true := decide_eq_true q10
      have h := H.out
      clear H
      rw [show l.length - i = (l.length - (i + 1)) + 1 by omega, impl_MovesOn.g, ← HX.out] at h
      obtain ⟨b, hb, h⟩ := Option.bind_eq_some_iff.1 h
      have HCB := Aside0.mk hb
      clear hb
      cases b with
      | true =>
        rw [if_pos rfl] at h
        obtain ⟨t, ht, h⟩ := Option.bind_eq_some_iff.1 h
        split at h
        · rename_i hs
          split at h
          · rename_i h1000
            obtain ⟨y, hy⟩ : ∃ y, y = acc ++ [s ++ t] := ⟨_, rfl⟩
            rw [← hy] at h
            have Ny := Aside0.mk hy
            clear hy
            have H := Aside0.mk h
            have HT := Aside0.mk ht
            have hs0 := eq_true hs
            have hs1 : decide (s.size + t.size ≤ 9223372036854775807) = true := decide_eq_true hs
            have hs2 : (9223372036854775807 < s.size + t.size) = False := eq_false (Nat.not_lt.2 hs)
            have H1000 := Aside0.mk h1000
            clear h ht hs h1000 q10
            go_wp2_with (go_at_call 34; (refine (impl_canFlip.calls a0 A c0 l x10 true _ ?side1 HC.out HCB.out).mono ?_); (case side1 => repeat (first | exact (Kd.C_below HR.out HB.out) | (with_reducible refine Kd.C_alloc ?_ _) | (with_reducible refine Kd.C_drewN ?_ _) | (with_reducible refine Kd.C_drew ?_))); rintro e w1 ⟨rfl, hb⟩; have n0_ := Aside0.mk (Kd.R_below (by (with_reducible repeat (first | apply Kd.R_alloc | apply Kd.R_drewN | apply Kd.R_drew)); exact HU.out) hb); have n1_ := Aside0.mk (blk_below (g := gl) (o := .cells #[.int .i64 a0, .slice A l.length c0] 28 (0, 0)) (by (with_reducible repeat (first | refine blk_drewN ?_ _ | refine blk_drew ?_ | refine blk_alloc ?_ _)); exact BKL.out) hb); have n2_ := Aside0.mk (blk_below (g := go_) (o := .cells #[u] 32 (0, 0)) (by (with_reducible repeat (first | refine blk_drewN ?_ _ | refine blk_drew ?_ | refine blk_alloc ?_ _)); exact BKO.out) hb); have n3_ := Aside0.mk (below_step (by repeat (first | (with_reducible first | exact HB.out | apply below_alloc | apply pw_below_drewN | apply below_drew1 | refine below_set ?_ HGO.out) | exact HB.out)) hb); clear HU BKL BKO HB hcl0 hcl1 hco0; have HU := n0_; have BKL := n1_; have BKO := n2_; have HB := n3_; clear n0_ n1_ n2_ n3_ hb; have hco0 : w1.cell? ⟨go_, 0, none⟩ = some u := blk_cell BKO.out 0; have hfo := blk_frozen BKO.out 0)
            clear hco0 hfo
            have n0_ := Aside0.mk (Kd.R_drew HU.out)
            have n1_ := Aside0.mk (blk_drew BKL.out)
            have n2_ := Aside0.mk (blk_drew BKO.out)
            have n3_ := Aside0.mk (below_drew1 HB.out)
            clear HU BKL BKO HB
            have HU := n0_
            have BKL := n1_
            have BKO := n2_
            have HB := n3_
            clear n0_ n1_ n2_ n3_
            refine start_ (n := 8) (S := fun w' => w'.cell? ⟨go_, 0, none⟩ = some u) (ds := [6, 7]) #[false, false, false, false, false, false, false, false] (by kernel_rfl) rfl rfl (blk_cell BKO.out 0) (fun hHeld => ?_); refine with_tabW impl_MovesOn.tab4 impl_MovesOn.bits4 (fun HT_ HW_ => ?_)
            generalize w1.drew = w2 at HU BKL BKO HB hHeld ⊢
            refine pure_ (i := 1) (N := some 18) (v := ?_) (a' := ?_) #[false, true, false, false, false, false, false, false] rfl rfl (any_of HT_.out (by kernel_rfl)) (fun _ _ _ h => h) (Or.inl ⟨by rfl, ?_⟩) ?_ ?_
            rotate_left
            · intro w'
              go_simp
              with_reducible rfl
            rotate_left
            · simp only [Act.put, List.setIfInBounds_toArray, List.set_cons_zero, List.set_cons_succ, i64_w, i32_w]
              rfl
            refine pure_ (i := 2) (N := some 19) (v := ?_) (a' := ?_) #[false, true, true, false, false, false, false, false] rfl rfl (any_of HT_.out (by kernel_rfl)) (fun _ _ _ h => h) (Or.inl ⟨by rfl, ?_⟩) ?_ ?_
            rotate_left
            · intro w'
              go_simp
              with_reducible rfl
            rotate_left
            · simp only [Act.put, List.setIfInBounds_toArray, List.set_cons_zero, List.set_cons_succ, i64_w, i32_w]
              rfl
            refine take_ (i := 0) (N := some 17) (v := ?_) (a' := ?_) #[true, true, true, false, false, false, false, false] rfl rfl (take_ofW HT_.out HW_.out (by kernel_rfl)) (fun _ _ _ h => h) (Or.inl ⟨by rfl, ?_⟩) hHeld ?_ ?_
            rotate_left
            · rintro w' s0
              go_simp
              with_reducible rfl
            rotate_left
            · simp only [Act.put, List.setIfInBounds_toArray, List.set_cons_zero, List.set_cons_succ, i64_w, i32_w]
              rfl
            refine one_ (i := 3) (N := some 20) #[true, true, true, true, false, false, false, false] rfl rfl (one_of HT_.out (by kernel_rfl)) (by decide) (fun K hK => ?_)
            refine goes_ Tryd.func32 (by kernel_rfl) rfl #[.int .i64 x10] (by rfl) rfl rfl (by (try simp only [List.map_toArray, List.map_cons, List.map_nil]); first | done | rfl) ?_
            refine (impl_MovesOn.itoa.calls x10 t _ HT.out).mono ?_
            rintro e w3 ⟨rfl, hb⟩
            refine ⟨_, rfl, ?_⟩
            have n0_ := Aside0.mk (Kd.R_below (by (with_reducible repeat (first | apply Kd.R_alloc | apply Kd.R_drewN | apply Kd.R_drew)); exact HU.out) hb)
            have n1_ := Aside0.mk (blk_below (g := gl) (o := .cells #[.int .i64 a0, .slice A l.length c0] 28 (0, 0)) (by (with_reducible repeat (first | refine blk_drewN ?_ _ | refine blk_drew ?_ | refine blk_alloc ?_ _)); exact BKL.out) hb)
            have n2_ := Aside0.mk (blk_below (g := go_) (o := .cells #[u] 32 (0, 0)) (by (with_reducible repeat (first | refine blk_drewN ?_ _ | refine blk_drew ?_ | refine blk_alloc ?_ _)); exact BKO.out) hb)
            have n3_ := Aside0.mk (below_step (by repeat (first | (with_reducible first | exact HB.out | apply below_alloc | apply pw_below_drewN | apply below_drew1 | refine below_set ?_ HGO.out) | exact HB.out)) hb)
            clear HU BKL BKO HB hb hHeld
            have HU := n0_
            have BKL := n1_
            have BKO := n2_
            have HB := n3_
            clear n0_ n1_ n2_ n3_
            refine hK.out _ _ (blk_cell BKO.out 0) (fun hHeld => ?_)
            clear hK K
            refine norm_ (a' := ?_) ?_ ?_
            rotate_left
            · show Act.put _ (some 20) _ = _
              simp only [Act.put, List.setIfInBounds_toArray, List.set_cons_zero, List.set_cons_succ, i64_w, i32_w]
              rfl
            refine pure_ (i := 4) (N := some 21) (v := ?_) (a' := ?_) #[true, true, true, true, true, false, false, false] rfl rfl (any_of HT_.out (by kernel_rfl)) (fun _ _ _ h => h) (Or.inl ⟨by rfl, ?_⟩) ?_ ?_
            rotate_left
            · intro w'
              go_simp
              with_reducible rfl
            rotate_left
            · simp only [Act.put, List.setIfInBounds_toArray, List.set_cons_zero, List.set_cons_succ, i64_w, i32_w]
              rfl
            refine one_ (i := 5) (N := some 22) #[true, true, true, true, true, true, false, false] rfl rfl (one_of HT_.out (by kernel_rfl)) (by decide) (fun K hK => ?_)
            refine value_ (w1 := ?_) (v := ?_) (by rfl) rfl ?_ ?_
            rotate_left 2
            · go_simp
              constructor
              · rfl
              · rfl
            refine hK.out _ _ ((blk_cell (blk_alloc BKO.out _) 0).trans rfl) (fun hHeld => ?_)
            clear hK K
            refine norm_ (a' := ?_) ?_ ?_
            rotate_left
            · show Act.put _ (some 22) _ = _
              simp only [Act.put, List.setIfInBounds_toArray, List.set_cons_zero, List.set_cons_succ, i64_w, i32_w]
              rfl
            refine last_ (i := 6) (N := some 23) #[true, true, true, true, true, true, true, false] rfl rfl (one_of HT_.out (by kernel_rfl)) (by decide) (fun K hK => ?_)
            refine Kd.R_append_step Kd.string (w0 := w0) w0.heap.size (by rfl) (.tmp 17) (.tmp 22) 32 9 (.string ⟨#[]⟩) 16 rfl Tryd.underlying32 info9 rfl (by decide) (by omega) u acc (s ++ t) [.string (s ++ t)] (fun _ => True) (fun _ => False) rfl rfl ?aP (fun _ hk => hk.elim) ?aF ?aO ?aB ?aS ?aL ?_
            (case aP => exact rfl)
            (case aB => exact (by repeat (first | (with_reducible first | exact HB.out | apply below_alloc | apply pw_below_drewN | apply below_drew1 | refine below_set ?_ HGO.out) | exact HB.out)))
            (case aF => exact (fun _ _ => trivial))
            (case aO => exact (by (with_reducible repeat (first | apply Kd.R_alloc | apply Kd.R_drewN | apply Kd.R_drew)); exact HU.out))
            (case aS => exact (below_size (by repeat (first | (with_reducible first | exact HB.out | apply below_alloc | apply pw_below_drewN | apply below_drew1 | refine below_set ?_ HGO.out) | exact HB.out))))
            (case aL => have := H1000.out; omega)
            intro v3 w4 ho hb hg hat
            rw [← Ny.out] at ho
            have n0_ := Aside0.mk ho
            have n1_ := Aside0.mk (blk_grown (g := gl) (o := .cells #[.int .i64 a0, .slice A l.length c0] 28 (0, 0)) (by (with_reducible repeat (first | refine blk_drewN ?_ _ | refine blk_drew ?_ | refine blk_alloc ?_ _)); exact BKL.out) hg (Kd.R_ne HU.out BKL.out (by decide)))
            have n2_ := Aside0.mk (blk_grown (g := go_) (o := .cells #[u] 32 (0, 0)) (by (with_reducible repeat (first | refine blk_drewN ?_ _ | refine blk_drew ?_ | refine blk_alloc ?_ _)); exact BKO.out) hg (Kd.R_ne HU.out BKO.out (by decide)))
            have n3_ := Aside0.mk hb
            clear HU BKL BKO HB ho hb hg hat hHeld
            have HU := n0_
            have BKL := n1_
            have BKO := n2_
            have HB := n3_
            clear n0_ n1_ n2_ n3_
            obtain ⟨Ao, co, eo⟩ := Kd.R_slice HU.out
            subst eo
            refine hK.out _ _ ?_
            clear hK K
            refine norm_ (a' := ?_) ?_ ?_
            rotate_left
            · show Act.put _ (some 23) _ = _
              simp only [Act.put, List.setIfInBounds_toArray, List.set_cons_zero, List.set_cons_succ, i64_w, i32_w]
              rfl
            refine last_ (i := 7) (N := none) #[true, true, true, true, true, true, true, true] rfl rfl (one_of HT_.out (by kernel_rfl)) (by decide) (fun K hK => ?_)
            have hs17 : w4.cell? ⟨go_, 0, none⟩ = some u := blk_cell BKO.out 0
            have hfs17 := blk_frozen BKO.out 0
            refine skip_ (w1 := ?_) (by rfl) rfl ?_ ?_
            rotate_left
            · go_simp
              rfl
            refine hK.out _ _ ?_
            clear hK K
            refine done_ (done_of HT_.out (by kernel_rfl)) ?_
            try go_wp2
            go_roundg (l.length - (i + 1))
            case measure => omega
            case rel => exact ⟨i + 1, wrap64 (x10 + 1), y, _, (by first | rfl | (simp; done)), ⟨by have h1_ := HX.out; have h2_ := HL.out; unfold wrap64; omega⟩, by omega, by omega, H, ⟨by (with_reducible repeat (first | apply Kd.R_alloc | apply Kd.R_drewN | apply Kd.R_drew)); exact Kd.R_mono (Kd.R_far (p := ⟨go_, 0, none⟩) (Kd.R_types HU.out BKO.out (by decide)) (fun _ hk => hk.2) _) (fun _ _ => trivial)⟩, ⟨by (with_reducible repeat (first | refine blk_drewN ?_ _ | refine blk_drew ?_ | refine blk_alloc ?_ _)); refine blk_far ?_ (blk_ne BKL.out BKO.out (by decide)) _; (with_reducible repeat (first | refine blk_drewN ?_ _ | refine blk_drew ?_ | refine blk_alloc ?_ _)); exact BKL.out⟩, ⟨by (with_reducible repeat (first | refine blk_drewN ?_ _ | refine blk_drew ?_ | refine blk_alloc ?_ _)); refine blk_put (cs := #[u]) ?_ 0 _ rfl; (with_reducible repeat (first | refine blk_drewN ?_ _ | refine blk_drew ?_ | refine blk_alloc ?_ _)); exact BKO.out⟩, ⟨(by repeat (first | (with_reducible first | exact HB.out | apply below_alloc | apply pw_below_drewN | apply below_drew1 | refine below_set ?_ HGO.out) | exact HB.out))⟩⟩
          · cases h
        · cases h
      | false =>
        rw [if_neg (by decide)] at h
        have H := Aside0.mk h
        clear h q10
        go_wp2_with (go_at_call 34; (refine (impl_canFlip.calls a0 A c0 l x10 false _ ?side1 HC.out HCB.out).mono ?_); (case side1 => repeat (first | exact (Kd.C_below HR.out HB.out) | (with_reducible refine Kd.C_alloc ?_ _) | (with_reducible refine Kd.C_drewN ?_ _) | (with_reducible refine Kd.C_drew ?_))); rintro e w1 ⟨rfl, hb⟩; have n0_ := Aside0.mk (Kd.R_below (by (with_reducible repeat (first | apply Kd.R_alloc | apply Kd.R_drewN | apply Kd.R_drew)); exact HU.out) hb); have n1_ := Aside0.mk (blk_below (g := gl) (o := .cells #[.int .i64 a0, .slice A l.length c0] 28 (0, 0)) (by (with_reducible repeat (first | refine blk_drewN ?_ _ | refine blk_drew ?_ | refine blk_alloc ?_ _)); exact BKL.out) hb); have n2_ := Aside0.mk (blk_below (g := go_) (o := .cells #[u] 32 (0, 0)) (by (with_reducible repeat (first | refine blk_drewN ?_ _ | refine blk_drew ?_ | refine blk_alloc ?_ _)); exact BKO.out) hb); have n3_ := Aside0.mk (below_step (by repeat (first | (with_reducible first | exact HB.out | apply below_alloc | apply pw_below_drewN | apply below_drew1 | refine below_set ?_ HGO.out) | exact HB.out)) hb); clear HU BKL BKO HB hcl0 hcl1 hco0; have HU := n0_; have BKL := n1_; have BKO := n2_; have HB := n3_; clear n0_ n1_ n2_ n3_ hb; have hco0 : w1.cell? ⟨go_, 0, none⟩ = some u := blk_cell BKO.out 0; have hfo := blk_frozen BKO.out 0)
        go_roundg (l.length - (i + 1))
        case measure => omega
        case rel => exact ⟨i + 1, wrap64 (x10 + 1), acc, u, (by first | rfl | (simp; done)), ⟨by have h1_ := HX.out; have h2_ := HL.out; unfold wrap64; omega⟩, by omega, by omega, H, ⟨(by (with_reducible repeat (first | apply Kd.R_alloc | apply Kd.R_drewN | apply Kd.R_drew)); exact HU.out)⟩, ⟨(by (with_reducible repeat (first | refine blk_drewN ?_ _ | refine blk_drew ?_ | refine blk_alloc ?_ _)); exact BKL.out)⟩, ⟨(by (with_reducible repeat (first | refine blk_drewN ?_ _ | refine blk_drew ?_ | refine blk_alloc ?_ _)); exact BKO.out)⟩, ⟨(by repeat (first | (with_reducible first | exact HB.out | apply below_alloc | apply pw_below_drewN | apply below_drew1 | refine below_set ?_ HGO.out) | exact HB.out))⟩⟩
    · have q10 : ¬ x10 < (l.length : Int) := by have := HX.out; omega
      have q10b : decide (x10 < (l.length : Int)) = false := decide_eq_false q10
      have h := H.out
      rw [show l.length - i = 0 by omega, impl_MovesOn.g] at h
      obtain rfl := Option.some.inj h
      clear h H
      go_wp2
      first
      | go_end0
      | refine bodyPost_ret (results_none rfl _ _ _) rfl ?_
      exact ⟨rfl, (by (with_reducible repeat (first | refine blk_drewN ?_ _ | refine blk_drew ?_ | refine blk_alloc ?_ _)); exact BKL.out), u, (by (with_reducible repeat (first | refine blk_drewN ?_ _ | refine blk_drew ?_ | refine blk_alloc ?_ _)); exact BKO.out), (by (with_reducible repeat (first | apply Kd.R_alloc | apply Kd.R_drewN | apply Kd.R_drew)); exact HU.out), (by repeat (first | (with_reducible first | exact HB.out | apply below_alloc | apply pw_below_drewN | apply below_drew1 | refine below_set ?_ HGO.out) | exact HB.out))⟩
set_option maxHeartbeats 8000000 in
set_option maxRecDepth 100000 in
theorem impl_MovesOn.calls_impl_canDrop (s : ByteArray) (a0 : Int) (A : Option Addr) (c0 : Nat) (l : List Int) (gl go_ : Nat) (u0 : Value) (acc0 res : List ByteArray) (w0 w : World) (hr : Kd.C (Kd.int .i64) w0 A l.length l) (hc : l.length ≤ c0) (hl : l.length ≤ 1000) (hB : Below w0.heap.size w0 w)
    (hbl : w.heap[gl]? = some (.cells #[.int .i64 a0, .slice A l.length c0] 28 (0, 0))) (hbo : w.heap[go_]? = some (.cells #[u0] 32 (0, 0))) (hgo : w0.heap.size ≤ go_) (hu : Kd.R Kd.string 9 w w0.heap.size (fun _ => True) u0 acc0) (h : impl_MovesOn.g impl_canDrop.f s a0 l l.length 0 acc0 = some res) :
    Calls Tryd.prog 31 #[.string s, .func (.func 35) #[] #[], .pointer (some ⟨gl, 0, none⟩), .pointer (some ⟨go_, 0, none⟩)] w fun e w' => e = .returned (.tuple #[]) ∧ ∃ u' : Value, w'.heap[gl]? = some (.cells #[.int .i64 a0, .slice A l.length c0] 28 (0, 0)) ∧ w'.heap[go_]? = some (.cells #[u'] 32 (0, 0)) ∧ Kd.R Kd.string 9 w' w0.heap.size (fun _ => True) u' res ∧ Below w0.heap.size w0 w' := by
  have hu28 := Tryd.underlying28
  have hu32 := Tryd.underlying32
  have HR := Aside0.mk hr
  have HC := Aside0.mk hc
  have HL := Aside0.mk hl
  have HB := Aside0.mk hB
  have BKL := Aside0.mk hbl
  have BKO := Aside0.mk hbo
  have HGO := Aside0.mk hgo
  have HU := Aside0.mk hu
  have H := Aside0.mk h
  clear hr hc hl hB hgo hu h
  have hcl0 : w.cell? ⟨gl, 0, none⟩ = some (.int .i64 a0) := blk_cell BKL.out 0
  have hcl1 : w.cell? ⟨gl, 1, none⟩ = some (.slice A l.length c0) := blk_cell BKL.out 1
  clear hbl hbo
  go_enter Tryd.func31, Tryd.ntmps31
  go_wp2
  clear hcl0 hcl1
  go_loopg [10] l.length (fun gg v10 w' => ∃ (i : Nat) (x10 : Int) (acc : List ByteArray) (u : Value), v10 = .int .i64 x10 ∧ Aside0 (x10 = (i : Int)) ∧ i ≤ l.length ∧ l.length - i ≤ gg ∧ Aside0 (impl_MovesOn.g impl_canDrop.f s a0 l (l.length - i) i acc = some res) ∧ Aside0 (Kd.R Kd.string 9 w' w0.heap.size (fun _ => True) u acc) ∧ Aside0 (w'.heap[gl]? = some (.cells #[.int .i64 a0, .slice A l.length c0] 28 (0, 0))) ∧ Aside0 (w'.heap[go_]? = some (.cells #[u] 32 (0, 0))) ∧ Aside0 (Below w0.heap.size w0 w'))
  case atStart => exact ⟨0, 0, acc0, u0, rfl, ⟨rfl⟩, Nat.zero_le _, by omega, ⟨H.out⟩, ⟨(by (with_reducible repeat (first | apply Kd.R_alloc | apply Kd.R_drewN | apply Kd.R_drew)); exact HU.out)⟩, ⟨(by (with_reducible repeat (first | refine blk_drewN ?_ _ | refine blk_drew ?_ | refine blk_alloc ?_ _)); exact BKL.out)⟩, ⟨(by (with_reducible repeat (first | refine blk_drewN ?_ _ | refine blk_drew ?_ | refine blk_alloc ?_ _)); exact BKO.out)⟩, ⟨(by repeat (first | (with_reducible first | exact HB.out | apply below_alloc | apply pw_below_drewN | apply below_drew1 | refine below_set ?_ HGO.out) | exact HB.out))⟩⟩
  case round =>
    clear HU BKL BKO HB H
    obtain ⟨i, x10, acc, u, rfl, HX, hi, hgk, H, HU, BKL, BKO, HB⟩ := hrel
    have hcl0 : wr.cell? ⟨gl, 0, none⟩ = some (.int .i64 a0) := blk_cell BKL.out 0
    have hcl1 : wr.cell? ⟨gl, 1, none⟩ = some (.slice A l.length c0) := blk_cell BKL.out 1
    have hco0 : wr.cell? ⟨go_, 0, none⟩ = some u := blk_cell BKO.out 0
    by_cases hlt : i < l.length
    · have q10 : x10 < (l.length : Int) := by have := HX.out; omega
      have q10b : decide (x10 < (l.length : Int)) = true := decide_eq_true q10
      have h := H.out
      clear H
      rw [show l.length - i = (l.length - (i + 1)) + 1 by omega, impl_MovesOn.g, ← HX.out] at h
      obtain ⟨b, hb, h⟩ := Option.bind_eq_some_iff.1 h
      have HCB := Aside0.mk hb
      clear hb
      cases b with
      | true =>
        rw [if_pos rfl] at h
        obtain ⟨t, ht, h⟩ := Option.bind_eq_some_iff.1 h
        split at h
        · rename_i hs
          split at h
          · rename_i h1000
            obtain ⟨y, hy⟩ : ∃ y, y = acc ++ [s ++ t] := ⟨_, rfl⟩
            rw [← hy] at h
            have Ny := Aside0.mk hy
            clear hy
            have H := Aside0.mk h
            have HT := Aside0.mk ht
            have hs0 := eq_true hs
            have hs1 : decide (s.size + t.size ≤ 9223372036854775807) = true := decide_eq_true hs
            have hs2 : (9223372036854775807 < s.size + t.size) = False := eq_false (Nat.not_lt.2 hs)
            have H1000 := Aside0.mk h1000
            clear h ht hs h1000 q10
            go_wp2_with (go_at_call 35; (refine (impl_canDrop.calls a0 A c0 l x10 true _ ?side1 HC.out HCB.out).mono ?_); (case side1 => repeat (first | exact (Kd.C_below HR.out HB.out) | (with_reducible refine Kd.C_alloc ?_ _) | (with_reducible refine Kd.C_drewN ?_ _) | (with_reducible refine Kd.C_drew ?_))); rintro e w1 ⟨rfl, hb⟩; have n0_ := Aside0.mk (Kd.R_below (by (with_reducible repeat (first | apply Kd.R_alloc | apply Kd.R_drewN | apply Kd.R_drew)); exact HU.out) hb); have n1_ := Aside0.mk (blk_below (g := gl) (o := .cells #[.int .i64 a0, .slice A l.length c0] 28 (0, 0)) (by (with_reducible repeat (first | refine blk_drewN ?_ _ | refine blk_drew ?_ | refine blk_alloc ?_ _)); exact BKL.out) hb); have n2_ := Aside0.mk (blk_below (g := go_) (o := .cells #[u] 32 (0, 0)) (by (with_reducible repeat (first | refine blk_drewN ?_ _ | refine blk_drew ?_ | refine blk_alloc ?_ _)); exact BKO.out) hb); have n3_ := Aside0.mk (below_step (by repeat (first | (with_reducible first | exact HB.out | apply below_alloc | apply pw_below_drewN | apply below_drew1 | refine below_set ?_ HGO.out) | exact HB.out)) hb); clear HU BKL BKO HB hcl0 hcl1 hco0; have HU := n0_; have BKL := n1_; have BKO := n2_; have HB := n3_; clear n0_ n1_ n2_ n3_ hb; have hco0 : w1.cell? ⟨go_, 0, none⟩ = some u := blk_cell BKO.out 0; have hfo := blk_frozen BKO.out 0)
            clear hco0 hfo
            have n0_ := Aside0.mk (Kd.R_drew HU.out)
            have n1_ := Aside0.mk (blk_drew BKL.out)
            have n2_ := Aside0.mk (blk_drew BKO.out)
            have n3_ := Aside0.mk (below_drew1 HB.out)
            clear HU BKL BKO HB
            have HU := n0_
            have BKL := n1_
            have BKO := n2_
            have HB := n3_
            clear n0_ n1_ n2_ n3_
            refine start_ (n := 8) (S := fun w' => w'.cell? ⟨go_, 0, none⟩ = some u) (ds := [6, 7]) #[false, false, false, false, false, false, false, false] (by kernel_rfl) rfl rfl (blk_cell BKO.out 0) (fun hHeld => ?_); refine with_tabW impl_MovesOn.tab4 impl_MovesOn.bits4 (fun HT_ HW_ => ?_)
            generalize w1.drew = w2 at HU BKL BKO HB hHeld ⊢
            refine pure_ (i := 1) (N := some 18) (v := ?_) (a' := ?_) #[false, true, false, false, false, false, false, false] rfl rfl (any_of HT_.out (by kernel_rfl)) (fun _ _ _ h => h) (Or.inl ⟨by rfl, ?_⟩) ?_ ?_
            rotate_left
            · intro w'
              go_simp
              with_reducible rfl
            rotate_left
            · simp only [Act.put, List.setIfInBounds_toArray, List.set_cons_zero, List.set_cons_succ, i64_w, i32_w]
              rfl
            refine pure_ (i := 2) (N := some 19) (v := ?_) (a' := ?_) #[false, true, true, false, false, false, false, false] rfl rfl (any_of HT_.out (by kernel_rfl)) (fun _ _ _ h => h) (Or.inl ⟨by rfl, ?_⟩) ?_ ?_
            rotate_left
            · intro w'
              go_simp
              with_reducible rfl
            rotate_left
            · simp only [Act.put, List.setIfInBounds_toArray, List.set_cons_zero, List.set_cons_succ, i64_w, i32_w]
              rfl
            refine take_ (i := 0) (N := some 17) (v := ?_) (a' := ?_) #[true, true, true, false, false, false, false, false] rfl rfl (take_ofW HT_.out HW_.out (by kernel_rfl)) (fun _ _ _ h => h) (Or.inl ⟨by rfl, ?_⟩) hHeld ?_ ?_
            rotate_left
            · rintro w' s0
              go_simp
              with_reducible rfl
            rotate_left
            · simp only [Act.put, List.setIfInBounds_toArray, List.set_cons_zero, List.set_cons_succ, i64_w, i32_w]
              rfl
            refine one_ (i := 3) (N := some 20) #[true, true, true, true, false, false, false, false] rfl rfl (one_of HT_.out (by kernel_rfl)) (by decide) (fun K hK => ?_)
            refine goes_ Tryd.func32 (by kernel_rfl) rfl #[.int .i64 x10] (by rfl) rfl rfl (by (try simp only [List.map_toArray, List.map_cons, List.map_nil]); first | done | rfl) ?_
            refine (impl_MovesOn.itoa.calls x10 t _ HT.out).mono ?_
            rintro e w3 ⟨rfl, hb⟩
            refine ⟨_, rfl, ?_⟩
            have n0_ := Aside0.mk (Kd.R_below (by (with_reducible repeat (first | apply Kd.R_alloc | apply Kd.R_drewN | apply Kd.R_drew)); exact HU.out) hb)
            have n1_ := Aside0.mk (blk_below (g := gl) (o := .cells #[.int .i64 a0, .slice A l.length c0] 28 (0, 0)) (by (with_reducible repeat (first | refine blk_drewN ?_ _ | refine blk_drew ?_ | refine blk_alloc ?_ _)); exact BKL.out) hb)
            have n2_ := Aside0.mk (blk_below (g := go_) (o := .cells #[u] 32 (0, 0)) (by (with_reducible repeat (first | refine blk_drewN ?_ _ | refine blk_drew ?_ | refine blk_alloc ?_ _)); exact BKO.out) hb)
            have n3_ := Aside0.mk (below_step (by repeat (first | (with_reducible first | exact HB.out | apply below_alloc | apply pw_below_drewN | apply below_drew1 | refine below_set ?_ HGO.out) | exact HB.out)) hb)
            clear HU BKL BKO HB hb hHeld
            have HU := n0_
            have BKL := n1_
            have BKO := n2_
            have HB := n3_
            clear n0_ n1_ n2_ n3_
            refine hK.out _ _ (blk_cell BKO.out 0) (fun hHeld => ?_)
            clear hK K
            refine norm_ (a' := ?_) ?_ ?_
            rotate_left
            · show Act.put _ (some 20) _ = _
              simp only [Act.put, List.setIfInBounds_toArray, List.set_cons_zero, List.set_cons_succ, i64_w, i32_w]
              rfl
            refine pure_ (i := 4) (N := some 21) (v := ?_) (a' := ?_) #[true, true, true, true, true, false, false, false] rfl rfl (any_of HT_.out (by kernel_rfl)) (fun _ _ _ h => h) (Or.inl ⟨by rfl, ?_⟩) ?_ ?_
            rotate_left
            · intro w'
              go_simp
              with_reducible rfl
            rotate_left
            · simp only [Act.put, List.setIfInBounds_toArray, List.set_cons_zero, List.set_cons_succ, i64_w, i32_w]
              rfl
            refine one_ (i := 5) (N := some 22) #[true, true, true, true, true, true, false, false] rfl rfl (one_of HT_.out (by kernel_rfl)) (by decide) (fun K hK => ?_)
            refine value_ (w1 := ?_) (v := ?_) (by rfl) rfl ?_ ?_
            rotate_left 2
            · go_simp
              constructor
              · rfl
              · rfl
            refine hK.out _ _ ((blk_cell (blk_alloc BKO.out _) 0).trans rfl) (fun hHeld => ?_)
            clear hK K
            refine norm_ (a' := ?_) ?_ ?_
            rotate_left
            · show Act.put _ (some 22) _ = _
              simp only [Act.put, List.setIfInBounds_toArray, List.set_cons_zero, List.set_cons_succ, i64_w, i32_w]
              rfl
            refine last_ (i := 6) (N := some 23) #[true, true, true, true, true, true, true, false] rfl rfl (one_of HT_.out (by kernel_rfl)) (by decide) (fun K hK => ?_)
            refine Kd.R_append_step Kd.string (w0 := w0) w0.heap.size (by rfl) (.tmp 17) (.tmp 22) 32 9 (.string ⟨#[]⟩) 16 rfl Tryd.underlying32 info9 rfl (by decide) (by omega) u acc (s ++ t) [.string (s ++ t)] (fun _ => True) (fun _ => False) rfl rfl ?aP (fun _ hk => hk.elim) ?aF ?aO ?aB ?aS ?aL ?_
            (case aP => exact rfl)
            (case aB => exact (by repeat (first | (with_reducible first | exact HB.out | apply below_alloc | apply pw_below_drewN | apply below_drew1 | refine below_set ?_ HGO.out) | exact HB.out)))
            (case aF => exact (fun _ _ => trivial))
            (case aO => exact (by (with_reducible repeat (first | apply Kd.R_alloc | apply Kd.R_drewN | apply Kd.R_drew)); exact HU.out))
            (case aS => exact (below_size (by repeat (first | (with_reducible first | exact HB.out | apply below_alloc | apply pw_below_drewN | apply below_drew1 | refine below_set ?_ HGO.out) | exact HB.out))))
            (case aL => have := H1000.out; omega)
            intro v3 w4 ho hb hg hat
            rw [← Ny.out] at ho
            have n0_ := Aside0.mk ho
            have n1_ := Aside0.mk (blk_grown (g := gl) (o := .cells #[.int .i64 a0, .slice A l.length c0] 28 (0, 0)) (by (with_reducible repeat (first | refine blk_drewN ?_ _ | refine blk_drew ?_ | refine blk_alloc ?_ _)); exact BKL.out) hg (Kd.R_ne HU.out BKL.out (by decide)))
            have n2_ := Aside0.mk (blk_grown (g := go_) (o := .cells #[u] 32 (0, 0)) (by (with_reducible repeat (first | refine blk_drewN ?_ _ | refine blk_drew ?_ | refine blk_alloc ?_ _)); exact BKO.out) hg (Kd.R_ne HU.out BKO.out (by decide)))
            have n3_ := Aside0.mk hb
            clear HU BKL BKO HB ho hb hg hat hHeld
            have HU := n0_
            have BKL := n1_
            have BKO := n2_
            have HB := n3_
            clear n0_ n1_ n2_ n3_
            obtain ⟨Ao, co, eo⟩ := Kd.R_slice HU.out
            subst eo
            refine hK.out _ _ ?_
            clear hK K
            refine norm_ (a' := ?_) ?_ ?_
            rotate_left
            · show Act.put _ (some 23) _ = _
              simp only [Act.put, List.setIfInBounds_toArray, List.set_cons_zero, List.set_cons_succ, i64_w, i32_w]
              rfl
            refine last_ (i := 7) (N := none) #[true, true, true, true, true, true, true, true] rfl rfl (one_of HT_.out (by kernel_rfl)) (by decide) (fun K hK => ?_)
            have hs17 : w4.cell? ⟨go_, 0, none⟩ = some u := blk_cell BKO.out 0
            have hfs17 := blk_frozen BKO.out 0
            refine skip_ (w1 := ?_) (by rfl) rfl ?_ ?_
            rotate_left
            · go_simp
              rfl
            refine hK.out _ _ ?_
            clear hK K
            refine done_ (done_of HT_.out (by kernel_rfl)) ?_
            try go_wp2
            go_roundg (l.length - (i + 1))
            case measure => omega
            case rel => exact ⟨i + 1, wrap64 (x10 + 1), y, _, (by first | rfl | (simp; done)), ⟨by have h1_ := HX.out; have h2_ := HL.out; unfold wrap64; omega⟩, by omega, by omega, H, ⟨by (with_reducible repeat (first | apply Kd.R_alloc | apply Kd.R_drewN | apply Kd.R_drew)); exact Kd.R_mono (Kd.R_far (p := ⟨go_, 0, none⟩) (Kd.R_types HU.out BKO.out (by decide)) (fun _ hk => hk.2) _) (fun _ _ => trivial)⟩, ⟨by (with_reducible repeat (first | refine blk_drewN ?_ _ | refine blk_drew ?_ | refine blk_alloc ?_ _)); refine blk_far ?_ (blk_ne BKL.out BKO.out (by decide)) _; (with_reducible repeat (first | refine blk_drewN ?_ _ | refine blk_drew ?_ | refine blk_alloc ?_ _)); exact BKL.out⟩, ⟨by (with_reducible repeat (first | refine blk_drewN ?_ _ | refine blk_drew ?_ | refine blk_alloc ?_ _)); refine blk_put (cs := #[u]) ?_ 0 _ rfl; (with_reducible repeat (first | refine blk_drewN ?_ _ | refine blk_drew ?_ | refine blk_alloc ?_ _)); exact BKO.out⟩, ⟨(by repeat (first | (with_reducible first | exact HB.out | apply below_alloc | apply pw_below_drewN | apply below_drew1 | refine below_set ?_ HGO.out) | exact HB.out))⟩⟩
          · cases h
        · cases h
      | false =>
        rw [if_neg (by decide)] at h
        have H := Aside0.mk h
        clear h q10
        go_wp2_with (go_at_call 35; (refine (impl_canDrop.calls a0 A c0 l x10 false _ ?side1 HC.out HCB.out).mono ?_); (case side1 => repeat (first | exact (Kd.C_below HR.out HB.out) | (with_reducible refine Kd.C_alloc ?_ _) | (with_reducible refine Kd.C_drewN ?_ _) | (with_reducible refine Kd.C_drew ?_))); rintro e w1 ⟨rfl, hb⟩; have n0_ := Aside0.mk (Kd.R_below (by (with_reducible repeat (first | apply Kd.R_alloc | apply Kd.R_drewN | apply Kd.R_drew)); exact HU.out) hb); have n1_ := Aside0.mk (blk_below (g := gl) (o := .cells #[.int .i64 a0, .slice A l.length c0] 28 (0, 0)) (by (with_reducible repeat (first | refine blk_drewN ?_ _ | refine blk_drew ?_ | refine blk_alloc ?_ _)); exact BKL.out) hb); have n2_ := Aside0.mk (blk_below (g := go_) (o := .cells #[u] 32 (0, 0)) (by (with_reducible repeat (first | refine blk_drewN ?_ _ | refine blk_drew ?_ | refine blk_alloc ?_ _)); exact BKO.out) hb); have n3_ := Aside0.mk (below_step (by repeat (first | (with_reducible first | exact HB.out | apply below_alloc | apply pw_below_drewN | apply below_drew1 | refine below_set ?_ HGO.out) | exact HB.out)) hb); clear HU BKL BKO HB hcl0 hcl1 hco0; have HU := n0_; have BKL := n1_; have BKO := n2_; have HB := n3_; clear n0_ n1_ n2_ n3_ hb; have hco0 : w1.cell? ⟨go_, 0, none⟩ = some u := blk_cell BKO.out 0; have hfo := blk_frozen BKO.out 0)
        go_roundg (l.length - (i + 1))
        case measure => omega
        case rel => exact ⟨i + 1, wrap64 (x10 + 1), acc, u, (by first | rfl | (simp; done)), ⟨by have h1_ := HX.out; have h2_ := HL.out; unfold wrap64; omega⟩, by omega, by omega, H, ⟨(by (with_reducible repeat (first | apply Kd.R_alloc | apply Kd.R_drewN | apply Kd.R_drew)); exact HU.out)⟩, ⟨(by (with_reducible repeat (first | refine blk_drewN ?_ _ | refine blk_drew ?_ | refine blk_alloc ?_ _)); exact BKL.out)⟩, ⟨(by (with_reducible repeat (first | refine blk_drewN ?_ _ | refine blk_drew ?_ | refine blk_alloc ?_ _)); exact BKO.out)⟩, ⟨(by repeat (first | (with_reducible first | exact HB.out | apply below_alloc | apply pw_below_drewN | apply below_drew1 | refine below_set ?_ HGO.out) | exact HB.out))⟩⟩
    · have q10 : ¬ x10 < (l.length : Int) := by have := HX.out; omega
      have q10b : decide (x10 < (l.length : Int)) = false := decide_eq_false q10
      have h := H.out
      rw [show l.length - i = 0 by omega, impl_MovesOn.g] at h
      obtain rfl := Option.some.inj h
      clear h H
      go_wp2
      first
      | go_end0
      | refine bodyPost_ret (results_none rfl _ _ _) rfl ?_
      exact ⟨rfl, (by (with_reducible repeat (first | refine blk_drewN ?_ _ | refine blk_drew ?_ | refine blk_alloc ?_ _)); exact BKL.out), u, (by (with_reducible repeat (first | refine blk_drewN ?_ _ | refine blk_drew ?_ | refine blk_alloc ?_ _)); exact BKO.out), (by (with_reducible repeat (first | apply Kd.R_alloc | apply Kd.R_drewN | apply Kd.R_drew)); exact HU.out), (by repeat (first | (with_reducible first | exact HB.out | apply below_alloc | apply pw_below_drewN | apply below_drew1 | refine below_set ?_ HGO.out) | exact HB.out))⟩
def impl_MovesOn.f (a0 : Int) (l : List Int) : Option (List ByteArray × Bool) := (impl_isLadder.f a0 l).bind fun t => if t = true then (if l.length ≤ 1000 then (impl_MovesOn.g impl_canSlide.f ⟨#[115]⟩ a0 l l.length 0 []).bind fun r1 => (impl_MovesOn.g impl_canFlip.f ⟨#[102]⟩ a0 l l.length 0 r1).bind fun r2 => (impl_MovesOn.g impl_canDrop.f ⟨#[100]⟩ a0 l l.length 0 r2).bind fun r3 => some (r3, true) else none) else some ([], false)
set_option maxHeartbeats 8000000 in
set_option maxRecDepth 100000 in
theorem impl_MovesOn.calls (a0 : Int) (A : Option Addr) (c0 : Nat) (l : List Int) (q1 : List ByteArray) (q2 : Bool) (w : World) (hr : Kd.C (Kd.int .i64) w A l.length l) (hc : l.length ≤ c0) (h : impl_MovesOn.f a0 l = some (q1, q2)) :
    Calls Tryd.prog 13 #[.agg #[.int .i64 a0, .slice A l.length c0]] w fun e w' => ∃ v1_ : Value, e = .returned (.tuple #[v1_, .bool q2]) ∧ Kd.R Kd.string 9 w' w.heap.size (fun _ => True) v1_ q1 ∧ Below w.heap.size w w' := by
  have hu28 := Tryd.underlying28
  have hu32 := Tryd.underlying32
  have HR := Aside0.mk hr
  have HC := Aside0.mk hc
  clear hr hc
  unfold impl_MovesOn.f at h
  obtain ⟨t, ht, h⟩ := Option.bind_eq_some_iff.1 h
  have HT := Aside0.mk ht
  clear ht
  have HGOX := Aside0.mk (Nat.le_refl w.heap.size)
  cases t with
  | false =>
    rw [if_neg (by decide)] at h
    simp only [Option.some.injEq, Prod.mk.injEq] at h
    obtain ⟨rfl, rfl⟩ := h
    go_enter Tryd.func13, Tryd.ntmps13
    go_wp2_with (first | ((with_reducible refine gate_dst (N := 1) rfl ?_); refine box_event ?hg (N := 1) ?hd (cs := #[.int .i64 a0, .slice A l.length c0]) (t := 28) ?hr ?_; (case hd => rfl); (case hg => rfl); (case hr => first | (go_simp; done) | (go_simp; rfl)); intro gl hg w1 hbox hb; have BKL := Aside0.mk hbox; have HB := Aside0.mk hb; have HGL := Aside0.mk (show w.heap.size ≤ gl from Nat.le_of_eq hg.symm); have hcl0 : w1.cell? ⟨gl, 0, none⟩ = some (.int .i64 a0) := blk_cell BKL.out 0; have hcl1 : w1.cell? ⟨gl, 1, none⟩ = some (.slice A l.length c0) := blk_cell BKL.out 1; clear hbox hb hg) | (go_at_call 27; (with_reducible refine (impl_isLadder.calls a0 A c0 l false _ ?side1 HC.out HT.out).mono ?_); (case side1 => repeat (first | exact (Kd.C_below HR.out HB.out) | (with_reducible refine Kd.C_alloc ?_ _) | (with_reducible refine Kd.C_drewN ?_ _) | (with_reducible refine Kd.C_drew ?_))); rintro e w1b ⟨rfl, hb⟩; have n0_ := Aside0.mk (blk_below (g := gl) (o := .cells #[.int .i64 a0, .slice A l.length c0] 28 (0, 0)) (by (with_reducible repeat (first | refine blk_drewN ?_ _ | refine blk_drew ?_ | refine blk_alloc ?_ _)); exact BKL.out) hb); have n1_ := Aside0.mk (below_step (by repeat (first | (with_reducible first | exact HB.out | apply below_alloc | apply pw_below_drewN | apply below_drew1) | exact HB.out)) hb); clear BKL HB hb hcl0 hcl1; have BKL := n0_; have HB := n1_; clear n0_ n1_))
    go_ret2
    exact ⟨_, by first | rfl | (simp; done), Kd.R_nil _ _ _ _ _, (by repeat (first | (with_reducible first | exact HB.out | apply below_alloc | apply pw_below_drewN | apply below_drew1) | exact HB.out))⟩
  | true =>
    rw [if_pos rfl] at h
    split at h
    · rename_i hl
      obtain ⟨r1, h1, h⟩ := Option.bind_eq_some_iff.1 h
      obtain ⟨r2, h2, h⟩ := Option.bind_eq_some_iff.1 h
      obtain ⟨r3, h3, h⟩ := Option.bind_eq_some_iff.1 h
      simp only [Option.some.injEq, Prod.mk.injEq] at h
      obtain ⟨rfl, rfl⟩ := h
      have HL := Aside0.mk hl
      have H1 := Aside0.mk h1
      have H2 := Aside0.mk h2
      have H3 := Aside0.mk h3
      clear hl h1 h2 h3
      go_enter Tryd.func13, Tryd.ntmps13
      go_wp2_with (first | ((with_reducible refine gate_dst (N := 1) rfl ?_); refine box_event ?hg (N := 1) ?hd (cs := #[.int .i64 a0, .slice A l.length c0]) (t := 28) ?hr ?_; (case hd => rfl); (case hg => rfl); (case hr => first | (go_simp; done) | (go_simp; rfl)); intro gl hg w1 hbox hb; have BKL := Aside0.mk hbox; have HB := Aside0.mk hb; have HGL := Aside0.mk (show w.heap.size ≤ gl from Nat.le_of_eq hg.symm); have hcl0 : w1.cell? ⟨gl, 0, none⟩ = some (.int .i64 a0) := blk_cell BKL.out 0; have hcl1 : w1.cell? ⟨gl, 1, none⟩ = some (.slice A l.length c0) := blk_cell BKL.out 1; clear hbox hb hg) | (go_at_call 27; (with_reducible refine (impl_isLadder.calls a0 A c0 l true _ ?side1 HC.out HT.out).mono ?_); (case side1 => repeat (first | exact (Kd.C_below HR.out HB.out) | (with_reducible refine Kd.C_alloc ?_ _) | (with_reducible refine Kd.C_drewN ?_ _) | (with_reducible refine Kd.C_drew ?_))); rintro e w1b ⟨rfl, hb⟩; have n0_ := Aside0.mk (blk_below (g := gl) (o := .cells #[.int .i64 a0, .slice A l.length c0] 28 (0, 0)) (by (with_reducible repeat (first | refine blk_drewN ?_ _ | refine blk_drew ?_ | refine blk_alloc ?_ _)); exact BKL.out) hb); have n1_ := Aside0.mk (below_step (by repeat (first | (with_reducible first | exact HB.out | apply below_alloc | apply pw_below_drewN | apply below_drew1) | exact HB.out)) hb); clear BKL HB hb hcl0 hcl1; have BKL := n0_; have HB := n1_; clear n0_ n1_) | ((with_reducible refine gate_dst (N := 9) rfl ?_); refine Kd.R_lit Kd.string _ 9 ?hg (N := 9) ?hd (xs := ([] : List ByteArray)) (inner := []) (ok := fun _ => True) (okp := fun _ => True) ?hr ?hp (fun _ hk => hk) trivial (Below.refl _ _) (Nat.le_refl _) (by simp) ?_; (case hd => rfl); (case hg => rfl); (case hr => first | (go_simp; done) | (go_simp; rfl)); (case hp => exact (Reps.none _ _)); intro v9 w2 ho2 hb hg_ hnew_; clear hg_ hnew_; have n0_ := Aside0.mk (Kd.R_lower ho2 (below_size (by repeat (first | (with_reducible first | exact HB.out | apply below_alloc | apply pw_below_drewN | apply below_drew1) | exact HB.out)))); have n1_ := Aside0.mk (blk_below (g := gl) (o := .cells #[.int .i64 a0, .slice A l.length c0] 28 (0, 0)) (by (with_reducible repeat (first | refine blk_drewN ?_ _ | refine blk_drew ?_ | refine blk_alloc ?_ _)); exact BKL.out) hb); have n2_ := Aside0.mk (below_step (by repeat (first | (with_reducible first | exact HB.out | apply below_alloc | apply pw_below_drewN | apply below_drew1) | exact HB.out)) hb); clear BKL HB ho2 hb; have HU := n0_; have BKL := n1_; have HB := n2_; clear n0_ n1_ n2_; obtain ⟨Ao, co, eo⟩ := Kd.R_slice HU.out; subst eo) | ((with_reducible refine gate_dst (N := 4) rfl ?_); refine box_event ?hg (N := 4) ?hd (cs := #[.slice none 0 0]) (t := 32) ?hr ?_; (case hd => rfl); (case hg => rfl); (case hr => first | (go_simp; done) | (go_simp; rfl)); intro go_ hg w3 hbox hb; have n0_ := Aside0.mk (Kd.R_below (by (with_reducible repeat (first | apply Kd.R_alloc | apply Kd.R_drewN | apply Kd.R_drew)); exact HU.out) hb); have n1_ := Aside0.mk (blk_below (g := gl) (o := .cells #[.int .i64 a0, .slice A l.length c0] 28 (0, 0)) (by (with_reducible repeat (first | refine blk_drewN ?_ _ | refine blk_drew ?_ | refine blk_alloc ?_ _)); exact BKL.out) hb); have n2_ := Aside0.mk (below_step (by repeat (first | (with_reducible first | exact HB.out | apply below_alloc | apply pw_below_drewN | apply below_drew1) | exact HB.out)) hb); have BKO := Aside0.mk hbox; have HGO := Aside0.mk (show w.heap.size ≤ go_ from by rw [hg]; exact below_size (by repeat (first | (with_reducible first | exact HB.out | apply below_alloc | apply pw_below_drewN | apply below_drew1) | exact HB.out))); have HNE := Aside0.mk (show gl ≠ go_ from by rw [hg]; exact Nat.ne_of_lt (blk_lt (g := gl) (o := .cells #[.int .i64 a0, .slice A l.length c0] 28 (0, 0)) (by (with_reducible repeat (first | refine blk_drewN ?_ _ | refine blk_drew ?_ | refine blk_alloc ?_ _)); exact BKL.out))); clear BKL HB HU hbox hb hg; have HU := n0_; have BKL := n1_; have HB := n2_; clear n0_ n1_ n2_; have hcz0 : w3.cell? ⟨go_, 0, none⟩ = some (.slice none 0 0) := blk_cell BKO.out 0; have hfz0 := blk_frozen BKO.out 0) | (go_at_call 31; (with_reducible refine (impl_MovesOn.calls_impl_canSlide ⟨#[115]⟩ a0 A c0 l gl go_ (.slice Ao ([] : List ByteArray).length co) [] r1 w _ HR.out HC.out HL.out ?sB ?sL ?sO HGO.out ?sU H1.out).mono ?_); (case sL => exact (by (with_reducible repeat (first | refine blk_drewN ?_ _ | refine blk_drew ?_ | refine blk_alloc ?_ _)); refine blk_far ?_ HNE.out _; (with_reducible repeat (first | refine blk_drewN ?_ _ | refine blk_drew ?_ | refine blk_alloc ?_ _)); exact BKL.out)); (case sO => exact (by (with_reducible repeat (first | refine blk_drewN ?_ _ | refine blk_drew ?_ | refine blk_alloc ?_ _)); refine blk_put (cs := #[.slice none 0 0]) ?_ 0 _ rfl; (with_reducible repeat (first | refine blk_drewN ?_ _ | refine blk_drew ?_ | refine blk_alloc ?_ _)); exact BKO.out)); (case sU => exact (by (with_reducible repeat (first | apply Kd.R_alloc | apply Kd.R_drewN | apply Kd.R_drew)); exact Kd.R_mono (Kd.R_far (p := ⟨go_, 0, none⟩) (Kd.R_types HU.out BKO.out (by decide)) (fun _ hk => hk.2) _) (fun _ _ => trivial))); (case sB => exact (by repeat (first | (with_reducible first | exact HB.out | apply below_alloc | apply pw_below_drewN | apply below_drew1 | refine below_set ?_ HGO.out) | exact HB.out))); rintro e w4 ⟨rfl, u1, hl_, ho_, hu_, hb_⟩; clear BKL BKO HU HB H1 hcz0 hfz0; have BKL := Aside0.mk hl_; have BKO := Aside0.mk ho_; have HU := Aside0.mk hu_; have HB := Aside0.mk hb_; clear hl_ ho_ hu_ hb_) | (go_at_call 31; (with_reducible refine (impl_MovesOn.calls_impl_canFlip ⟨#[102]⟩ a0 A c0 l gl go_ u1 r1 r2 w _ HR.out HC.out HL.out ?sB ?sL ?sO HGO.out ?sU H2.out).mono ?_); (case sL => exact (by (with_reducible repeat (first | refine blk_drewN ?_ _ | refine blk_drew ?_ | refine blk_alloc ?_ _)); exact BKL.out)); (case sO => exact (by (with_reducible repeat (first | refine blk_drewN ?_ _ | refine blk_drew ?_ | refine blk_alloc ?_ _)); exact BKO.out)); (case sU => exact (by (with_reducible repeat (first | apply Kd.R_alloc | apply Kd.R_drewN | apply Kd.R_drew)); exact HU.out)); (case sB => exact (by repeat (first | (with_reducible first | exact HB.out | apply below_alloc | apply pw_below_drewN | apply below_drew1 | refine below_set ?_ HGO.out) | exact HB.out))); rintro e w5 ⟨rfl, u2, hl_, ho_, hu_, hb_⟩; clear BKL BKO HU HB H2; have BKL := Aside0.mk hl_; have BKO := Aside0.mk ho_; have HU := Aside0.mk hu_; have HB := Aside0.mk hb_; clear hl_ ho_ hu_ hb_) | (go_at_call 31; (with_reducible refine (impl_MovesOn.calls_impl_canDrop ⟨#[100]⟩ a0 A c0 l gl go_ u2 r2 r3 w _ HR.out HC.out HL.out ?sB ?sL ?sO HGO.out ?sU H3.out).mono ?_); (case sL => exact (by (with_reducible repeat (first | refine blk_drewN ?_ _ | refine blk_drew ?_ | refine blk_alloc ?_ _)); exact BKL.out)); (case sO => exact (by (with_reducible repeat (first | refine blk_drewN ?_ _ | refine blk_drew ?_ | refine blk_alloc ?_ _)); exact BKO.out)); (case sU => exact (by (with_reducible repeat (first | apply Kd.R_alloc | apply Kd.R_drewN | apply Kd.R_drew)); exact HU.out)); (case sB => exact (by repeat (first | (with_reducible first | exact HB.out | apply below_alloc | apply pw_below_drewN | apply below_drew1 | refine below_set ?_ HGO.out) | exact HB.out))); rintro e w6 ⟨rfl, u3, hl_, ho_, hu_, hb_⟩; clear BKL BKO HU HB H3; have BKL := Aside0.mk hl_; have BKO := Aside0.mk ho_; have HU := Aside0.mk hu_; have HB := Aside0.mk hb_; clear hl_ ho_ hu_ hb_; obtain ⟨Ar, cr, er⟩ := Kd.R_slice HU.out; subst er; have hco0 := blk_cell BKO.out 0))
      go_ret2
      exact ⟨_, by first | rfl | (simp; done), (by (with_reducible repeat (first | apply Kd.R_alloc | apply Kd.R_drewN | apply Kd.R_drew)); exact HU.out), (by repeat (first | (with_reducible first | exact HB.out | apply below_alloc | apply pw_below_drewN | apply below_drew1 | refine below_set ?_ HGO.out) | exact HB.out))⟩
    · cases h

end
end Go.Proofs.YtldcjlpbodpmbaaDoor.PMv
