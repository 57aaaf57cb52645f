-- Written for this claim by a program of this session (myprint.py) over the kit's printer.
import Derived.Test.YtciboaihodoglaaPRpx0
import Derived.Test.YtciboaihodoglaaPRpx3
namespace Go.Proofs.Ytciboaihodoglaa.PRp
noncomputable section
open Go.RowKit Go.Proofs.YtciboaihodoglaaW.PrintWords Go.Proofs.YtciboaihodoglaaW.PrintLast Go.Proofs.YtciboaihodoglaaW.PrintMore
attribute [local go_sem] max2_int min2_int max_two min_two max_three min_three max_four min_four   -- for this text's walks alone
set_option linter.unusedVariables false
set_option linter.unusedSimpArgs false

/-! ### impl_isLadder: function 42 -/
def impl_isLadder.bad (n : Int) (x : Int) : Bool := !(decide (0 ≤ x) && decide (x ≤ n - 2))
def impl_isLadder.idx (p : Int → Bool) (l : List Int) : Int := if l.any p then ((l.findIdx p : Nat) : Int) else -1
def impl_isLadder.f (a0_0 : Int) (l0_1 : List Int) : Option Bool := some (decide (2 ≤ a0_0) && decide (a0_0 ≤ 8) && decide (l0_1.length ≤ 60) && !(l0_1.any (impl_isLadder.bad a0_0)))
theorem impl_isLadder.idx_hit (p : Int → Bool) (l : List Int) (i : Nat) (hi : i < l.length) (hp : p (rd l i) = true) (hb : ∀ j, j < i → p (rd l j) = false) : impl_isLadder.idx p l = (i : Int) := by
  have hg : ∀ j : Nat, ∀ h : j < l.length, rd l j = l[j] := fun j h => by
    show l.getD ((j : Int)).toNat 0 = _
    rw [Int.toNat_natCast, List.getD_eq_getElem?_getD, List.getElem?_eq_getElem h]; rfl
  have h1 : l.any p = true := List.any_eq_true.2 ⟨rd l i, by rw [hg i hi]; exact List.getElem_mem hi, hp⟩
  unfold impl_isLadder.idx
  rw [if_pos h1]
  congr 1
  refine (List.findIdx_eq hi).2 ⟨by rw [← hg i hi]; exact hp, fun j hj => ?_⟩
  have := hb j hj
  rw [hg j (by omega)] at this
  simpa using this
theorem impl_isLadder.idx_miss (p : Int → Bool) (l : List Int) (hb : ∀ j, j < l.length → p (rd l j) = false) : impl_isLadder.idx p l = -1 := by
  have h1 : ¬ l.any p = true := fun h => by
    obtain ⟨x, hx, hp⟩ := List.any_eq_true.1 h
    obtain ⟨j, hj, rfl⟩ := List.getElem_of_mem hx
    have h2 := hb j hj
    have hg : rd l j = l[j] := by
      show l.getD ((j : Int)).toNat 0 = _
      rw [Int.toNat_natCast, List.getD_eq_getElem?_getD, List.getElem?_eq_getElem hj]; rfl
    rw [hg, hp] at h2
    cases h2
  unfold impl_isLadder.idx
  rw [if_neg h1]
theorem impl_isLadder.idx_any (p : Int → Bool) (l : List Int) : decide (0 ≤ impl_isLadder.idx p l) = l.any p := by
  unfold impl_isLadder.idx
  cases h : l.any p
  · simp
  · simp [Int.natCast_nonneg]
set_option maxHeartbeats 400000 in
/-- The closure: is the number out of its bounds? -/
theorem impl_isLadder.clos (x n : Int) (g : Nat) (w : World) (h0 : 2 ≤ n) (h1 : n ≤ 8) (hc : w.cell? ⟨g, 0, none⟩ = some (.int .i64 n)) :
    Calls Try.prog 56 #[.int .i64 x, .pointer (some ⟨g, 0, none⟩)] w fun e w' => e = .returned (.bool (impl_isLadder.bad n x)) ∧ Drawn0 w w' := by
  have hb : impl_between.f x 0 (n - 2) = some (decide (0 ≤ x) && decide (x ≤ n - 2)) := by
    unfold impl_between.f
    by_cases h : x ≥ 0
    · rw [if_pos h]; simp [h]
    · rw [if_neg h]; simp [h]
  have HB := Aside0.mk hb
  clear hb
  go_enter Try.func56, Try.ntmps56
  go_wp2_with (go_at_call 52; (with_reducible refine (impl_between.calls _ _ _ _ _ HB.out).mono ?_); rintro e w' ⟨rfl, ⟨nd, rfl⟩⟩)
  go_ret
  exact ⟨by simp [impl_isLadder.bad], by repeat (first | exact Drawn0.refl _ | apply Drawn0.step)⟩
def impl_isLadder.Gives (n : Int) (g : Nat) (w : World) : Prop := ∀ (x : Int) (q : Nat), Calls Try.prog 56 #[.int .i64 x, .pointer (some ⟨g, 0, none⟩)] (w.drewN q) fun e w' => e = .returned (.bool (impl_isLadder.bad n x)) ∧ Drawn0 (w.drewN q) w'
set_option maxHeartbeats 1000000 in
set_option maxRecDepth 100000 in
theorem impl_isLadder.index (A0 : Option Addr) (c0 : Nat) (l0 : List Int) (n : Int) (g : Nat) (w : World) (hr0 : Kd.C (Kd.int .i64) w A0 l0.length l0) (hc0 : l0.length ≤ c0) (hG : impl_isLadder.Gives n g w) :
    Calls Try.prog 64 #[.slice A0 l0.length c0, .func (.func 56) #[] #[.pointer (some ⟨g, 0, none⟩)]] w fun e w' => e = .returned (.int .i64 (impl_isLadder.idx (impl_isLadder.bad n) l0)) ∧ Drawn0 w w' := by
  have HR0 := Aside0.mk hr0
  have HG := Aside0.mk hG
  have HN : l0.length ≤ 9223372036854775807 := hr0.2.1
  clear hr0 hc0 hG
  go_enter Try.func64, Try.ntmps64
  go_wp2
  go_loopg [5, 8] l0.length (fun gg _ s8 wr => ∃ kk q : Nat, kk ≤ l0.length ∧ l0.length - kk ≤ gg ∧ s8 = .int .i64 kk ∧ wr = w.drewN q ∧ Aside0 (∀ j : Nat, j < kk → impl_isLadder.bad n (rd l0 (j : Int)) = false))
  case atStart => exact ⟨0, 0, Nat.zero_le _, by omega, rfl, rfl, ⟨fun j hj => absurd hj (Nat.not_lt_zero _)⟩⟩
  case round =>
    obtain ⟨kk, q, hkk, hg, rfl, rfl, A⟩ := hrel
    by_cases hlt : kk < l0.length
    · have hltz : (kk : Int) < (l0.length : Int) := by omega
      obtain ⟨ad1, e1, hx0⟩ := Kd.at_int HR0.out (kk : Int) (Int.natCast_nonneg kk) hltz
      cases e1
      have hx : w.cell? (ad1.add kk) = some (.int .i64 (rd l0 (kk : Int))) := by rw [Int.toNat_natCast] at hx0; exact hx0
      clear hx0
      cases hq : impl_isLadder.bad n (rd l0 (kk : Int)) with
      | true =>
        have hcall := fun q => HG.out (rd l0 (kk : Int)) q
        rw [hq] at hcall
        have HC := Aside0.mk hcall
        have HQ := Aside0.mk hq
        clear hcall hq
        go_wp2_with (go_at_call 56; refine (HC.out _).mono ?_; rintro e w' ⟨rfl, ⟨q', rfl⟩⟩)
        go_ret
        refine ⟨?_, by repeat (first | exact Drawn0.refl _ | apply Drawn0.step)⟩
        rw [impl_isLadder.idx_hit _ l0 kk hlt HQ.out A.out]; rfl
      | false =>
        have hcall := fun q => HG.out (rd l0 (kk : Int)) q
        rw [hq] at hcall
        have HC := Aside0.mk hcall
        have HQ := Aside0.mk hq
        clear hcall hq
        go_wp2_with (go_at_call 56; refine (HC.out _).mono ?_; rintro e w' ⟨rfl, ⟨q', rfl⟩⟩)
        go_roundg (l0.length - (kk + 1))
        case measure => omega
        case rel =>
          refine ⟨kk + 1, _, by omega, by omega, by go_num, rfl, ⟨fun j hj => ?_⟩⟩
          by_cases e : j = kk
          · subst e; exact HQ.out
          · exact A.out j (by omega)
    · have hltz : ¬ (kk : Int) < (l0.length : Int) := by omega
      have hk : kk = l0.length := by omega
      subst hk
      go_wp2
      go_ret
      refine ⟨?_, by repeat (first | exact Drawn0.refl _ | apply Drawn0.step)⟩
      rw [impl_isLadder.idx_miss _ l0 A.out]; rfl
set_option maxHeartbeats 1000000 in
theorem impl_isLadder.contains (A0 : Option Addr) (c0 : Nat) (l0 : List Int) (n : Int) (g : Nat) (r : Bool) (w : World) (hr0 : Kd.C (Kd.int .i64) w A0 l0.length l0) (hc0 : l0.length ≤ c0) (hG : impl_isLadder.Gives n g w) (h : l0.any (impl_isLadder.bad n) = r) :
    Calls Try.prog 55 #[.slice A0 l0.length c0, .func (.func 56) #[] #[.pointer (some ⟨g, 0, none⟩)]] w fun e w' => e = .returned (.bool r) ∧ Drawn0 w w' := by
  have HI := Aside0.mk (impl_isLadder.index A0 c0 l0 n g w hr0 hc0 hG)
  have HA := Aside0.mk (impl_isLadder.idx_any (impl_isLadder.bad n) l0)
  have HH := Aside0.mk h
  clear hr0 hG h
  go_enter Try.func55, Try.ntmps55
  go_wp2_with (go_at_call 64; (with_reducible refine HI.out.mono ?_); rintro e w' ⟨rfl, ⟨nd, rfl⟩⟩)
  go_ret
  exact ⟨by rw [HA.out, HH.out]; rfl, by repeat (first | exact Drawn0.refl _ | apply Drawn0.step)⟩
set_option maxHeartbeats 2000000 in
set_option maxRecDepth 100000 in
theorem impl_isLadder.calls (a0_0 : Int) (A0_1 : Option Addr) (c0_1 : Nat) (l0_1 : List Int) (r : Bool) (w : World) (hr0_1 : Kd.C (Kd.int .i64) w A0_1 l0_1.length l0_1) (hc0_1 : l0_1.length ≤ c0_1) (h : impl_isLadder.f a0_0 l0_1 = some r) :
    Calls Try.prog 42 #[.agg #[.int .i64 a0_0, .slice A0_1 l0_1.length c0_1]] w fun e w' => e = .returned (.bool r) ∧ Below w.heap.size w w' := by
  have h' : (decide (2 ≤ a0_0) && decide (a0_0 ≤ 8) && decide (l0_1.length ≤ 60) && !(l0_1.any (impl_isLadder.bad a0_0))) = r := Option.some.inj h
  clear h
  by_cases hn : 2 ≤ a0_0 ∧ a0_0 ≤ 8
  · have hb : impl_between.f a0_0 2 8 = some true := by
      unfold impl_between.f
      rw [if_pos hn.1, decide_eq_true hn.2]
    have HB := Aside0.mk hb
    have HN := Aside0.mk hn
    by_cases hl : l0_1.length ≤ 60
    · have HR := Aside0.mk hr0_1
      have HC := Aside0.mk hc0_1
      have hlz : (l0_1.length : Int) ≤ 60 := by omega
      have hl0 : decide ((l0_1.length : Int) ≤ 60) = true := decide_eq_true hlz
      have hl1 : decide (l0_1.length ≤ 60) = true := decide_eq_true hl
      have hr : r = !(l0_1.any (impl_isLadder.bad a0_0)) := by rw [← h', decide_eq_true hn.1, decide_eq_true hn.2, decide_eq_true hl]; simp
      have HRR := Aside0.mk hr
      clear h' hb hn hr0_1 hc0_1 hr hl hlz
      go_enter Try.func42, Try.ntmps42
      go_wp2_with (first | (go_at_call 52; (with_reducible refine (impl_between.calls _ _ _ _ _ HB.out).mono ?_); rintro e w' ⟨rfl, ⟨nd, rfl⟩⟩) | (go_at_call 55; (with_reducible refine (impl_isLadder.contains A0_1 c0_1 l0_1 a0_0 w.heap.size _ _ ?side1 HC.out ?side2 rfl).mono ?_); (case side1 => exact Kd.C_drewN (Kd.C_alloc HR.out _) _); (case side2 => exact fun x q => impl_isLadder.clos x a0_0 w.heap.size _ HN.out.1 HN.out.2 (by simp [World.cell?_alloc_new])); rintro e w' ⟨rfl, ⟨nd2, rfl⟩⟩))
      go_ret
      exact ⟨by rw [HRR.out]; rfl, by repeat (first | exact Below.refl _ _ | apply pw_below_drewN | apply below_alloc)⟩
    · have hl0 : decide ((l0_1.length : Int) ≤ 60) = false := decide_eq_false (by omega)
      have hl1 : decide (l0_1.length ≤ 60) = false := decide_eq_false hl
      have hr : r = false := by rw [← h', decide_eq_false hl]; simp
      have HRR := Aside0.mk hr
      clear h' hb hn hr0_1 hc0_1 hr hl
      go_enter Try.func42, Try.ntmps42
      go_wp2_with (go_at_call 52; (with_reducible refine (impl_between.calls _ _ _ _ _ HB.out).mono ?_); rintro e w' ⟨rfl, ⟨nd, rfl⟩⟩)
      go_ret
      exact ⟨by rw [HRR.out]; rfl, by repeat (first | exact Below.refl _ _ | apply pw_below_drewN | apply below_alloc)⟩
  · have hb : impl_between.f a0_0 2 8 = some false := by
      unfold impl_between.f
      by_cases h1 : a0_0 ≥ 2
      · rw [if_pos h1, decide_eq_false (by omega)]
      · rw [if_neg h1]
    have HB := Aside0.mk hb
    have hr : r = false := by
      rw [← h']
      by_cases h1 : 2 ≤ a0_0
      · have h2 : ¬ a0_0 ≤ 8 := fun h2 => hn ⟨h1, h2⟩
        simp [h2]
      · simp [h1]
    have HRR := Aside0.mk hr
    clear h' hb hn hr0_1 hc0_1 hr
    go_enter Try.func42, Try.ntmps42
    go_wp2_with (go_at_call 52; (with_reducible refine (impl_between.calls _ _ _ _ _ HB.out).mono ?_); rintro e w' ⟨rfl, ⟨nd, rfl⟩⟩)
    go_ret
    exact ⟨by rw [HRR.out]; rfl, by repeat (first | exact Below.refl _ _ | apply pw_below_drewN | apply below_alloc)⟩

/-! ### bits_Mul32: function 65 -/
def bits_Mul32.f (a0 : Int) (a1 : Int) : Option (Int × Int) := some (((IntKind.u64.wrap ((IntKind.u64.wrap (a0)) * (IntKind.u64.wrap (a1)))) / 4294967296) % 4294967296, (IntKind.u64.wrap ((IntKind.u64.wrap (a0)) * (IntKind.u64.wrap (a1)))) % 4294967296)
set_option maxHeartbeats 8000000 in
set_option maxRecDepth 100000 in
theorem bits_Mul32.calls (a0 : Int) (a1 : Int) (r1 : Int) (r2 : Int) (w : World) (h : bits_Mul32.f a0 a1 = some (r1, r2)) :
    Calls Try.prog 65 #[.int .u32 a0, .int .u32 a1] w fun e w' => e = .returned (.tuple #[.int .u32 r1, .int .u32 r2]) ∧ Drawn0 w w' := by
  have H : (some (((IntKind.u64.wrap ((IntKind.u64.wrap (a0)) * (IntKind.u64.wrap (a1)))) / 4294967296) % 4294967296, (IntKind.u64.wrap ((IntKind.u64.wrap (a0)) * (IntKind.u64.wrap (a1)))) % 4294967296)) = some (r1, r2) := h
  clear h
  simp only [Option.some.injEq, Prod.mk.injEq] at H
  obtain ⟨rfl, rfl⟩ := H
  go_enter Try.func65, Try.ntmps65
  go_wp2
  go_ret2
  exact ⟨by first | rfl | (simp; done) | (simp [*]; done), by repeat (first | exact Drawn0.refl _ | apply Drawn0.step)⟩

/-! ### bits_Mul64: function 66 -/
def bits_Mul64.f (a0 : Int) (a1 : Int) : Option (Int × Int) := some (IntKind.u64.wrap ((IntKind.u64.wrap ((IntKind.u64.wrap ((a0 / 4294967296) * (a1 / 4294967296))) + ((IntKind.u64.wrap ((IntKind.u64.wrap ((a0 / 4294967296) * (Go.bits .and .u64 a1 4294967295))) + ((IntKind.u64.wrap ((Go.bits .and .u64 a0 4294967295) * (Go.bits .and .u64 a1 4294967295))) / 4294967296))) / 4294967296))) + ((IntKind.u64.wrap ((Go.bits .and .u64 (IntKind.u64.wrap ((IntKind.u64.wrap ((a0 / 4294967296) * (Go.bits .and .u64 a1 4294967295))) + ((IntKind.u64.wrap ((Go.bits .and .u64 a0 4294967295) * (Go.bits .and .u64 a1 4294967295))) / 4294967296))) 4294967295) + (IntKind.u64.wrap ((Go.bits .and .u64 a0 4294967295) * (a1 / 4294967296))))) / 4294967296)), IntKind.u64.wrap (a0 * a1))
set_option maxHeartbeats 8000000 in
set_option maxRecDepth 100000 in
theorem bits_Mul64.calls (a0 : Int) (a1 : Int) (r1 : Int) (r2 : Int) (w : World) (h : bits_Mul64.f a0 a1 = some (r1, r2)) :
    Calls Try.prog 66 #[.int .u64 a0, .int .u64 a1] w fun e w' => e = .returned (.tuple #[.int .u64 r1, .int .u64 r2]) ∧ Drawn0 w w' := by
  have H : (some (IntKind.u64.wrap ((IntKind.u64.wrap ((IntKind.u64.wrap ((a0 / 4294967296) * (a1 / 4294967296))) + ((IntKind.u64.wrap ((IntKind.u64.wrap ((a0 / 4294967296) * (Go.bits .and .u64 a1 4294967295))) + ((IntKind.u64.wrap ((Go.bits .and .u64 a0 4294967295) * (Go.bits .and .u64 a1 4294967295))) / 4294967296))) / 4294967296))) + ((IntKind.u64.wrap ((Go.bits .and .u64 (IntKind.u64.wrap ((IntKind.u64.wrap ((a0 / 4294967296) * (Go.bits .and .u64 a1 4294967295))) + ((IntKind.u64.wrap ((Go.bits .and .u64 a0 4294967295) * (Go.bits .and .u64 a1 4294967295))) / 4294967296))) 4294967295) + (IntKind.u64.wrap ((Go.bits .and .u64 a0 4294967295) * (a1 / 4294967296))))) / 4294967296)), IntKind.u64.wrap (a0 * a1))) = some (r1, r2) := h
  clear h
  simp only [Option.some.injEq, Prod.mk.injEq] at H
  obtain ⟨rfl, rfl⟩ := H
  go_enter Try.func66, Try.ntmps66
  go_wp2
  go_ret2
  exact ⟨by first | rfl | (simp; done) | (simp [*]; done), by repeat (first | exact Drawn0.refl _ | apply Drawn0.step)⟩

/-! ### bits_Mul: function 58 -/
def bits_Mul.f (a0 : Int) (a1 : Int) : Option (Int × Int) := (bits_Mul64.f a0 a1).bind fun bt138 => (some (bt138.1, bt138.2))
set_option maxHeartbeats 8000000 in
set_option maxRecDepth 100000 in
theorem bits_Mul.calls (a0 : Int) (a1 : Int) (r1 : Int) (r2 : Int) (w : World) (h : bits_Mul.f a0 a1 = some (r1, r2)) :
    Calls Try.prog 58 #[.int .u64 a0, .int .u64 a1] w fun e w' => e = .returned (.tuple #[.int .u64 r1, .int .u64 r2]) ∧ Drawn0 w w' := by
  have H : ((bits_Mul64.f a0 a1).bind fun bt138 => (some (bt138.1, bt138.2))) = some (r1, r2) := h
  clear h
  replace H := Option.bind_eq_some_iff.mp H
  obtain ⟨⟨t138, t139⟩, A30, H⟩ := H
  replace H : (some (t138, t139)) = some (r1, r2) := H
  have A3 := Aside0.mk A30
  clear A30
  simp only [Option.some.injEq, Prod.mk.injEq] at H
  obtain ⟨rfl, rfl⟩ := H
  go_enter Try.func58, Try.ntmps58
  go_wp2_with (first | ((with_reducible refine gate_callee (f := 66) rfl ?_); refine goesL_ (some 25) rfl rfl Try.func66 (by kernel_rfl) rfl #[.int .u64 a0, .int .u64 a1] rfl (by (try simp only [List.map_toArray, List.map_cons, List.map_nil]); first | done | rfl | (simp only [List.length_drop, List.length_take]; rfl)) ?_; (with_reducible refine (bits_Mul64.calls a0 a1 t138 t139 _ A3.out).mono ?_); rintro e w' ⟨rfl, ⟨nd, rfl⟩⟩; refine ⟨_, rfl, ?_⟩))
  go_ret2
  exact ⟨by first | rfl | (simp; done) | (simp [*]; done), by repeat (first | exact Drawn0.refl _ | apply Drawn0.step)⟩

/-! ### slices_Repeat_int_int: function 45 -/
def slices_Repeat_int_int.flat (l : List Int) (c : Nat) : List Int := (List.replicate c l).flatten
theorem slices_Repeat_int_int.flat_length (l : List Int) (c : Nat) : (slices_Repeat_int_int.flat l c).length = c * l.length := by
  unfold slices_Repeat_int_int.flat
  induction c with
  | zero => simp
  | succ c ih => rw [List.replicate_succ, List.flatten_cons, List.length_append, ih, Nat.succ_mul]; omega
theorem slices_Repeat_int_int.flat_add (l : List Int) (c d : Nat) : slices_Repeat_int_int.flat l (c + d) = slices_Repeat_int_int.flat l c ++ slices_Repeat_int_int.flat l d := by
  unfold slices_Repeat_int_int.flat
  rw [← List.replicate_append_replicate, List.flatten_append]
theorem slices_Repeat_int_int.flat_take (l : List Int) (c d : Nat) (h : d ≤ c) : (slices_Repeat_int_int.flat l c).take (d * l.length) = slices_Repeat_int_int.flat l d := by
  obtain ⟨e, rfl⟩ : ∃ e, c = d + e := ⟨c - d, by omega⟩
  rw [slices_Repeat_int_int.flat_add, List.take_append_of_le_length (by rw [slices_Repeat_int_int.flat_length]; exact Nat.le_refl _), List.take_of_length_le (by rw [slices_Repeat_int_int.flat_length]; exact Nat.le_refl _)]
def slices_Repeat_int_int.f (l0 : List Int) (x1 : Int) : Option (List Int) := if 0 ≤ x1 ∧ x1 ≤ 1000 ∧ l0.length ≤ 1000 ∧ (x1 = 0 ∨ 0 < l0.length) then some (slices_Repeat_int_int.flat l0 x1.toNat) else none
/-- A copy whose run is known, as a step of a region that draws its order. -/
theorem slices_Repeat_int_int.step {P : Program} {ops : Array Oper} {o : Oper} {a : Act} {W : World} {K : Act → World → Prop} {Q : Exit → Act → World → Prop} {E : Prop} (hg : o.guard = none) (d x : Operand) (t t' : TypeId)
    (hop : o.op = Op.call { callee := Callee.builtin Builtin.copy, args := #[d, x], argTypes := #[t, t'] }) (v u : Value) (hd : a.eval d = v) (hx : a.eval x = u) {z : Value} {W' : World} (hr : (Builtin.copy_ #[t, t'] o.type #[v, u]).run P W = .ok z W') (hK : K (a.put o.dst z) W') :
    if Region.wanted o (yielded ops a.tmps) = true then Oper.wp P o a W K Q else E := by
  rw [if_pos (show Region.wanted o (yielded ops a.tmps) = true by simp [Region.wanted, hg])]
  unfold Oper.wp
  simp [execOp, hop, resolve, invoke, builtin, hd, hx, hr, Result.andThen]
  exact hK
theorem slices_Repeat_int_int.copy_run {P : Program} {w0 W : World} (base : Nat) (t t' e : TypeId) (ht : P.underlying t = some (.slice e)) (hinfo : (P.info? e).map (·.size) = some 1)
    (g cap n N : Nat) (xs : List Int) (ok : Nat → Prop) (hN : N = xs.length) (hn0 : 0 < n) (hn : n < N)
    (HO : Kd.R (Kd.int .i64) e W base ok (.slice (some ⟨g, 0, none⟩) N cap) xs) (HB : Below base w0 W) (hbase : base ≤ W.heap.size) :
    ∃ w1, (∀ ty, (Builtin.copy_ #[t, t'] ty #[.slice (some ⟨g, n, none⟩) (N - n) (cap - n), .slice (some ⟨g, 0, none⟩) n cap]).run P W = .ok (goInt ((min n (N - n) : Nat) : Int)) w1) ∧ Kd.R (Kd.int .i64) e w1 base ok (.slice (some ⟨g, 0, none⟩) N cap) (xs.take n ++ xs.take (min n (N - n)) ++ xs.drop (n + min n (N - n))) ∧ Below base w0 w1 := by
  have hown := Kd.own_of_R (enc := Value.int .i64) (h1 := fun _ => rfl) HO
  have hok := HO.1
  rcases hown.2 with ⟨hv, _⟩ | ⟨g', cap', cur, hv, hb, hh, hnc, hcm, hcs, htake⟩
  · cases hv
  · injection hv with h1 h2 h3
    injection h1 with h1
    injection h1 with h1 _ _
    subst h1; subst h3
    rw [Nat.mul_one] at hcs htake
    have henc : ∀ ys : List Int, encs (Value.int .i64) ys = ys.map (Value.int .i64) := fun ys => by simp [encs]
    rw [henc] at htake
    have hkl : (encs (Value.int .i64) (xs.take (min n (N - n)))).length = min n (N - n) := by rw [encs_length, List.length_take]; omega
    have hsrc : ∀ j u, (encs (Value.int .i64) (xs.take (min n (N - n))))[j]? = some u → W.cell? ((⟨g, 0, none⟩ : Addr).add j) = some u := by
      intro j u hu
      have ea : (⟨g, 0, none⟩ : Addr).add j = ⟨g, j, none⟩ := by simp [Addr.add]; omega
      rw [ea, cell_of_row W g _ cur e (0, 0) hh, ← Array.getElem?_toList]
      rw [henc, List.getElem?_map, List.getElem?_take] at hu
      split at hu
      · rename_i hj
        have h4 : (cur.toList.take xs.length)[j]? = (xs.map (Value.int .i64))[j]? := by rw [htake]
        rw [List.getElem?_take, if_pos (by omega), List.getElem?_map] at h4
        rw [h4, hu]
      · cases hu
    have hr := fun ty => run_copy_cells (P := P) W t t' ty e g n (N - n) (cap - n) ⟨g, 0, none⟩ n cap (encs (Value.int .i64) (xs.take (min n (N - n)))) ht hinfo (by rw [hkl]) hsrc
      (fun j hj => by rw [cell_of_row W g _ cur e (0, 0) hh]; simp; omega) (fun j _ => blk_frozen hh _) (by intro u hu; simp only [encs, List.mem_map] at hu; obtain ⟨q, _, rfl⟩ := hu; rfl)
    obtain ⟨cur', h3, h4, h5⟩ := setCells_row (encs (Value.int .i64) (xs.take (min n (N - n)))) n W cur hh (by rw [hkl]; omega)
    obtain ⟨s1, s2, s3, s4⟩ := setCells_same g (encs (Value.int .i64) (xs.take (min n (N - n)))) n W
    rw [hkl] at hr
    have hln : (xs.take n ++ xs.take (min n (N - n)) ++ xs.drop (n + min n (N - n))).length = xs.length := by
      rw [List.length_append, List.length_append, List.length_take, List.length_take, List.length_drop]
      omega
    refine ⟨_, hr, Kd.R_of_own (enc := Value.int .i64) (h1 := fun _ => rfl) ?_ hok, HB.grown ⟨s1, s2, s3, by rw [s4]; exact Nat.le_refl _, fun k _ hk => setCells_far _ _ k (fun he => hk (by rw [he]; simp [Value.ownBlock]))⟩ hbase (own_base hown)⟩
    rw [hln]
    refine ⟨by rw [encs_length, hln, Nat.mul_one], .inr ⟨g, cap, cur', by rw [hN], hb, h3, hnc, hcm, by rw [h4]; omega, ?_⟩⟩
    rw [h5, Nat.mul_one, hkl, henc, henc]
    have e1 : cur.toList.take n = (xs.take n).map (Value.int .i64) := by rw [List.map_take, ← htake, List.take_take, Nat.min_eq_left (by omega)]
    have e2 : (cur.toList.drop (n + min n (N - n))).take (xs.length - (n + min n (N - n))) = (xs.drop (n + min n (N - n))).map (Value.int .i64) := by rw [List.map_drop, ← htake, List.drop_take]
    have e3 : (cur.toList.take n ++ (xs.take (min n (N - n))).map (Value.int .i64)).length = n + min n (N - n) := by
      rw [List.length_append, List.length_map, List.length_take, List.length_take, Array.length_toList]
      omega
    rw [List.take_append, List.take_of_length_le (by rw [e3]; omega), e3, e2, e1, List.map_append, List.map_append]
theorem slices_Repeat_int_int.wu (n : Int) (h₀ : 0 ≤ n) (h₁ : n < 2 ^ 63) : IntKind.u64.wrap n = n := by rw [IntKind.wrap_u64]; omega
theorem slices_Repeat_int_int.mul (a b : Nat) (ha : a ≤ 1000) (hb : b ≤ 1000) : bits_Mul.f (a : Int) (b : Int) = some (0, ((b * a : Nat) : Int)) := by
  have hab : b * a ≤ 1000 * 1000 := Nat.mul_le_mul hb ha
  obtain ⟨n, hn⟩ : ∃ n, n = b * a := ⟨_, rfl⟩
  have hm : ∀ x : Nat, x ≤ 1000 → bits .and .u64 (x : Int) 4294967295 = (x : Int) := fun x hx => by
    have h := bits_mask .u64 63 (by decide) slices_Repeat_int_int.wu 32 (by decide) (x : Int) (by omega) (by omega)
    have e : ((2 : Int) ^ 32 - 1) = 4294967295 := by decide
    have e2 : ((2 : Int) ^ 32) = 4294967296 := by decide
    rw [e, e2] at h
    rw [h]
    omega
  have hw : ∀ x : Int, 0 ≤ x → x ≤ 1000000 → IntKind.u64.wrap x = x := fun x h0 h1 => slices_Repeat_int_int.wu x (by omega) (by omega)
  unfold bits_Mul.f bits_Mul64.f
  have q1 : (a : Int) / 4294967296 = 0 := by omega
  have q2 : (b : Int) / 4294967296 = 0 := by omega
  have q3 : (a : Int) * (b : Int) = (n : Int) := by rw [hn, Int.natCast_mul, Int.mul_comm]
  have q4 : (n : Int) / 4294967296 = 0 := by omega
  rw [← hn]
  have hm0 : bits .and .u64 (0 : Int) 4294967295 = 0 := hm 0 (by omega)
  have hw0 : IntKind.u64.wrap 0 = 0 := hw 0 (by omega) (by omega)
  have hwn : IntKind.u64.wrap (n : Int) = (n : Int) := hw _ (by omega) (by omega)
  simp only [hm a ha, hm b hb, q1, q2, q3, q4, Int.zero_mul, Int.mul_zero, Int.add_zero, hw0, hm0, hwn, Option.bind_some, Int.zero_ediv]
theorem slices_Repeat_int_int.shape {w : World} {base x : Nat} {ok : Nat → Prop} {v : Value} {xs : List Int} (h : Kd.R (Kd.int .i64) 3 w base ok v xs) (hn : ∃ b, v.ownBlock = some b ∧ x ≤ b) : ∃ g cap, v = .slice (some ⟨g, 0, none⟩) xs.length cap ∧ xs.length ≤ cap := by
  rcases (Kd.own_of_R (enc := Value.int .i64) (h1 := fun _ => rfl) h).2 with ⟨hv, _⟩ | ⟨g, cap, cur, hv, _, _, hnc, _⟩
  · obtain ⟨b, hb, _⟩ := hn
    rw [hv] at hb
    cases hb
  · exact ⟨g, cap, hv, hnc⟩
theorem slices_Repeat_int_int.size1 {P : Program} {e : TypeId} {z : Value} {b : Nat} (h : (P.info? e).map (fun i => (i.zero, i.size, i.bytes)) = some (some z, 1, b)) : (P.info? e).map (·.size) = some 1 := by
  obtain ⟨i0, hi, hz⟩ := Option.map_eq_some_iff.1 h
  simp only [Prod.mk.injEq] at hz
  rw [hi, Option.map_some, hz.2.1]
/-- What the first copy leaves. -/
theorem slices_Repeat_int_int.first (l : List Int) (k n : Nat) (hn : n = k * l.length) (hz : k = 0 ∨ 0 < l.length) : ∃ c, c ≤ k ∧ min l.length n = c * l.length ∧ (c = 0 → n = 0) ∧ l.take (min l.length n) ++ (List.replicate n (0 : Int)).drop (min l.length n) = slices_Repeat_int_int.flat l c ++ List.replicate (n - c * l.length) 0 := by
  by_cases h : k = 0
  · subst h
    rw [Nat.zero_mul] at hn
    subst hn
    exact ⟨0, Nat.le_refl _, by simp, fun _ => rfl, by simp [slices_Repeat_int_int.flat]⟩
  · have h1 : l.length ≤ n := by rw [hn]; exact Nat.le_mul_of_pos_left _ (by omega)
    refine ⟨1, by omega, by omega, by omega, ?_⟩
    rw [Nat.min_eq_left h1, List.take_of_length_le (Nat.le_refl _), List.drop_replicate, Nat.one_mul]
    congr 1
    simp [slices_Repeat_int_int.flat]
/-- What each further one leaves. -/
theorem slices_Repeat_int_int.next (l : List Int) (k n c : Nat) (hn : n = k * l.length) (hc : c < k) (hl : 0 < c * l.length) : ∃ d, c < d ∧ d ≤ k ∧ c * l.length + min (c * l.length) (n - c * l.length) = d * l.length ∧
    (slices_Repeat_int_int.flat l c ++ List.replicate (n - c * l.length) (0 : Int)).take (c * l.length) ++ (slices_Repeat_int_int.flat l c ++ List.replicate (n - c * l.length) (0 : Int)).take (min (c * l.length) (n - c * l.length)) ++ (slices_Repeat_int_int.flat l c ++ List.replicate (n - c * l.length) (0 : Int)).drop (c * l.length + min (c * l.length) (n - c * l.length)) = slices_Repeat_int_int.flat l d ++ List.replicate (n - d * l.length) 0 := by
  have hfl := slices_Repeat_int_int.flat_length l c
  have hkc : n - c * l.length = (k - c) * l.length := by rw [hn, Nat.sub_mul]
  have hmin : min (c * l.length) (n - c * l.length) = (min c (k - c)) * l.length := by
    rw [hkc]
    rcases Nat.le_total c (k - c) with h | h
    · rw [Nat.min_eq_left h, Nat.min_eq_left (Nat.mul_le_mul_right _ h)]
    · rw [Nat.min_eq_right h, Nat.min_eq_right (Nat.mul_le_mul_right _ h)]
  have hcl : 0 < l.length := by
    rcases Nat.eq_zero_or_pos l.length with h | h
    · rw [h, Nat.mul_zero] at hl; omega
    · exact h
  have hc0 : 0 < c := by
    rcases Nat.eq_zero_or_pos c with h | h
    · rw [h, Nat.zero_mul] at hl; omega
    · exact h
  refine ⟨c + min c (k - c), by omega, by omega, by rw [hmin, Nat.add_mul], ?_⟩
  rw [hmin, List.take_append_of_le_length (by rw [hfl]; exact Nat.le_refl _), List.take_of_length_le (by rw [hfl]; exact Nat.le_refl _), List.take_append_of_le_length (by rw [hfl]; exact Nat.mul_le_mul_right _ (Nat.min_le_left _ _)), slices_Repeat_int_int.flat_take l c _ (Nat.min_le_left _ _), slices_Repeat_int_int.flat_add]
  congr 1
  rw [List.drop_append, List.drop_eq_nil_of_le (by rw [hfl]; omega), List.nil_append, hfl, List.drop_replicate, Nat.add_mul]
  congr 1
  omega
set_option maxHeartbeats 8000000 in
set_option maxRecDepth 100000 in
theorem slices_Repeat_int_int.calls (A0 : Option Addr) (c0 : Nat) (l0 : List Int) (x1 : Int) (r : List Int) (w : World) (hr0 : Kd.C (Kd.int .i64) w A0 l0.length l0) (hc0 : l0.length ≤ c0) (h : slices_Repeat_int_int.f l0 x1 = some r) :
    Calls Try.prog 45 #[.slice A0 l0.length c0, .int .i64 x1] w fun e w' => ∃ v0_ : Value, e = .returned (v0_) ∧ Kd.R (Kd.int .i64) 3 w' w.heap.size (fun _ => True) v0_ r ∧ Below w.heap.size w w' := by
  unfold slices_Repeat_int_int.f at h
  split at h
  · rename_i hcond
    obtain ⟨hx0, hx1, hl, hz⟩ := hcond
    obtain rfl := Option.some.inj h
    obtain ⟨k, rfl⟩ := Int.eq_ofNat_of_zero_le hx0
    have hmul := slices_Repeat_int_int.mul l0.length k hl (by omega)
    have hkl : k * l0.length ≤ 1000 * 1000 := Nat.mul_le_mul (by omega) hl
    obtain ⟨n, hn⟩ : ∃ n, n = k * l0.length := ⟨_, rfl⟩
    rw [← hn] at hmul hkl
    obtain ⟨xk, hxk⟩ : ∃ xk : Int, xk = (k : Int) := ⟨_, rfl⟩
    rw [← hxk] at hmul hx0 hx1 ⊢
    have hwl : IntKind.u64.wrap (l0.length : Int) = (l0.length : Int) := slices_Repeat_int_int.wu _ (by omega) (by omega)
    have hwk : IntKind.u64.wrap xk = xk := slices_Repeat_int_int.wu _ (by omega) (by omega)
    obtain ⟨xn, hxn⟩ : ∃ xn : Int, xn = (n : Int) := ⟨_, rfl⟩
    rw [← hxn] at hmul
    have hwn : IntKind.i64.wrap xn = xn := (i64_w _).trans (by unfold wrap64; omega)
    have d1 : decide (xk < 0) = false := decide_eq_false (by omega)
    have d2 : decide (xn > 9223372036854775807) = false := decide_eq_false (by omega)
    have HR := Aside0.mk hr0
    have HC := Aside0.mk hc0
    have HMUL := Aside0.mk hmul
    have HXN := Aside0.mk hxn
    have HN := Aside0.mk hn
    have HXK := Aside0.mk hxk
    have HK := Aside0.mk hx1
    have HZ := Aside0.mk hz
    have HL := Aside0.mk hl
    have HKL := Aside0.mk hkl
    have HB0 := Aside0.mk (Below.refl w.heap.size w)
    clear hr0 hc0 hmul hxn hn hxk hx0 hx1 hz hl hkl h
    go_enter Try.func45, Try.ntmps45
    go_wp2_with (first | ((with_reducible refine gate_callee (f := 58) rfl ?_); refine goesL_ (some 18) rfl rfl Try.func58 (by kernel_rfl) rfl #[.int .u64 (l0.length : Int), .int .u64 xk] rfl (by (try simp only [List.map_toArray, List.map_cons, List.map_nil]); first | done | rfl | (simp only [List.length_drop, List.length_take]; rfl)) ?_; (with_reducible refine (bits_Mul.calls _ _ 0 xn _ HMUL.out).mono ?_); rintro e w' ⟨rfl, ⟨nd, rfl⟩⟩; refine ⟨_, rfl, ?_⟩) | ((with_reducible refine gate_dst (N := 30) rfl ?_); refine Kd.R_make (Kd.int .i64) w.heap.size 3 rfl (N := 30) rfl 22 _ _ rfl xn ?hx ?hy Try.underlying22 (.int .i64 0) 8 info3 rfl (by decide) (by omega) 0 (ok := fun _ => True) (okp := fun _ => True) rfl (fun _ hk => hk) trivial (by have := HXN.out; omega) (by have := HXN.out; have := HKL.out; omega) (w0 := w) (by repeat (first | exact HB0.out | apply below_alloc | apply pw_below_drewN | apply below_drew1)) (Nat.le_refl _) ?_; (case hx => first | rfl | (go_simp; done) | (go_simp; rfl)); (case hy => first | rfl | (go_simp; done) | (go_simp; rfl)); intro v w4 ho hb hg_ hnew_; clear hg_; have hlen_ : (List.replicate xn.toNat (0 : Int)).length = n := (by rw [List.length_replicate]; have := HXN.out; omega); obtain ⟨g, cap, ev, hcap⟩ := slices_Repeat_int_int.shape ho hnew_; rw [hlen_] at ev hcap; subst ev; have ho_ : Kd.R (Kd.int .i64) 3 w4 w.heap.size (fun _ => True) (.slice (some ⟨g, 0, none⟩) n cap) (List.replicate n 0) := (by rw [show n = xn.toNat by have := HXN.out; omega] at ho ⊢; exact ho); have HO := Aside0.mk ho_; have HB4 := Aside0.mk hb; have HCAP := Aside0.mk hcap; clear ho ho_ hb hnew_ hlen_ hcap) | ((with_reducible refine gate_builtin (b := .copy) (xs := #[.tmp 31, .tmp 32]) rfl ?_); refine Kd.R_copy (enc := Value.int .i64) (h1 := fun _ => rfl) 0 (w0 := w) w.heap.size rfl (.tmp 31) (.tmp 32) 22 22 3 rfl Try.underlying22 (slices_Repeat_int_int.size1 info3) (.slice (some ⟨g, 0, none⟩) n cap) (List.replicate n 0) l0 A0 l0.length c0 (fun _ => True) rfl rfl ?hO ?hR ?hB ?hS ?_; (case hO => (with_reducible repeat (first | apply Kd.R_alloc | apply Kd.R_drewN | apply Kd.R_drew)); exact HO.out); (case hR => repeat (first | exact (Kd.C_below HR.out HB4.out) | apply Kd.C_drewN | apply Kd.C_drew)); (case hB => repeat (first | exact HB4.out | apply below_alloc | apply pw_below_drewN | apply below_drew1)); (case hS => exact HB4.out.size); intro w5 ho hb hg; clear hg; rw [List.length_replicate] at *; obtain ⟨c, hc, hm, hc0, he⟩ := slices_Repeat_int_int.first l0 k n HN.out (by have := HZ.out; omega); rw [he] at ho; rw [hm]; have HO5 := Aside0.mk ho; have HB5 := Aside0.mk hb; have HCC := Aside0.mk (And.intro hc hc0); clear ho hb hc hc0 hm he))
    go_loopg [8] k (fun gg v8 w' => ∃ (c : Nat) (x8 : Int), v8 = .int .i64 x8 ∧ Aside0 (x8 = ((c * l0.length : Nat) : Int)) ∧ c ≤ k ∧ k - c ≤ gg ∧ Aside0 (c = 0 → n = 0) ∧ Aside0 (Kd.R (Kd.int .i64) 3 w' w.heap.size (fun _ => True) (.slice (some ⟨g, 0, none⟩) n cap) (slices_Repeat_int_int.flat l0 c ++ List.replicate (n - c * l0.length) 0)) ∧ Aside0 (Below w.heap.size w w'))
    case atStart => exact ⟨c, _, rfl, ⟨rfl⟩, HCC.out.1, Nat.sub_le _ _, ⟨HCC.out.2⟩, HO5, HB5⟩
    case round =>
      clear HO HB4 HO5 HB5 HCC
      obtain ⟨c, x8, rfl, HX8, hck, hgk, HC0, HO, HB⟩ := hrel
      by_cases hlt : x8 < (n : Int)
      · have d8 : decide (x8 < (n : Int)) = true := decide_eq_true hlt
        have hcl : 0 < c * l0.length := by
          rcases Nat.eq_zero_or_pos (c * l0.length) with h0 | h0
          · have h1 := HC0.out
            have h2 := HZ.out
            have h3 := HN.out
            have h4 := HX8.out
            rcases Nat.mul_eq_zero.1 h0 with h5 | h5
            · have := h1 h5; omega
            · rw [h5, Nat.mul_zero] at h3; omega
          · exact h0
        have hck2 : c < k := by
          rcases Nat.lt_or_ge c k with h0 | h0
          · exact h0
          · have h1 : k * l0.length ≤ c * l0.length := Nat.mul_le_mul_right _ h0
            have h3 := HN.out
            have h4 := HX8.out
            omega
        obtain ⟨d, hcd, hdk, hsum, hrow⟩ := slices_Repeat_int_int.next l0 k n c HN.out hck2 hcl
        have hX8 := HX8.out
        obtain ⟨m, hm⟩ : ∃ m, m = c * l0.length := ⟨_, rfl⟩
        rw [← hm] at hX8 hcl hsum hrow HO
        have hmn : m < n := by omega
        obtain ⟨xd, hxd⟩ : ∃ xd : Int, xd = ((d * l0.length : Nat) : Int) := ⟨_, rfl⟩
        have hdn : d * l0.length ≤ n := by rw [HN.out]; exact Nat.mul_le_mul_right _ hdk
        have hkl := HKL.out
        have hwd : IntKind.i64.wrap (x8 + ((min m (n - m) : Nat) : Int)) = xd := (i64_w _).trans (by unfold wrap64; omega)
        obtain ⟨i0, hi0, _, hsz0, _⟩ := info_parts info3
        have hcutt := cut_to (P := Try.prog) 22 3 .i64 Try.underlying22 hi0 (some ⟨g, 0, none⟩) n cap x8 (by omega) (by omega) HCAP.out
        have hcutf := cut_from (P := Try.prog) 22 3 .i64 Try.underlying22 hi0 1 hsz0 (some ⟨g, 0, none⟩) n cap x8 (by omega) (by omega)
        have hcap := HCAP.out
        have ex8 : x8.toNat = m := by omega
        rw [ex8] at hcutt hcutf
        rw [if_neg (show ¬ cap = m by omega), Nat.mul_one, show (some (⟨g, 0, none⟩ : Addr)).map (fun a_ => a_.add m) = some ⟨g, m, none⟩ by simp [Addr.add]; omega] at hcutf
        have hfn : n = (slices_Repeat_int_int.flat l0 c ++ List.replicate (n - m) (0 : Int)).length := by rw [List.length_append, slices_Repeat_int_int.flat_length, List.length_replicate]; omega
        obtain ⟨w5, hrun, hO5, hB5⟩ := slices_Repeat_int_int.copy_run (P := Try.prog) (w0 := w) (W := wr.drew) w.heap.size 22 22 3 Try.underlying22 (slices_Repeat_int_int.size1 info3) g cap m n _ (fun _ => True) hfn hcl hmn (by (with_reducible repeat (first | apply Kd.R_alloc | apply Kd.R_drewN | apply Kd.R_drew)); exact HO.out) (below_drew1 HB.out) HB.out.size
        rw [hrow] at hO5
        have HO5 := Aside0.mk hO5
        have HB5 := Aside0.mk hB5
        have HXD := Aside0.mk hxd
        have HDK := Aside0.mk (And.intro hcd hdk)
        have HD := Aside0.mk hdn
        have HHN := Aside0.mk (show d = 0 → n = 0 from fun h0 => by omega)
        have hgd := hgk
        clear hrow hO5 hB5 hxd hcd hdk hcl hmn hdn hck hkl hcap ex8 hlt hsum hm hck2 hX8 hi0 hsz0 hfn
        go_wp2
        go_region_law (refine slices_Repeat_int_int.step rfl _ _ 22 22 rfl _ _ (by simp [Act.eval, Act.put]) (by simp [Act.eval, Act.put]) (hrun _) ?_)
        all_goals
          go_wp2
          go_roundg (k - d)
          case measure => have := HDK.out; omega
          case rel => exact ⟨d, xd, (by first | rfl | (simp; done) | (simp [*]; done)), HXD, HDK.out.2, Nat.le_refl _, HHN, HO5, HB5⟩
      · have d8 : decide (x8 < (n : Int)) = false := decide_eq_false hlt
        have HNL := Aside0.mk hlt
        clear hlt
        go_wp2
        go_ret
        have ek : c = k := by
          rcases Nat.lt_or_ge c k with h0 | h0
          · have h1 := HNL.out
            have h2 := HX8.out
            have h3 := HN.out
            have h4 := HZ.out
            have h5 : c * l0.length < k * l0.length := Nat.mul_lt_mul_of_pos_right h0 (by omega)
            omega
          · omega
        have hO := HO.out
        rw [ek, show n - k * l0.length = 0 by have := HN.out; omega, List.replicate_zero, List.append_nil] at hO
        have exk : xk.toNat = k := by have := HXK.out; omega
        rw [exk]
        exact ⟨_, rfl, by (with_reducible repeat (first | apply Kd.R_alloc | apply Kd.R_drewN | apply Kd.R_drew)); exact hO, by repeat (first | exact HB.out | apply below_alloc | apply pw_below_drewN | apply below_drew1)⟩
  · cases h

end
end Go.Proofs.Ytciboaihodoglaa.PRp
