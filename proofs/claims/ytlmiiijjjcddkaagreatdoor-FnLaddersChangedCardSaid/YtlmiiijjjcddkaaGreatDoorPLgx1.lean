-- Written for this claim by a program of this session (myprint.py) over the kit's printer.
import Derived.Test.YtlmiiijjjcddkaaGreatDoorPLgx0
namespace Go.Proofs.YtlmiiijjjcddkaaGreatDoor.PLg
noncomputable section
open Go.RowKit Go.Proofs.YtlmiiijjjcddkaaGreatDoorW.PrintWords Go.Proofs.YtlmiiijjjcddkaaGreatDoorW.PrintLast Go.Proofs.YtlmiiijjjcddkaaGreatDoorW.PrintMore
attribute [local go_sem] max2_int min2_int max_two min_two max_three min_three max_four min_four   -- for this text's walks alone
open List (setIfInBounds_toArray set_cons_zero set_cons_succ)
set_option maxHeartbeats 8000000
set_option maxRecDepth 100000
set_option linter.unusedVariables false
set_option linter.unusedSimpArgs false
/-! ### laws_big: function 5 -/
def laws_big.f (l0 : List Int) (l1 : List Int) : Option (Bool) := if (l0.length : Int) > 1048576 then (some true) else (some (decide ((l1.length : Int) > (wrap64 (1048576 - (l0.length : Int))))))
theorem laws_big.calls (A0 : Option Addr) (c0 : Nat) (l0 : List Int) (A1 : Option Addr) (c1 : Nat) (l1 : List Int) (r : Bool) (w : World) (hr0 : Kd.C (Kd.int .u8) w A0 l0.length l0) (hc0 : l0.length ≤ c0) (hr1 : Kd.C (Kd.int .u8) w A1 l1.length l1) (hc1 : l1.length ≤ c1) (h : laws_big.f l0 l1 = some r) :
  Calls Tryz.prog 5 #[.slice A0 l0.length c0, .slice A1 l1.length c1] w fun e w' => e = .returned (.bool r) ∧ Drawn0 w w' := by
 have HR0 := am hr0
 have HC0 := am hc0
 clear hr0 hc0
 have HR1 := am hr1
 have HC1 := am hc1
 clear hr1 hc1
 unfold laws_big.f at h
 have H := h
 clear h
 by_cases c3 : (l0.length : Int) > 1048576
 ·rw [if_pos c3] at H
  have c3b0 : decide (1048576 < (l0.length : Int)) = true := decide_eq_true c3
  have c3b1 : decide (1048576 < l0.length) = true := decide_eq_true zq32
  clear c3
  obtain rfl := Option.some.inj H
  go_enter Tryz.func5, Tryz.ntmps5
  go_wp2
  go_ret
  exact ⟨zq10, zq17⟩
 ·rw [if_neg c3] at H
  have c3b0 : decide (1048576 < (l0.length : Int)) = false := decide_eq_false c3
  have c3b1 : decide (1048576 < l0.length) = false := decide_eq_false zq32
  clear c3
  obtain rfl := Option.some.inj H
  go_enter Tryz.func5, Tryz.ntmps5
  go_wp2
  go_ret
  exact ⟨zq10, zq17⟩
/-- A state of type 76 at block g of W; what its slices lead to came in by w0. -/
def IsS76 (w0 W : World) (g : Nat) (f0 : List Int) (f1 : Int) (f2 : Int) : Prop := ∃ A0 c0, W.heap[g]? = some (.cells #[.slice A0 f0.length c0, .int .i64 f1, .int .u64 f2] 76 (0, 0)) ∧ w0.heap.size ≤ g ∧ Kd.C (Kd.int .u8) w0 A0 f0.length f0
theorem IsS76.grown {w0 W : World} {g : Nat} {f0 : List Int} {f1 : Int} {f2 : Int} {W1 : World} {row : Option Nat} (h : IsS76 w0 W g f0 f1 f2) (hw : W.grownBy W1 row) (hne : some g ≠ row) : IsS76 w0 W1 g f0 f1 f2 := by
 obtain ⟨A0, c0, hb, hg, hr0⟩ := h
 exact ⟨A0, c0, blk_grown hb hw hne, hg, hr0⟩
theorem IsS76.own_neN {w0 W : World} {g : Nat} {f0 : List Int} {f1 : Int} {f2 : Int} {α : Type} {d : Kd α} {e : Nat} {base : Nat} {ok : Nat → Prop} {v : Value} {xs : List α} (h : IsS76 w0 W g f0 f1 f2) (ho : Kd.N d e W base ok v xs) (ht : e ≠ 76) : some g ≠ v.ownBlock := by
 obtain ⟨A0, c0, hb, hg, hr0⟩ := h
 exact Kd.N_ne ho hb ht
theorem IsS76.fresh {w0 W : World} {g : Nat} {f0 : List Int} {f1 : Int} {f2 : Int} (h : IsS76 w0 W g f0 f1 f2) : ∀ k, W.heap.size ≤ k → k ≠ g := by
 obtain ⟨A0, c0, hb, hg, hr0⟩ := h
 exact Kd.freshB hb
theorem IsS76.kept {w0 W : World} {g : Nat} {f0 : List Int} {f1 : Int} {f2 : Int} {W1 : World} {S : Nat → Prop} (h : IsS76 w0 W g f0 f1 f2) (hk : Kept W W1 S) (hne : ¬ S g) : IsS76 w0 W1 g f0 f1 f2 := by
 obtain ⟨A0, c0, hb, hg, hr0⟩ := h
 exact ⟨A0, c0, blk_kept hb hk hne, hg, hr0⟩
theorem IsS76.below {w0 W : World} {g : Nat} {f0 : List Int} {f1 : Int} {f2 : Int} {W1 : World} (h : IsS76 w0 W g f0 f1 f2) (hw : Below W.heap.size W W1) : IsS76 w0 W1 g f0 f1 f2 := h.grown (grown_of_below hw none) zq42
theorem IsS76.alloc {w0 W : World} {g : Nat} {f0 : List Int} {f1 : Int} {f2 : Int} (h : IsS76 w0 W g f0 f1 f2) (o : Obj) : IsS76 w0 (W.alloc o) g f0 f1 f2 := h.below (below_alloc (Below.refl _ _) o)
theorem IsS76.drewN {w0 W : World} {g : Nat} {f0 : List Int} {f1 : Int} {f2 : Int} (h : IsS76 w0 W g f0 f1 f2) (m : Nat) : IsS76 w0 (W.drewN m) g f0 f1 f2 := h
theorem IsS76.drew {w0 W : World} {g : Nat} {f0 : List Int} {f1 : Int} {f2 : Int} (h : IsS76 w0 W g f0 f1 f2) : IsS76 w0 W.drew g f0 f1 f2 := h
theorem IsS76.at_ {w0 W : World} {g : Nat} {f0 : List Int} {f1 : Int} {f2 : Int} {w' : World} {m : Nat} (hq : W.drewN m = w') (h : IsS76 w0 W g f0 f1 f2) : IsS76 w0 w' g f0 f1 f2 := by subst hq; exact IsS76.drewN h m
theorem IsS76.apart {w0 W : World} {g : Nat} {f0 : List Int} {f1 : Int} {f2 : Int} {α : Type} {d : Kd α} {e : Nat} {base : Nat} {ok : Nat → Prop} {v : Value} {xs : List α} (h : IsS76 w0 W g f0 f1 f2) (ho : d.R e W base ok v xs) (ht : ∀ q, q ∈ e :: d.E → q ≠ 76) : d.R e W base (fun k => ok k ∧ k ≠ g) v xs := by
 obtain ⟨A0, c0, hb, hg, hr0⟩ := h
 exact Kd.R_types ho hb ht
theorem IsS76.own_ne {w0 W : World} {g : Nat} {f0 : List Int} {f1 : Int} {f2 : Int} {α : Type} {d : Kd α} {e : Nat} {base : Nat} {ok : Nat → Prop} {v : Value} {xs : List α} (h : IsS76 w0 W g f0 f1 f2) (ho : d.R e W base ok v xs) (ht : e ≠ 76) : some g ≠ v.ownBlock := by
 obtain ⟨A0, c0, hb, hg, hr0⟩ := h
 exact Kd.R_ne ho hb ht
theorem IsS76.apartQ {w0 W : World} {g : Nat} {f0 : List Int} {f1 : Int} {f2 : Int} {α : Type} {d : Kd α} {e : Nat} {base : Nat} {ok : Nat → Prop} {v : Value} {xs : List α} (h : IsS76 w0 W g f0 f1 f2) (ho : d.Q e W base ok v xs) (ht : ∀ q, q ∈ e :: d.E → q ≠ 76) : d.Q e W base (fun k => ok k ∧ k ≠ g) v xs := by
 obtain ⟨A0, c0, hb, hg, hr0⟩ := h
 exact Kd.Q_types ho hb ht
theorem IsS76.own_neQ {w0 W : World} {g : Nat} {f0 : List Int} {f1 : Int} {f2 : Int} {α : Type} {d : Kd α} {e : Nat} {base : Nat} {ok : Nat → Prop} {v : Value} {xs : List α} (h : IsS76 w0 W g f0 f1 f2) (ho : d.Q e W base ok v xs) (ht : e ≠ 76) : some g ≠ v.ownBlock := by
 obtain ⟨A0, c0, hb, hg, hr0⟩ := h
 exact Kd.Q_ne ho hb ht
theorem IsS76.apartS {w0 W : World} {g : Nat} {f0 : List Int} {f1 : Int} {f2 : Int} {α : Type} {d : Kd α} {e : Nat} {base : Nat} {ok : Nat → Prop} {v : Value} {xs : List α} (h : IsS76 w0 W g f0 f1 f2) (ho : d.S e W base ok v xs) (ht : ∀ q, q ∈ e :: d.E → q ≠ 76) : d.S e W base (fun k => ok k ∧ k ≠ g) v xs := by
 obtain ⟨A0, c0, hb, hg, hr0⟩ := h
 exact Kd.S_types ho hb ht
theorem IsS76.own_neS {w0 W : World} {g : Nat} {f0 : List Int} {f1 : Int} {f2 : Int} {α : Type} {d : Kd α} {e : Nat} {base : Nat} {ok : Nat → Prop} {v : Value} {xs : List α} (h : IsS76 w0 W g f0 f1 f2) (ho : d.S e W base ok v xs) (ht : e ≠ 76) : some g ≠ v.ownBlock := by
 obtain ⟨A0, c0, hb, hg, hr0⟩ := h
 exact Kd.S_ne ho hb ht
theorem IsS76.lt {w0 W : World} {g : Nat} {f0 : List Int} {f1 : Int} {f2 : Int} (h : IsS76 w0 W g f0 f1 f2) : g < W.heap.size := by
 obtain ⟨A0, c0, hb, hg, hr0⟩ := h
 exact blk_lt hb
theorem IsS76.ge {w0 W : World} {g : Nat} {f0 : List Int} {f1 : Int} {f2 : Int} (h : IsS76 w0 W g f0 f1 f2) : w0.heap.size ≤ g := by
 obtain ⟨A0, c0, hb, hg, hr0⟩ := h
 exact hg
theorem IsS76.ne_blk {w0 W : World} {g : Nat} {f0 : List Int} {f1 : Int} {f2 : Int} {a : Nat} {cs : Array Value} {t : TypeId} {fr : Nat × Nat} (h : IsS76 w0 W g f0 f1 f2) (hb2 : W.heap[a]? = some (.cells cs t fr)) (ht : t ≠ 76) : g ≠ a := by
 obtain ⟨A0, c0, hb, hg, hr0⟩ := h
 rintro rfl
 rw [hb] at hb2
 injection hb2 with hb2
 injection hb2 with _ ht2
 exact ht ht2.symm
theorem IsS76.far {w0 W : World} {g : Nat} {f0 : List Int} {f1 : Int} {f2 : Int} {p : Addr} (h : IsS76 w0 W g f0 f1 f2) (hne : g ≠ p.block) (u : Value) : IsS76 w0 (W.setCell p u) g f0 f1 f2 := by
 obtain ⟨A0, c0, hb, hg, hr0⟩ := h
 exact ⟨A0, c0, blk_far hb hne u, hg, hr0⟩
theorem cellS76_0 {W : World} {g : Nat} {A0 : Option Addr} {c0 : Nat} {f0 : List Int} {f1 : Int} {f2 : Int} (h : W.heap[g]? = some (.cells #[.slice A0 f0.length c0, .int .i64 f1, .int .u64 f2] 76 (0, 0))) : W.cell? ⟨g, 0, none⟩ = some (.slice A0 f0.length c0) := (blk_cell h 0).trans rfl
theorem cellS76_1 {W : World} {g : Nat} {A0 : Option Addr} {c0 : Nat} {f0 : List Int} {f1 : Int} {f2 : Int} (h : W.heap[g]? = some (.cells #[.slice A0 f0.length c0, .int .i64 f1, .int .u64 f2] 76 (0, 0))) : W.cell? ⟨g, 1, none⟩ = some (.int .i64 f1) := (blk_cell h 1).trans rfl
theorem IsS76.set_1 {w0 W : World} {g : Nat} {f0 : List Int} {f1 : Int} {f2 : Int} (h : IsS76 w0 W g f0 f1 f2) (x : Int) : IsS76 w0 (W.setCell ⟨g, 1, none⟩ (.int .i64 x)) g f0 x f2 := by
 obtain ⟨A0, c0, hb, hg, hr0⟩ := h
 exact ⟨A0, c0, by simpa using blk_set hb 1 (.int .i64 x), hg, hr0⟩
theorem cellS76_2 {W : World} {g : Nat} {A0 : Option Addr} {c0 : Nat} {f0 : List Int} {f1 : Int} {f2 : Int} (h : W.heap[g]? = some (.cells #[.slice A0 f0.length c0, .int .i64 f1, .int .u64 f2] 76 (0, 0))) : W.cell? ⟨g, 2, none⟩ = some (.int .u64 f2) := (blk_cell h 2).trans rfl
theorem IsS76.set_2 {w0 W : World} {g : Nat} {f0 : List Int} {f1 : Int} {f2 : Int} (h : IsS76 w0 W g f0 f1 f2) (x : Int) : IsS76 w0 (W.setCell ⟨g, 2, none⟩ (.int .u64 x)) g f0 f1 x := by
 obtain ⟨A0, c0, hb, hg, hr0⟩ := h
 exact ⟨A0, c0, by simpa using blk_set hb 2 (.int .u64 x), hg, hr0⟩
theorem IsS76.new (w0 W : World) (A0 : Option Addr) (c0 : Nat) (f0 : List Int) (f1 : Int) (f2 : Int) (hB : Below w0.heap.size w0 W) (hr0 : Kd.C (Kd.int .u8) w0 A0 f0.length f0) : IsS76 w0 (W.alloc (.cells #[.slice A0 f0.length c0, .int .i64 f1, .int .u64 f2] 76)) W.heap.size f0 f1 f2 := ⟨A0, c0, by simpa using heap_alloc_new W _, hB.size, hr0⟩
/-! ### spec_l1Cur_next: function 115 -/
def spec_l1Cur_next.f (s0_0 : List Int) (s0_1 : Int) (s0_2 : Int) : Option (Int × Int × Int) := if s0_1 < (s0_0.length : Int) then (if 0 ≤ s0_1 then (if (wrap64 (s0_1 + 1)) ≤ (s0_0.length : Int) then (some (wrap64 (rd s0_0 s0_1), wrap64 (s0_1 + 1), IntKind.u64.wrap ((IntKind.u64.wrap ((IntKind.u64.wrap (s0_2 * 6364136223846793005)) + (IntKind.u64.wrap (wrap64 (rd s0_0 s0_1))))) + 1442695040888963407))) else (some (wrap64 (Go.bits .and .u64 ((IntKind.u64.wrap ((IntKind.u64.wrap ((IntKind.u64.wrap (s0_2 * 6364136223846793005)) + (IntKind.u64.wrap (wrap64 (rd s0_0 s0_1))))) + 1442695040888963407)) / 1099511627776) 255), wrap64 (s0_1 + 1), IntKind.u64.wrap ((IntKind.u64.wrap ((IntKind.u64.wrap (s0_2 * 6364136223846793005)) + (IntKind.u64.wrap (wrap64 (rd s0_0 s0_1))))) + 1442695040888963407)))) else (none)) else (if (wrap64 (s0_1 + 1)) ≤ (s0_0.length : Int) then (some (0, wrap64 (s0_1 + 1), IntKind.u64.wrap ((IntKind.u64.wrap ((IntKind.u64.wrap (s0_2 * 6364136223846793005)) + 0)) + 1442695040888963407))) else (some (wrap64 (Go.bits .and .u64 ((IntKind.u64.wrap ((IntKind.u64.wrap ((IntKind.u64.wrap (s0_2 * 6364136223846793005)) + 0)) + 1442695040888963407)) / 1099511627776) 255), wrap64 (s0_1 + 1), IntKind.u64.wrap ((IntKind.u64.wrap ((IntKind.u64.wrap (s0_2 * 6364136223846793005)) + 0)) + 1442695040888963407))))
theorem spec_l1Cur_next.calls (g : Nat) (s0_0 : List Int) (s0_1 : Int) (s0_2 : Int) (r1 : Int) (r2 : Int) (r3 : Int) (w0 w : World) (hI : IsS76 w0 w g s0_0 s0_1 s0_2) (hB : Below w0.heap.size w0 w) (h : spec_l1Cur_next.f s0_0 s0_1 s0_2 = some (r1, r2, r3)) :
  Calls Tryz.prog 115 #[.pointer (some ⟨g, 0, none⟩)] w fun e w' => e = .returned (.int .i64 r1) ∧ IsS76 w0 w' g s0_0 r2 r3 ∧ Below w0.heap.size w0 w' ∧ KeepBut w w' g none := by
 have HI0 := am hI
 have HK := am (KeepBut.refl w g none)
 have HL := am hB.size
 clear hI
 have HW0 := am hB.size
 have HB := am hB
 clear hB
 unfold spec_l1Cur_next.f at h
 have H := h
 clear h
 by_cases c2 : s0_1 < (s0_0.length : Int)
 ·rw [if_pos c2] at H
  have c2b0 := decide_eq_true c2
  clear c2
  obtain ⟨c3, H⟩ := zI H
  have c3b0 := decide_eq_true c3
  clear c3
  by_cases c4 : (wrap64 (s0_1 + 1)) ≤ (s0_0.length : Int)
  ·rw [if_pos c4] at H
   have c4b0 := decide_eq_true c4
   clear c4
   simp only [Option.some.injEq, Prod.mk.injEq] at H
   obtain ⟨rfl, rfl, rfl⟩ := H
   obtain ⟨ASz5_0, cSz5_0, HGz5, hgz5, HSz5_0⟩ := HI0.out
   have hcz5_0 := cellS76_0 HGz5
   have hcz5_1 := cellS76_1 HGz5
   have hcz5_2 := cellS76_2 HGz5
   have hfz5_1 := blk_frozen HGz5 1
   have hfz5_2 := blk_frozen HGz5 2
   clear HGz5 hgz5
   have p101 : 0 ≤ (s0_1 : Int) := of_decide_eq_true zq9
   have q101 : s0_1 < (s0_0.length : Int) := of_decide_eq_true zq9
   obtain ⟨ad101, e101, hx101_0⟩ := Kd.at_int HSz5_0 s0_1 p101 q101
   cases e101
   replace hx101_0 := pw_cell_below HB.out hx101_0
   replace p101 := eq_true p101
   replace q101 := eq_true q101
   go_enter Tryz.func115, Tryz.ntmps115
   go_wp2
   repeat (go_quiet (fail); try go_wp2)
   go_ret
   exact ⟨zq6, zq49, zq5, zq3⟩
  ·rw [if_neg c4] at H
   have c4b0 := decide_eq_false c4
   clear c4
   simp only [Option.some.injEq, Prod.mk.injEq] at H
   obtain ⟨rfl, rfl, rfl⟩ := H
   obtain ⟨ASz6_0, cSz6_0, HGz6, hgz6, HSz6_0⟩ := HI0.out
   have hcz6_0 := cellS76_0 HGz6
   have hcz6_1 := cellS76_1 HGz6
   have hcz6_2 := cellS76_2 HGz6
   have hfz6_1 := blk_frozen HGz6 1
   have hfz6_2 := blk_frozen HGz6 2
   clear HGz6 hgz6
   have p101 : 0 ≤ (s0_1 : Int) := of_decide_eq_true zq9
   have q101 : s0_1 < (s0_0.length : Int) := of_decide_eq_true zq9
   obtain ⟨ad101, e101, hx101_0⟩ := Kd.at_int HSz6_0 s0_1 p101 q101
   cases e101
   replace hx101_0 := pw_cell_below HB.out hx101_0
   replace p101 := eq_true p101
   replace q101 := eq_true q101
   go_enter Tryz.func115, Tryz.ntmps115
   go_wp2
   repeat (go_quiet (fail); try go_wp2)
   go_ret
   exact ⟨zq6, zq49, zq5, zq3⟩
 ·rw [if_neg c2] at H
  have c2b0 := decide_eq_false c2
  clear c2
  by_cases c7 : (wrap64 (s0_1 + 1)) ≤ (s0_0.length : Int)
  ·rw [if_pos c7] at H
   have c7b0 := decide_eq_true c7
   clear c7
   simp only [Option.some.injEq, Prod.mk.injEq] at H
   obtain ⟨rfl, rfl, rfl⟩ := H
   obtain ⟨ASz8_0, cSz8_0, HGz8, hgz8, HSz8_0⟩ := HI0.out
   have hcz8_0 := cellS76_0 HGz8
   have hcz8_1 := cellS76_1 HGz8
   have hcz8_2 := cellS76_2 HGz8
   have hfz8_1 := blk_frozen HGz8 1
   have hfz8_2 := blk_frozen HGz8 2
   clear HGz8 hgz8
   go_enter Tryz.func115, Tryz.ntmps115
   go_wp2
   repeat (go_quiet (fail); try go_wp2)
   go_ret
   exact ⟨zq6, zq49, zq5, zq3⟩
  ·rw [if_neg c7] at H
   have c7b0 := decide_eq_false c7
   clear c7
   simp only [Option.some.injEq, Prod.mk.injEq] at H
   obtain ⟨rfl, rfl, rfl⟩ := H
   obtain ⟨ASz9_0, cSz9_0, HGz9, hgz9, HSz9_0⟩ := HI0.out
   have hcz9_0 := cellS76_0 HGz9
   have hcz9_1 := cellS76_1 HGz9
   have hcz9_2 := cellS76_2 HGz9
   have hfz9_1 := blk_frozen HGz9 1
   have hfz9_2 := blk_frozen HGz9 2
   clear HGz9 hgz9
   go_enter Tryz.func115, Tryz.ntmps115
   go_wp2
   repeat (go_quiet (fail); try go_wp2)
   go_ret
   exact ⟨zq6, zq49, zq5, zq3⟩
/-! ### spec_l1Cur_pick: function 70 -/
def spec_l1Cur_pick.f (s0_0 : List Int) (s0_1 : Int) (s0_2 : Int) (a1 : Int) : Option (Int × Int × Int) := if a1 ≤ 1 then (some (0, s0_1, s0_2)) else ((spec_l1Cur_next.f s0_0 s0_1 s0_2).bind fun bt102 => (if a1 > 200 then ((spec_l1Cur_next.f s0_0 bt102.2.1 bt102.2.2).bind fun bt105 => (if a1 = 0 then (none) else (some (Int.tmod (wrap64 ((wrap64 (bt102.1 * 256)) + bt105.1)) a1, bt105.2.1, bt105.2.2)))) else (if a1 = 0 then (none) else (some (Int.tmod bt102.1 a1, bt102.2.1, bt102.2.2)))))
theorem spec_l1Cur_pick.calls (g : Nat) (s0_0 : List Int) (s0_1 : Int) (s0_2 : Int) (a1 : Int) (r1 : Int) (r2 : Int) (r3 : Int) (w0 w : World) (hI : IsS76 w0 w g s0_0 s0_1 s0_2) (hB : Below w0.heap.size w0 w) (h : spec_l1Cur_pick.f s0_0 s0_1 s0_2 a1 = some (r1, r2, r3)) :
  Calls Tryz.prog 70 #[.pointer (some ⟨g, 0, none⟩), .int .i64 a1] w fun e w' => e = .returned (.int .i64 r1) ∧ IsS76 w0 w' g s0_0 r2 r3 ∧ Below w0.heap.size w0 w' ∧ KeepBut w w' g none := by
 have HI0 := am hI
 have HK := am (KeepBut.refl w g none)
 have HL := am hB.size
 clear hI
 have HW0 := am hB.size
 have HB := am hB
 clear hB
 unfold spec_l1Cur_pick.f at h
 have H := h
 clear h
 by_cases c3 : a1 ≤ 1
 ·rw [if_pos c3] at H
  have c3b0 := decide_eq_true c3
  clear c3
  simp only [Option.some.injEq, Prod.mk.injEq] at H
  obtain ⟨rfl, rfl, rfl⟩ := H
  go_enter Tryz.func70, Tryz.ntmps70
  go_wp2
  go_ret
  exact ⟨zq6, zq2, zq5, zq3⟩
 ·rw [if_neg c3] at H
  have c3b0 := decide_eq_false c3
  clear c3
  replace H := Option.bind_eq_some_iff.mp H
  obtain ⟨⟨t102, t103, t104⟩, A40, H⟩ := H
  (try dsimp only at H)
  have A4 := am A40
  clear A40
  by_cases c5 : a1 > 200
  ·rw [if_pos c5] at H
   have c5b0 : decide (200 < a1) = true := decide_eq_true c5
   clear c5
   replace H := Option.bind_eq_some_iff.mp H
   obtain ⟨⟨t105, t106, t107⟩, A60, H⟩ := H
   (try dsimp only at H)
   have A6 := am A60
   clear A60
   obtain ⟨c7, H⟩ := zJ H
   have c7b0 : (a1 == 0) = false := beq_eq_false_iff_ne.mpr c7
   have c7b1 : (a1 != 0) = true := bne_iff_ne.mpr c7
   simp only [Option.some.injEq, Prod.mk.injEq] at H
   obtain ⟨rfl, rfl, rfl⟩ := H
   go_enter Tryz.func70, Tryz.ntmps70
   go_wp2_with (first | ((with_reducible refine gate_callee (f := 115) rfl ?_); refine goesL_ (some 9) rfl rfl Tryz.func115 zq15 rfl #[.pointer (some ⟨g, 0, none⟩)] rfl zq0 ?_; (with_reducible refine (spec_l1Cur_next.calls g s0_0 s0_1 s0_2 t102 t103 t104 w0 _ ?side1 ?side2 A4.out).mono ?_); (case side1 => exact zq2); (case side2 => exact zq5); rintro e w8 ⟨rfl, hi, hb, hk⟩; refine ⟨_, rfl, ?_⟩; replace HK := am (KeepBut.trans zq3 hk (.inl rfl)); replace HB := am (hb); replace HI0 := am (hi); (try clear hb hk hi)) | ((with_reducible refine gate_callee (f := 115) rfl ?_); refine goesL_ (some 15) rfl rfl Tryz.func115 zq15 rfl #[.pointer (some ⟨g, 0, none⟩)] rfl zq0 ?_; (with_reducible refine (spec_l1Cur_next.calls g s0_0 t103 t104 t105 t106 t107 w0 _ ?side1 ?side2 A6.out).mono ?_); (case side1 => exact zq2); (case side2 => exact zq5); rintro e w9 ⟨rfl, hi, hb, hk⟩; refine ⟨_, rfl, ?_⟩; replace HK := am (KeepBut.trans zq3 hk (.inl rfl)); replace HB := am (hb); replace HI0 := am (hi); (try clear hb hk hi)))
   go_ret
   exact ⟨zq6, zq2, zq5, zq3⟩
  ·rw [if_neg c5] at H
   have c5b0 : decide (200 < a1) = false := decide_eq_false c5
   clear c5
   obtain ⟨c10, H⟩ := zJ H
   have c10b0 : (a1 == 0) = false := beq_eq_false_iff_ne.mpr c10
   have c10b1 : (a1 != 0) = true := bne_iff_ne.mpr c10
   simp only [Option.some.injEq, Prod.mk.injEq] at H
   obtain ⟨rfl, rfl, rfl⟩ := H
   go_enter Tryz.func70, Tryz.ntmps70
   go_wp2_with (first | ((with_reducible refine gate_callee (f := 115) rfl ?_); refine goesL_ (some 9) rfl rfl Tryz.func115 zq15 rfl #[.pointer (some ⟨g, 0, none⟩)] rfl zq0 ?_; (with_reducible refine (spec_l1Cur_next.calls g s0_0 s0_1 s0_2 t102 t103 t104 w0 _ ?side1 ?side2 A4.out).mono ?_); (case side1 => exact zq2); (case side2 => exact zq5); rintro e w11 ⟨rfl, hi, hb, hk⟩; refine ⟨_, rfl, ?_⟩; replace HK := am (KeepBut.trans zq3 hk (.inl rfl)); replace HB := am (hb); replace HI0 := am (hi); (try clear hb hk hi)))
   go_ret
   exact ⟨zq6, zq2, zq5, zq3⟩
/-! ### spec_l1Cur_among: function 78 -/
def spec_l1Cur_among.f (s0_0 : List Int) (s0_1 : Int) (s0_2 : Int) (l1 : List Int) : Option (Int × Int × Int) := (spec_l1Cur_pick.f s0_0 s0_1 s0_2 (l1.length : Int)).bind fun bt108 => (if 0 ≤ bt108.1 then (if bt108.1 < (l1.length : Int) then (some (rd l1 bt108.1, bt108.2.1, bt108.2.2)) else (none)) else (none))
theorem spec_l1Cur_among.calls (g : Nat) (s0_0 : List Int) (s0_1 : Int) (s0_2 : Int) (A1 : Option Addr) (c1 : Nat) (l1 : List Int) (r1 : Int) (r2 : Int) (r3 : Int) (w0 w : World) (hI : IsS76 w0 w g s0_0 s0_1 s0_2) (hB : Below w0.heap.size w0 w) (hr1 : Kd.C (Kd.int .i64) w A1 l1.length l1) (hc1 : l1.length ≤ c1) (hf1 : ∀ ad, A1 = some ad → 0 < l1.length → ad.block ≠ g) (h : spec_l1Cur_among.f s0_0 s0_1 s0_2 l1 = some (r1, r2, r3)) :
  Calls Tryz.prog 78 #[.pointer (some ⟨g, 0, none⟩), .slice A1 l1.length c1] w fun e w' => e = .returned (.int .i64 r1) ∧ IsS76 w0 w' g s0_0 r2 r3 ∧ Below w0.heap.size w0 w' ∧ KeepBut w w' g none := by
 have HR1 := am hr1
 have HC1 := am hc1
 clear hr1 hc1
 have HI0 := am hI
 have HK := am (KeepBut.refl w g none)
 have HL := am hB.size
 clear hI
 have HW0 := am hB.size
 have HB := am hB
 clear hB
 unfold spec_l1Cur_among.f at h
 have H := h
 clear h
 replace H := Option.bind_eq_some_iff.mp H
 obtain ⟨⟨t108, t109, t110⟩, A30, H⟩ := H
 (try dsimp only at H)
 have A3 := am A30
 clear A30
 by_cases c4 : 0 ≤ t108
 ·rw [if_pos c4] at H
  have c4b0 := decide_eq_true c4
  clear c4
  obtain ⟨c5, H⟩ := zI H
  have c5b0 := decide_eq_true c5
  clear c5
  simp only [Option.some.injEq, Prod.mk.injEq] at H
  obtain ⟨rfl, rfl, rfl⟩ := H
  go_enter Tryz.func78, Tryz.ntmps78
  go_wp2_with (first | ((with_reducible refine gate_callee (f := 70) rfl ?_); refine goesL_ (some 9) rfl rfl Tryz.func70 zq15 rfl #[.pointer (some ⟨g, 0, none⟩), .int .i64 (l1.length : Int)] rfl zq0 ?_; (with_reducible refine (spec_l1Cur_pick.calls g s0_0 s0_1 s0_2 (l1.length : Int) t108 t109 t110 w0 _ ?side1 ?side2 A3.out).mono ?_); (case side1 => exact zq2); (case side2 => exact zq5); rintro e w6 ⟨rfl, hi, hb, hk⟩; refine ⟨_, rfl, ?_⟩; replace HK := am (KeepBut.trans zq3 hk (.inl rfl)); replace HB := am (hb); replace HI0 := am (hi); (try clear hb hk hi); have p111 : 0 ≤ (t108 : Int) := of_decide_eq_true zq9; have q111 : t108 < (l1.length : Int) := of_decide_eq_true zq9; obtain ⟨ad111, e111, hx111_0⟩ := Kd.at_int HR1.out t108 p111 q111; cases e111; replace hx111_0 := keep_cell HK.out hx111_0 (by first | (rw [add_block]; exact hf1 _ rfl zq32) | exact hf1 _ rfl zq32 | exact hf1 ad111 rfl zq32); replace p111 := eq_true p111; replace q111 := eq_true q111))
  go_ret
  exact ⟨zq6, zq2, zq5, zq3⟩
 ·rw [if_neg c4] at H
  exact absurd H zq42
/-! ### spec_l1Cur_sureLadder: function 79 -/
def spec_l1Cur_sureLadder.l0 : Nat → Int → List Int → Int → Int → Int → List Int → Option (Int × List Int × Int × Int)
 | 0, _, _, _, _, _, _ => none
 | k + 1, x8, x1000, x1001, x1002, x117000, x117001 => if x8 > 0 then ((spec_l1Cur_pick.f x1000 x1001 x1002 (wrap64 (x117000 - 1))).bind fun bt120 => (if x117001.length < 17592186044416 then (spec_l1Cur_sureLadder.l0 k (wrap64 (x8 - 1)) x1000 bt120.2.1 bt120.2.2 x117000 (x117001 ++ [bt120.1])) else (none))) else (some (x117000, x117001, x1001, x1002))
def spec_l1Cur_sureLadder.f (k : Nat) (s0_0 : List Int) (s0_1 : Int) (s0_2 : Int) (a1 : Int) (a2 : Int) : Option (Int × List Int × Int × Int) := (spec_l1Cur_pick.f s0_0 s0_1 s0_2 (wrap64 (a1 - 1))).bind fun bt113 => ((spec_l1Cur_pick.f s0_0 bt113.2.1 bt113.2.2 (wrap64 (a2 + 1))).bind fun bt117 => (spec_l1Cur_sureLadder.l0 k bt117.1 s0_0 bt117.2.1 bt117.2.2 (wrap64 (2 + bt113.1)) ([] : List Int)))
theorem spec_l1Cur_sureLadder.mono_l : ∀ k, (∀ y0 y1 y2 y3 y4 y5, LeO (spec_l1Cur_sureLadder.l0 k y0 y1 y2 y3 y4 y5) (spec_l1Cur_sureLadder.l0 (k + 1) y0 y1 y2 y3 y4 y5))
 | 0 => fun _ _ _ _ _ _ r h => by simp [spec_l1Cur_sureLadder.l0] at h
 | k + 1 => by
  have ih0 := spec_l1Cur_sureLadder.mono_l k
  ·intro y0 y1 y2 y3 y4 y5
   unfold spec_l1Cur_sureLadder.l0
   repeat' first | (with_reducible first | exact ih0 _ _ _ _ _ _ | exact LeO.refl _ | exact LeO.none _ | refine LeO.ite ?_ ?_ | refine LeO.bind ?_ (fun _ => ?_))
theorem spec_l1Cur_sureLadder.mono : ∀ a0 a1 a2 a3 a4 k, LeO (spec_l1Cur_sureLadder.f k a0 a1 a2 a3 a4) (spec_l1Cur_sureLadder.f (k + 1) a0 a1 a2 a3 a4) := by
 intro a0 a1 a2 a3 a4 k
 have ih0 := spec_l1Cur_sureLadder.mono_l k
 unfold spec_l1Cur_sureLadder.f
 repeat' first | (with_reducible first | exact ih0 _ _ _ _ _ _ | exact LeO.refl _ | exact LeO.none _ | refine LeO.ite ?_ ?_ | refine LeO.bind ?_ (fun _ => ?_))
def spec_l1Cur_sureLadder.T5 : Bool × List (List Nat × List Nat) := (true, [([], []), ([0], [0]), ([], []), ([], []), ([3], [3]), ([4], [4]), ([2, 5], [2, 5]), ([6], [6]), ([1, 7, 6], [1, 7]), ([0, 1, 2, 3, 4, 5, 6, 7, 8], []), ([9, 8, 8, 0, 1, 2, 3, 4, 5, 6, 7, 8], [8, 9])])
def spec_l1Cur_sureLadder.B5 : List Nat := [0, 1, 0, 0, 8, 24, 60, 124, 255, 511, 1023]
theorem spec_l1Cur_sureLadder.tab5 : rtab .any (opsOf Tryz.f79 5) = spec_l1Cur_sureLadder.T5 := by kernel_rfl
theorem spec_l1Cur_sureLadder.bits5 : waitsOk spec_l1Cur_sureLadder.T5.2 spec_l1Cur_sureLadder.B5 = true := by kernel_rfl
theorem spec_l1Cur_sureLadder.calls (k : Nat) (g : Nat) (s0_0 : List Int) (s0_1 : Int) (s0_2 : Int) (a1 : Int) (a2 : Int) (r1 : Int) (r2 : List Int) (r3 : Int) (r4 : Int) (w0 w : World) (hI : IsS76 w0 w g s0_0 s0_1 s0_2) (hB : Below w0.heap.size w0 w) (h : spec_l1Cur_sureLadder.f k s0_0 s0_1 s0_2 a1 a2 = some (r1, r2, r3, r4)) :
  Calls Tryz.prog 79 #[.pointer (some ⟨g, 0, none⟩), .int .i64 a1, .int .i64 a2] w fun e w' => ∃ v1_ : Value, e = .returned (.agg #[.int .i64 r1, v1_]) ∧ Kd.R (Kd.int .i64) 3 w' w.heap.size (fun _ => True) v1_ r2 ∧ IsS76 w0 w' g s0_0 r3 r4 ∧ Below w0.heap.size w0 w' ∧ KeepBut w w' g none := by
 have hu26 := Tryz.underlying26
 have HI0 := am hI
 have HK := am (KeepBut.refl w g none)
 have HL := am hB.size
 clear hI
 have HW0 := am hB.size
 have HB := am hB
 clear hB
 unfold spec_l1Cur_sureLadder.f at h
 have H := h
 clear h
 replace H := Option.bind_eq_some_iff.mp H
 obtain ⟨⟨t113, t114, t115⟩, A40, H⟩ := H
 (try dsimp only at H)
 have A4 := am A40
 clear A40
 replace H := Option.bind_eq_some_iff.mp H
 obtain ⟨⟨t117, t118, t119⟩, A50, H⟩ := H
 (try dsimp only at H)
 have A5 := am A50
 clear A50
 have H' := am H
 clear H
 go_enter Tryz.func79, Tryz.ntmps79
 go_wp2_with (first | ((with_reducible refine gate_dst (N := 6) rfl ?_); refine zE 6 (cs := #[.int .i64 0, .slice none 0 0]) 26 ?_; intro gb112 hg w6 hbox hb; have BK112 := am (hbox); have GW112 := am ((zq53 : w.heap.size ≤ gb112)); have GE112 := am ((Nat.le_trans HW0.out (zq53 : w.heap.size ≤ gb112) : w0.heap.size ≤ gb112)); have NB0_112 := am ((zq76 : g ≠ gb112)); have NB112_0 := am ((zq77 : gb112 ≠ g)); replace HK := am (KeepBut.trans zq3 (KeepBut.of_below hb g none) (.inl rfl)); replace HB := am (below_step zq5 hb); replace HI0 := am (IsS76.below zq2 hb); clear hb hbox hg) | ((with_reducible refine gate_callee (f := 70) rfl ?_); refine goesL_ (some 12) rfl rfl Tryz.func70 zq15 rfl #[.pointer (some ⟨g, 0, none⟩), .int .i64 (wrap64 (a1 - 1))] rfl zq0 ?_; (with_reducible refine (spec_l1Cur_pick.calls g s0_0 s0_1 s0_2 (wrap64 (a1 - 1)) t113 t114 t115 w0 _ ?side1 ?side2 A4.out).mono ?_); (case side1 => exact zq4); (case side2 => exact zq8); rintro e w7 ⟨rfl, hi, hb, hk⟩; refine ⟨_, rfl, ?_⟩; replace BK112 := am (KeepBut.blk hk (g' := gb112) (o := .cells #[.int .i64 0, .slice none 0 0] 26 (0, 0)) (pKq BK112) NB112_0.out zq42); replace HK := am (KeepBut.trans zq54 hk (.inl rfl)); replace HB := am (hb); replace HI0 := am (hi); (try clear hb hk hi)) | ((with_reducible refine gate_dst (N := 7) rfl ?_); refine zE 7 (cs := #[.int .i64 0, .slice none 0 0]) 26 ?_; intro gb116 hg w8 hbox hb; have BK116 := am (hbox); have GW116 := am ((by rw [hg]; exact (keep_size (w := w) (g := g) (row := none) zq54) : w.heap.size ≤ gb116)); have GE116 := am ((Nat.le_trans HW0.out (by rw [hg]; exact (keep_size (w := w) (g := g) (row := none) zq54) : w.heap.size ≤ gb116) : w0.heap.size ≤ gb116)); have NB112_116 := am ((by rw [hg]; exact Nat.ne_of_lt (blk_lt (pKq BK112)) : gb112 ≠ gb116)); have NB116_112 := am ((by rw [hg]; exact Nat.ne_of_gt (blk_lt (pKq BK112)) : gb116 ≠ gb112)); have NB0_116 := am ((by rw [hg]; exact Nat.ne_of_lt (IsS76.lt (show IsS76 w0 _ g s0_0 t114 t115 from zq4)) : g ≠ gb116)); have NB116_0 := am ((by rw [hg]; exact Nat.ne_of_gt (IsS76.lt (show IsS76 w0 _ g s0_0 t114 t115 from zq4)) : gb116 ≠ g)); replace BK112 := sK BK112 hb; replace HK := am (KeepBut.trans zq54 (KeepBut.of_below hb g none) (.inl rfl)); replace HB := am (below_step zq8 hb); replace HI0 := am (IsS76.below zq4 hb); clear hb hbox hg; have hnb9 := NB116_112.out; have hnc9 := NB112_116.out; have hnb10 := NB116_0.out; have hnc10 := NB0_116.out; obtain ⟨hcz11_0, hcz11_1, hfz11_0, hfz11_1⟩ := sC BK116) | ((with_reducible refine gate_callee (f := 70) rfl ?_); refine goesL_ (some 18) rfl rfl Tryz.func70 zq15 rfl #[.pointer (some ⟨g, 0, none⟩), .int .i64 (wrap64 (a2 + 1))] rfl zq0 ?_; (with_reducible refine (spec_l1Cur_pick.calls g s0_0 t114 t115 (wrap64 (a2 + 1)) t117 t118 t119 w0 _ ?side1 ?side2 A5.out).mono ?_); (case side1 => exact zq4); (case side2 => exact zq8); rintro e w12 ⟨rfl, hi, hb, hk⟩; refine ⟨_, rfl, ?_⟩; replace BK112 := am (KeepBut.blk hk (g' := gb112) (o := .cells #[.int .i64 0, .slice none 0 0] 26 (0, 0)) (by (with_reducible repeat (first | refine blk_drewN ?_ _ | refine blk_drew ?_ | refine blk_alloc ?_ _)); refine blk_far ?_ NB112_116.out _; (with_reducible repeat (first | refine blk_drewN ?_ _ | refine blk_drew ?_ | refine blk_alloc ?_ _)); refine blk_far ?_ NB112_116.out _; (with_reducible repeat (first | refine blk_drewN ?_ _ | refine blk_drew ?_ | refine blk_alloc ?_ _)); exact BK112.out) NB112_0.out zq42); replace BK116 := am (KeepBut.blk hk (g' := gb116) (o := .cells #[.int .i64 (wrap64 (2 + t113)), .slice none 0 0] 26 (0, 0)) (by (with_reducible repeat (first | refine blk_drewN ?_ _ | refine blk_drew ?_ | refine blk_alloc ?_ _)); refine blk_put (cs := #[.int .i64 (wrap64 (2 + t113)), .slice none 0 0]) ?_ 1 _ rfl; (with_reducible repeat (first | refine blk_drewN ?_ _ | refine blk_drew ?_ | refine blk_alloc ?_ _)); refine blk_put (cs := #[.int .i64 0, .slice none 0 0]) ?_ 0 _ rfl; (with_reducible repeat (first | refine blk_drewN ?_ _ | refine blk_drew ?_ | refine blk_alloc ?_ _)); exact BK116.out) NB116_0.out zq42); replace HK := am (KeepBut.trans zq24 hk (.inl rfl)); replace HB := am (hb); replace HI0 := am (hi); (try clear hb hk hi)))
 go_loopg [8] k (fun kq v8 w' => ∃ (x8_1 : Int) (x1001_1 : Int) (x1002_1 : Int) (x117001_1 : List Int) (u117001 : Value), v8 = .int .i64 x8_1 ∧ Aside0 (spec_l1Cur_sureLadder.l0 kq x8_1 s0_0 x1001_1 x1002_1 (wrap64 (2 + t113)) x117001_1 = some (r1, r2, r3, r4)) ∧ Aside0 (kq ≤ k) ∧ Aside0 (Kd.R (Kd.int .i64) 3 w' w.heap.size (fun _ => True) u117001 x117001_1) ∧ Aside0 (w'.heap[gb112]? = some (.cells #[.int .i64 0, (.slice none 0 0)] 26 (0, 0))) ∧ Aside0 (w'.heap[gb116]? = some (.cells #[.int .i64 (wrap64 (2 + t113)), u117001] 26 (0, 0))) ∧ Aside0 (IsS76 w0 w' g s0_0 x1001_1 x1002_1) ∧ Aside0 (KeepBut w w' g none) ∧ Aside0 (Below w0.heap.size w0 w'))
 case atStart => exact ⟨(t117), (t118), (t119), (([] : List Int)), (.slice none 0 0), zq10, H', ⟨Nat.le_refl _⟩, ⟨zq11⟩, ⟨by (with_reducible repeat (first | refine blk_drewN ?_ _ | refine blk_drew ?_ | refine blk_alloc ?_ _)); exact BK112.out⟩, ⟨by (with_reducible repeat (first | refine blk_drewN ?_ _ | refine blk_drew ?_ | refine blk_alloc ?_ _)); exact BK116.out⟩, ⟨zq4⟩, ⟨zq24⟩, ⟨zq8⟩⟩
 case round =>
  clear H'
  obtain ⟨x8_1, x1001_1, x1002_1, x117001_1, u117001, rfl, HA, HK1, HO_117001, BK112, BK116, HI0, HK, HB⟩ := hrel
  cases gk with
  | zero => exact absurd HA.out (by simp [spec_l1Cur_sureLadder.l0])
  | succ k1 =>
   have H := HA.out
   clear HA
   simp only [spec_l1Cur_sureLadder.l0] at H
   by_cases c13 : x8_1 > 0
   ·rw [if_pos c13] at H
    have c13b0 : decide (0 < x8_1) = true := decide_eq_true c13
    clear c13
    replace H := Option.bind_eq_some_iff.mp H
    obtain ⟨⟨t120, t121, t122⟩, A140, H⟩ := H
    (try dsimp only at H)
    have A14 := am A140
    clear A140
    obtain ⟨c15, H⟩ := zI H
    have LMc15 := am c15
    clear c15
    obtain ⟨y123, Ny123⟩ : ∃ y_ : List Int, Aside0 (y_ = (x117001_1 ++ [t120])) := ⟨_, ⟨rfl⟩⟩
    rw [← Ny123.out] at H
    have H' := am H
    clear H
    try go_wp2
    replace HO_117001 := am (Kd.R_drew HO_117001.out)
    replace BK112 := am (blk_drew BK112.out)
    replace BK116 := am (blk_drew BK116.out)
    replace HI0 := am (IsS76.drew HI0.out)
    replace HK := am (keep_drew HK.out)
    replace HB := am (below_drew1 HB.out)
    refine start_ (n := 11) (S := fun w' => w'.cell? ⟨gb116, 0, none⟩ = some (.int .i64 (wrap64 (2 + t113))) ∧ w'.cell? ⟨gb116, 1, none⟩ = some (u117001)) (ds := [10]) #[false, false, false, false, false, false, false, false, false, false, false] zq15 rfl rfl ⟨(blk_cell BK116.out 0).trans rfl, (blk_cell BK116.out 1).trans rfl⟩ (fun hHeld => ?_); refine with_tabW spec_l1Cur_sureLadder.tab5 spec_l1Cur_sureLadder.bits5 (fun HT_ HW_ => ?_)
    generalize wr.drew = w16 at HO_117001 BK112 BK116 HI0 HK HB hHeld ⊢
    refine zU 0 23 HT_ ?_
    refine zU 2 25 HT_ ?_
    refine zU 3 26 HT_ ?_
    refine zT 1 24 HT_ HW_ hHeld ?_
    refine zT 4 27 HT_ HW_ hHeld ?_
    refine zU 5 28 HT_ ?_
    refine zO 6 29 HT_ fun K hK => ?_
    refine goes_ Tryz.func70 zq15 rfl #[.pointer (some ⟨g, 0, none⟩), .int .i64 (wrap64 ((wrap64 (2 + t113)) - 1))] (by rfl) rfl rfl zq0 ?_
    with_reducible refine (spec_l1Cur_pick.calls g s0_0 x1001_1 x1002_1 (wrap64 ((wrap64 (2 + t113)) - 1)) t120 t121 t122 w0 _ ?side1 ?side2 A14.out).mono ?_
    (case side1 => exact zq4)
    (case side2 => exact zq8)
    rintro e w17 ⟨rfl, hi, hb, hk⟩
    refine ⟨_, rfl, ?_⟩
    replace HO_117001 := am (Kd.R_mono (Kd.R_keep (IsS76.apart (show IsS76 w0 _ g s0_0 x1001_1 x1002_1 from zq4) (pRq HO_117001) zq27) hk (fun _ h => h.2)) (fun _ h => h.1))
    replace BK112 := am (KeepBut.blk hk (g' := gb112) (o := .cells #[.int .i64 0, .slice none 0 0] 26 (0, 0)) (pKq BK112) NB112_0.out zq42)
    replace BK116 := am (KeepBut.blk hk (g' := gb116) (o := .cells #[.int .i64 (wrap64 (2 + t113)), u117001] 26 (0, 0)) (pKq BK116) NB116_0.out zq42)
    replace HK := am (KeepBut.trans zq24 hk (.inl rfl))
    replace HB := am (hb)
    replace HI0 := am (hi)
    (try clear hb)
    (try clear hb2)
    (try clear hk)
    (try clear hi)
    refine hK.out _ _ ⟨(blk_cell BK116.out 0).trans rfl, (blk_cell BK116.out 1).trans rfl⟩ (fun hHeld => ?_)
    clear hK K
    refine zN 29 ?_
    refine zO 7 30 HT_ fun K hK => ?_
    refine value_ (w1 := ?_) (v := ?_) (by rfl) rfl ?_ ?_
    rotate_left 2
    ·go_simp
     constructor
     ·rfl
     ·rfl
    refine hK.out _ _ ⟨(blk_cell (blk_alloc BK116.out _) 0).trans rfl, (blk_cell (blk_alloc BK116.out _) 1).trans rfl⟩ (fun hHeld => ?_)
    clear hK K
    refine zN 30 ?_
    refine zO 8 31 HT_ fun K hK => ?_
    refine Kd.R_append_step (Kd.int .i64) w.heap.size (by rfl) (.tmp 24) (.tmp 30) 24 3 (.int .i64 0) 8 rfl Tryz.underlying24 info3 rfl zq27 zq32 u117001 x117001_1 t120 [.int .i64 t120] (fun _ => True) (fun _ => False) rfl rfl ?aP (fun _ hk => hk.elim) ?aF ?aO (Below.refl _ _) ?aS ?aL ?_
    (case aP => exact rfl)
    (case aF => exact zq99)
    (case aO => exact (pRq HO_117001))
    (case aS => exact (keep_size (w := w) (g := g) (row := none) zq24))
    (case aL => have := LMc15.out; omega)
    intro v124 w18 ho hb hg hat
    rw [← Ny123.out] at ho
    have HO125 := am (ho)
    replace BK112 := am (blk_grown (g := gb112) (o := .cells #[.int .i64 0, .slice none 0 0] 26 (0, 0)) (pKq BK112) hg (Kd.R_ne HO_117001.out BK112.out zq27))
    replace BK116 := am (blk_grown (g := gb116) (o := .cells #[.int .i64 (wrap64 (2 + t113)), u117001] 26 (0, 0)) (pKq BK116) hg (Kd.R_ne HO_117001.out BK116.out zq27))
    replace HB := am (below_weaken zq8 HL.out hb)
    replace HI0 := am (IsS76.grown zq4 hg (IsS76.own_ne HI0.out HO_117001.out zq27))
    replace HK := am (KeepBut.trans zq24 (KeepBut.of_grown hg g) (Kd.R_base2 HO_117001.out))
    clear HO_117001
    clear ho hb hg hat
    obtain ⟨Ao19, co19, eo19⟩ := Kd.R_slice HO125.out
    (first | subst eo19 | (injection eo19 with f1_ f2_ f3_; have f4_ := f1_.symm; have f5_ := f3_.symm; clear f1_ f2_ f3_; subst f4_; subst f5_))
    refine hK.out _ _ ⟨(blk_cell BK116.out 0).trans rfl, (blk_cell BK116.out 1).trans rfl⟩ (fun hHeld => ?_)
    clear hK K
    refine zN 31 ?_
    refine zU 9 32 HT_ ?_
    refine last_ (i := 10) (N := none) #[true, true, true, true, true, true, true, true, true, true, true] rfl rfl (one_of HT_.out zq15) zq27 (fun K hK => ?_)
    have hs20 : w18.cell? ⟨gb116, 1, none⟩ = some (u117001) := (blk_cell BK116.out 1).trans rfl
    have hfs20 := blk_frozen BK116.out 1
    have hns20_0 := NB112_116.out
    have hms20_0 := NB116_112.out
    refine skip_ (w1 := ?_) (by rfl) rfl ?_ ?_
    rotate_left
    ·go_simp
     rfl
    refine hK.out _ _ ?_
    clear hK K
    refine done_ (done_of HT_.out zq15) ?_
    try go_wp2
    go_roundg k1
    case measure => have := HK1.out; omega
    case rel => exact ⟨(wrap64 (x8_1 - 1)), (t121), (t122), (y123), (.slice Ao19 y123.length co19), zq10, H', ⟨zq82⟩, ⟨by (with_reducible repeat (first | apply Kd.R_alloc | apply Kd.R_drewN | apply Kd.R_drew)); exact Kd.R_mono (Kd.R_far (p := ⟨gb116, 1, none⟩) (Kd.R_types HO125.out BK116.out zq27) (fun _ hk => hk.2) (.slice Ao19 y123.length co19)) (fun _ hk => trivial)⟩, ⟨by (with_reducible repeat (first | refine blk_drewN ?_ _ | refine blk_drew ?_ | refine blk_alloc ?_ _)); refine blk_far ?_ NB112_116.out _; (with_reducible repeat (first | refine blk_drewN ?_ _ | refine blk_drew ?_ | refine blk_alloc ?_ _)); exact BK112.out⟩, ⟨by (with_reducible repeat (first | refine blk_drewN ?_ _ | refine blk_drew ?_ | refine blk_alloc ?_ _)); refine blk_put (cs := #[.int .i64 (wrap64 (2 + t113)), u117001]) ?_ 1 _ rfl; (with_reducible repeat (first | refine blk_drewN ?_ _ | refine blk_drew ?_ | refine blk_alloc ?_ _)); exact BK116.out⟩, ⟨zq4⟩, ⟨zq24⟩, ⟨zq8⟩⟩
   ·rw [if_neg c13] at H
    have c13b0 : decide (0 < x8_1) = false := decide_eq_false c13
    clear c13
    simp only [Option.some.injEq, Prod.mk.injEq] at H
    obtain ⟨rfl, rfl, rfl, rfl⟩ := H
    have hnb21 := NB116_112.out
    have hnc21 := NB112_116.out
    have hnb22 := NB116_0.out
    have hnc22 := NB0_116.out
    obtain ⟨hcz23_0, hcz23_1, hfz23_0, hfz23_1⟩ := sC BK116
    have hnb24 := NB112_0.out
    have hnc24 := NB0_112.out
    obtain ⟨hcz25_0, hcz25_1, hfz25_0, hfz25_1⟩ := sC BK112
    obtain ⟨Ao26, co26, eo26⟩ := Kd.R_slice HO_117001.out
    subst eo26
    go_wp2
    refine bodyPost_ret (results_cell_row rfl _ _ gb112 26 #[.int .i64 (wrap64 (2 + t113)), .slice Ao26 x117001_1.length co26] (0, 0) _ rfl (by (with_reducible repeat (first | refine blk_drewN ?_ _ | refine blk_drew ?_ | refine blk_alloc ?_ _)); refine blk_put (cs := #[.int .i64 (wrap64 (2 + t113)), .slice none 0 0]) ?_ 1 _ rfl; (with_reducible repeat (first | refine blk_drewN ?_ _ | refine blk_drew ?_ | refine blk_alloc ?_ _)); refine blk_put (cs := #[.int .i64 0, .slice none 0 0]) ?_ 0 _ rfl; (with_reducible repeat (first | refine blk_drewN ?_ _ | refine blk_drew ?_ | refine blk_alloc ?_ _)); exact BK112.out) Tryz.underlying26 rfl zq15) rfl ?_
    exact ⟨_, zq6, by (with_reducible repeat (first | apply Kd.R_alloc | apply Kd.R_drewN | apply Kd.R_drew)); exact Kd.R_mono (Kd.R_far (p := ⟨gb112, 1, none⟩) (Kd.R_far (p := ⟨gb112, 0, none⟩) (Kd.R_types HO_117001.out BK112.out zq27) (fun _ hk => hk.2) (.int .i64 (wrap64 (2 + t113)))) (fun _ hk => hk.2) (.slice Ao26 x117001_1.length co26)) (fun _ hk => trivial), zq4, zq8, zq24⟩
/-! ### spec_l1Cur_ladder: function 69 -/
def spec_l1Cur_ladder.f (k : Nat) (s0_0 : List Int) (s0_1 : Int) (s0_2 : Int) : Option (Int × List Int × Int × Int) := (spec_l1Cur_sureLadder.f k s0_0 s0_1 s0_2 6 12).bind fun bt127 => ((spec_l1Cur_pick.f s0_0 bt127.2.2.1 bt127.2.2.2 16).bind fun bt134 => (if bt134.1 = 0 then ((spec_l1Cur_among.f s0_0 bt134.2.1 bt134.2.2 (([(-1), wrap64 (bt127.1 - 1), 4611686018427387904] : List Int))).bind fun bt140 => (if bt127.2.1.length < 17592186044416 then (some (bt127.1, (bt127.2.1 ++ [bt140.1]), bt140.2.1, bt140.2.2)) else (none))) else (if bt134.1 = 1 then ((spec_l1Cur_among.f s0_0 bt134.2.1 bt134.2.2 (([1, 2, 8, 9, (-1)] : List Int))).bind fun bt149 => (some (bt149.1, bt127.2.1, bt149.2.1, bt149.2.2))) else (if bt134.1 = 2 then ((spec_l1Cur_pick.f s0_0 bt134.2.1 bt134.2.2 2).bind fun bt152 => (if 0 ≤ (wrap64 (60 + bt152.1)) then (if (wrap64 (60 + bt152.1) : Int).toNat ≤ 35184372088832 then (some (bt127.1, (List.replicate (wrap64 (60 + bt152.1) : Int).toNat 0), bt152.2.1, bt152.2.2)) else (none)) else (none))) else (some (bt127.1, bt127.2.1, bt134.2.1, bt134.2.2))))))
theorem spec_l1Cur_ladder.mono : ∀ a0 a1 a2 k, LeO (spec_l1Cur_ladder.f k a0 a1 a2) (spec_l1Cur_ladder.f (k + 1) a0 a1 a2) := by
 intro a0 a1 a2 k
 unfold spec_l1Cur_ladder.f
 repeat' first | (with_reducible first | exact spec_l1Cur_sureLadder.mono _ _ _ _ _ _ | exact LeO.refl _ | exact LeO.none _ | refine LeO.ite ?_ ?_ | refine LeO.bind ?_ (fun _ => ?_))
def spec_l1Cur_ladder.T4 : Bool × List (List Nat × List Nat) := (true, [([], []), ([0], [0]), ([], []), ([], []), ([3], [3]), ([4], [4]), ([5], [5]), ([2, 6], [2, 6]), ([7], [7]), ([1, 8, 7], [1, 8]), ([0, 1, 2, 3, 4, 5, 6, 7, 8, 9], []), ([10, 9, 9, 0, 1, 2, 3, 4, 5, 6, 7, 8, 9], [9, 10])])
def spec_l1Cur_ladder.B4 : List Nat := [0, 1, 0, 0, 8, 24, 56, 124, 252, 511, 1023, 2047]
theorem spec_l1Cur_ladder.tab4 : rtab .any (opsOf Tryz.f69 4) = spec_l1Cur_ladder.T4 := by kernel_rfl
theorem spec_l1Cur_ladder.bits4 : waitsOk spec_l1Cur_ladder.T4.2 spec_l1Cur_ladder.B4 = true := by kernel_rfl
theorem spec_l1Cur_ladder.calls (k : Nat) (g : Nat) (s0_0 : List Int) (s0_1 : Int) (s0_2 : Int) (r1 : Int) (r2 : List Int) (r3 : Int) (r4 : Int) (w0 w : World) (hI : IsS76 w0 w g s0_0 s0_1 s0_2) (hB : Below w0.heap.size w0 w) (h : spec_l1Cur_ladder.f k s0_0 s0_1 s0_2 = some (r1, r2, r3, r4)) :
  Calls Tryz.prog 69 #[.pointer (some ⟨g, 0, none⟩)] w fun e w' => ∃ v1_ : Value, e = .returned (.agg #[.int .i64 r1, v1_]) ∧ Kd.R (Kd.int .i64) 3 w' w.heap.size (fun _ => True) v1_ r2 ∧ IsS76 w0 w' g s0_0 r3 r4 ∧ Below w0.heap.size w0 w' ∧ KeepBut w w' g none := by
 have hu26 := Tryz.underlying26
 have HI0 := am hI
 have HK := am (KeepBut.refl w g none)
 have HL := am hB.size
 clear hI
 have HW0 := am hB.size
 have HB := am hB
 clear hB
 unfold spec_l1Cur_ladder.f at h
 have H := h
 clear h
 replace H := Option.bind_eq_some_iff.mp H
 obtain ⟨⟨t127, t128, t131, t132⟩, A20, H⟩ := H
 (try dsimp only at H)
 have A2 := am A20
 clear A20
 replace H := Option.bind_eq_some_iff.mp H
 obtain ⟨⟨t134, t135, t136⟩, A30, H⟩ := H
 (try dsimp only at H)
 have A3 := am A30
 clear A30
 by_cases c4 : t134 = 0
 ·rw [if_pos c4] at H
  have c4b0 : (t134 == 0) = true := beq_iff_eq.mpr c4
  have c4b1 : (t134 != 0) = false := bne_eq_false_iff_eq.mpr c4
  clear c4
  obtain ⟨y137, Ny137⟩ : ∃ y_ : List Int, Aside0 (y_ = (([(-1), wrap64 (t127 - 1), 4611686018427387904] : List Int))) := ⟨_, ⟨rfl⟩⟩
  rw [← Ny137.out] at H
  replace H := Option.bind_eq_some_iff.mp H
  obtain ⟨⟨t140, t141, t142⟩, A50, H⟩ := H
  (try dsimp only at H)
  have A5 := am A50
  clear A50
  obtain ⟨c6, H⟩ := zI H
  have LMc6 := am c6
  clear c6
  obtain ⟨y143, Ny143⟩ : ∃ y_ : List Int, Aside0 (y_ = (t128 ++ [t140])) := ⟨_, ⟨rfl⟩⟩
  rw [← Ny143.out] at H
  simp only [Option.some.injEq, Prod.mk.injEq] at H
  obtain ⟨rfl, rfl, rfl, rfl⟩ := H
  go_enter Tryz.func69, Tryz.ntmps69
  try go_wp2_with (first | ((with_reducible refine gate_dst (N := 2) rfl ?_); refine zE 2 (cs := #[.int .i64 0, .slice none 0 0]) 26 ?_; intro gb126 hg w7 hbox hb; have BK126 := am (hbox); have GW126 := am ((zq53 : w.heap.size ≤ gb126)); have GE126 := am ((Nat.le_trans HW0.out (zq53 : w.heap.size ≤ gb126) : w0.heap.size ≤ gb126)); have NB0_126 := am ((zq76 : g ≠ gb126)); have NB126_0 := am ((zq77 : gb126 ≠ g)); replace HK := am (KeepBut.trans zq3 (KeepBut.of_below hb g none) (.inl rfl)); replace HB := am (below_step zq5 hb); replace HI0 := am (IsS76.below zq2 hb); clear hb hbox hg) | ((with_reducible refine gate_callee (f := 79) rfl ?_); refine goesL_ (some 5) rfl rfl Tryz.func79 zq15 rfl #[.pointer (some ⟨g, 0, none⟩), .int .i64 6, .int .i64 12] rfl zq0 ?_; (with_reducible refine (spec_l1Cur_sureLadder.calls k g s0_0 s0_1 s0_2 6 12 t127 t128 t131 t132 w0 _ ?side1 ?side2 A2.out).mono ?_); (case side1 => exact zq4); (case side2 => exact zq8); rintro e w8 ⟨v129, rfl, ho0, hi, hb, hk⟩; refine ⟨_, rfl, ?_⟩; have HO130 := am (Kd.R_lower ho0 (keep_size (w := w) (g := g) (row := none) zq14)); replace BK126 := am (KeepBut.blk hk (g' := gb126) (o := .cells #[.int .i64 0, .slice none 0 0] 26 (0, 0)) (pKq BK126) NB126_0.out zq42); replace HK := am (KeepBut.trans zq14 hk (.inl rfl)); replace HB := am (hb); replace HI0 := am (hi); (try clear hb hk hi ho0)) | ((with_reducible refine gate_dst (N := 3) rfl ?_); refine zE 3 (cs := #[.int .i64 0, .slice none 0 0]) 26 ?_; intro gb133 hg w9 hbox hb; have BK133 := am (hbox); have GW133 := am ((zq66 : w.heap.size ≤ gb133)); have GE133 := am ((Nat.le_trans HW0.out (zq66 : w.heap.size ≤ gb133) : w0.heap.size ≤ gb133)); have NB126_133 := am ((zq107 : gb126 ≠ gb133)); have NB133_126 := am ((zq109 : gb133 ≠ gb126)); have NB0_133 := am ((zq86 : g ≠ gb133)); have NB133_0 := am ((zq87 : gb133 ≠ g)); replace HO130 := sR HO130 hb; replace BK126 := sK BK126 hb; replace HK := am (KeepBut.trans zq14 (KeepBut.of_below hb g none) (.inl rfl)); replace HB := am (below_step zq8 hb); replace HI0 := am (IsS76.below zq4 hb); clear hb hbox hg; have hnb10 := NB133_126.out; have hnc10 := NB126_133.out; have hnb11 := NB133_0.out; have hnc11 := NB0_133.out; obtain ⟨hcz12_0, hcz12_1, hfz12_0, hfz12_1⟩ := sC BK133; obtain ⟨Ao13, co13, eo13⟩ := Kd.R_slice HO130.out; subst eo13) | ((with_reducible refine gate_callee (f := 70) rfl ?_); refine goesL_ (some 7) rfl rfl Tryz.func70 zq15 rfl #[.pointer (some ⟨g, 0, none⟩), .int .i64 16] rfl zq0 ?_; (with_reducible refine (spec_l1Cur_pick.calls g s0_0 t131 t132 16 t134 t135 t136 w0 _ ?side1 ?side2 A3.out).mono ?_); (case side1 => exact zq4); (case side2 => exact zq8); rintro e w14 ⟨rfl, hi, hb, hk⟩; refine ⟨_, rfl, ?_⟩; replace BK126 := am (KeepBut.blk hk (g' := gb126) (o := .cells #[.int .i64 0, .slice none 0 0] 26 (0, 0)) zq26 NB126_0.out zq42); replace HO130 := am (Kd.R_mono (Kd.R_keep (IsS76.apart (show IsS76 w0 _ g s0_0 t131 t132 from zq4) (by (with_reducible repeat (first | apply Kd.R_alloc | apply Kd.R_drewN | apply Kd.R_drew)); exact (Kd.R_mono (Kd.R_far (p := ⟨gb133, 1, none⟩) (Kd.R_far (p := ⟨gb133, 0, none⟩) (Kd.R_types HO130.out BK133.out zq27) (fun _ hk => hk.2) (.int .i64 t127)) (fun _ hk => hk.2) (.slice Ao13 t128.length co13)) (fun _ h_ => h_.1))) zq27) hk (fun _ h => h.2)) (fun _ h => h.1)); replace BK133 := am (KeepBut.blk hk (g' := gb133) (o := .cells #[.int .i64 t127, .slice Ao13 t128.length co13] 26 (0, 0)) zq23 NB133_0.out zq42); replace HK := am (KeepBut.trans zq12 hk (.inl rfl)); replace HB := am (hb); replace HI0 := am (hi); (try clear hb hk hi)))
  replace HO130 := am (Kd.R_drew HO130.out)
  replace BK126 := am (blk_drew BK126.out)
  replace BK133 := am (blk_drew BK133.out)
  replace HI0 := am (IsS76.drew HI0.out)
  replace HK := am (keep_drew HK.out)
  replace HB := am (below_drew1 HB.out)
  refine start_ (n := 12) (S := fun w' => w'.cell? ⟨gb133, 0, none⟩ = some (.int .i64 t127) ∧ w'.cell? ⟨gb133, 1, none⟩ = some (.slice Ao13 t128.length co13)) (ds := [11]) #[false, false, false, false, false, false, false, false, false, false, false, false] zq15 rfl rfl ⟨(blk_cell BK133.out 0).trans rfl, (blk_cell BK133.out 1).trans rfl⟩ (fun hHeld => ?_); refine with_tabW spec_l1Cur_ladder.tab4 spec_l1Cur_ladder.bits4 (fun HT_ HW_ => ?_)
  generalize w14.drew = w15 at HO130 BK126 BK133 HI0 HK HB hHeld ⊢
  refine zU 0 10 HT_ ?_
  refine zU 2 12 HT_ ?_
  refine zU 3 13 HT_ ?_
  refine zT 1 11 HT_ HW_ hHeld ?_
  refine zT 4 14 HT_ HW_ hHeld ?_
  refine zU 5 15 HT_ ?_
  refine zO 6 16 HT_ fun K hK => ?_
  refine Kd.R_lit_step (Kd.int .i64) _ 3 ?hg (N := 16) ?hd (xs := ([(-1), wrap64 (t127 - 1), 4611686018427387904] : List Int)) (inner := [.int .i64 (-1), .int .i64 (wrap64 (t127 - 1)), .int .i64 4611686018427387904]) (ok := fun _ => True) (okp := fun _ => True) ?hr ?hp (fun _ hk => hk) trivial (Below.refl _ _) (Nat.le_refl _) zq42 ?_; (case hd => rfl); (case hg => rfl); (case hr => exact zq30); (case hp => exact (Reps.one (show Kd.M (Kd.int .i64) _ _ _ (-1) [.int .i64 (-1)] from rfl) (Reps.one (show Kd.M (Kd.int .i64) _ _ _ (wrap64 (t127 - 1)) [.int .i64 (wrap64 (t127 - 1))] from rfl) (Reps.one (show Kd.M (Kd.int .i64) _ _ _ 4611686018427387904 [.int .i64 4611686018427387904] from rfl) (Reps.none _ _)))))
  intro v138 w16 ho17 hb hg_ hnew_
  clear hg_ hnew_
  (first | rw [← Ny137.out] at ho17 | (simp only [Int.reduceToNat] at ho17; rw [← Ny137.out] at ho17))
  have HO139 := am (Kd.R_lower (Kd.R_new' ho17 (Kd.R_lt (pRq HO130))) (keep_size (w := w) (g := g) (row := none) zq12))
  replace HO130 := am (Kd.R_elder' (pRq HO130) (Kd.R_base ho17) hb)
  replace BK126 := sK BK126 hb
  replace BK133 := sK BK133 hb
  replace HK := am (KeepBut.trans zq12 (KeepBut.of_below hb g none) (.inl rfl))
  replace HB := am (below_step zq8 hb)
  replace HI0 := am (IsS76.below zq4 hb)
  clear hb ho17
  obtain ⟨Ao18, co18, eo18⟩ := Kd.R_slice HO139.out
  (first | subst eo18 | (injection eo18 with f1_ f2_ f3_; have f4_ := f1_.symm; have f5_ := f3_.symm; clear f1_ f2_ f3_; subst f4_; subst f5_))
  refine hK.out _ _ ⟨(blk_cell BK133.out 0).trans rfl, (blk_cell BK133.out 1).trans rfl⟩ (fun hHeld => ?_)
  clear hK K
  refine zN 16 ?_
  refine zO 7 17 HT_ fun K hK => ?_
  refine goes_ Tryz.func78 zq15 rfl #[.pointer (some ⟨g, 0, none⟩), .slice Ao18 y137.length co18] (by rfl) rfl rfl zq0 ?_
  with_reducible refine (spec_l1Cur_among.calls g s0_0 t135 t136 _ _ y137 t140 t141 t142 w0 _ ?side1 ?side2 ?side3 ?side4 ?side5 A5.out).mono ?_
  (case side1 => exact zq4)
  (case side2 => exact zq8)
  (case side3 => repeat (first | exact (Kd.R_reads' HO139.out).2.2 | (with_reducible refine Kd.C_alloc ?_ _) | (with_reducible refine Kd.C_drewN ?_ _) | (with_reducible refine Kd.C_drew ?_)))
  (case side4 => exact (Kd.R_reads' HO139.out).2.1)
  (case side5 => exact far_slice (IsS76.own_ne HI0.out HO139.out zq27))
  rintro e w19 ⟨rfl, hi, hb, hk⟩
  refine ⟨_, rfl, ?_⟩
  replace BK126 := am (KeepBut.blk hk (g' := gb126) (o := .cells #[.int .i64 0, .slice none 0 0] 26 (0, 0)) (pKq BK126) NB126_0.out zq42)
  replace HO130 := am (Kd.R_mono (Kd.R_keep (IsS76.apart (show IsS76 w0 _ g s0_0 t135 t136 from zq4) (pRq HO130) zq27) hk (fun _ h => h.2)) (fun _ h => h.1))
  replace BK133 := am (KeepBut.blk hk (g' := gb133) (o := .cells #[.int .i64 t127, .slice Ao13 t128.length co13] 26 (0, 0)) (pKq BK133) NB133_0.out zq42)
  replace HO139 := am (Kd.R_mono (Kd.R_keep (IsS76.apart (show IsS76 w0 _ g s0_0 t135 t136 from zq4) (pRq HO139) zq27) hk (fun _ h => h.2)) (fun _ h => h.1))
  replace HK := am (KeepBut.trans zq12 hk (.inl rfl))
  replace HB := am (hb)
  replace HI0 := am (hi)
  (try clear hb)
  (try clear hb2)
  (try clear hk)
  (try clear hi)
  refine hK.out _ _ ⟨(blk_cell BK133.out 0).trans rfl, (blk_cell BK133.out 1).trans rfl⟩ (fun hHeld => ?_)
  clear hK K
  refine zN 17 ?_
  refine zO 8 18 HT_ fun K hK => ?_
  refine value_ (w1 := ?_) (v := ?_) (by rfl) rfl ?_ ?_
  rotate_left 2
  ·go_simp
   constructor
   ·rfl
   ·rfl
  refine hK.out _ _ ⟨(blk_cell (blk_alloc BK133.out _) 0).trans rfl, (blk_cell (blk_alloc BK133.out _) 1).trans rfl⟩ (fun hHeld => ?_)
  clear hK K
  refine zN 18 ?_
  refine zO 9 19 HT_ fun K hK => ?_
  refine Kd.R_append_step (Kd.int .i64) w.heap.size (by rfl) (.tmp 11) (.tmp 18) 24 3 (.int .i64 0) 8 rfl Tryz.underlying24 info3 rfl zq27 zq32 (.slice Ao13 t128.length co13) t128 t140 [.int .i64 t140] (fun k_ => some k_ ≠ (.slice Ao18 y137.length co18 : Value).ownBlock) (fun _ => False) rfl rfl ?aP (fun _ hk => hk.elim) ?aF ?aO (Below.refl _ _) ?aS ?aL ?_
  (case aP => exact rfl)
  (case aF => exact (fun k_ hk => Kd.fresh' (Kd.R_lt (pRq HO139)) k_ hk))
  (case aO => exact (by (with_reducible repeat (first | apply Kd.R_alloc | apply Kd.R_drewN | apply Kd.R_drew)); exact Kd.R_mono HO130.out (fun _ hk => hk.2)))
  (case aS => exact (keep_size (w := w) (g := g) (row := none) zq12))
  (case aL => have := LMc6.out; omega)
  intro v144 w20 ho hb hg hat
  rw [← Ny143.out] at ho
  have HO145 := am (ho)
  replace BK126 := am (blk_grown (g := gb126) (o := .cells #[.int .i64 0, .slice none 0 0] 26 (0, 0)) (pKq BK126) hg (Kd.R_ne HO130.out BK126.out zq27))
  replace BK133 := am (blk_grown (g := gb133) (o := .cells #[.int .i64 t127, .slice Ao13 t128.length co13] 26 (0, 0)) (pKq BK133) hg (Kd.R_ne HO130.out BK133.out zq27))
  replace HO139 := am (Kd.R_after (ok := (fun _ => True)) (pRq HO139) hg hat)
  replace HB := am (below_weaken zq8 HL.out hb)
  replace HI0 := am (IsS76.grown zq4 hg (IsS76.own_ne HI0.out HO130.out zq27))
  replace HK := am (KeepBut.trans zq12 (KeepBut.of_grown hg g) (Kd.R_base2 HO130.out))
  clear HO130
  clear ho hb hg hat
  obtain ⟨Ao21, co21, eo21⟩ := Kd.R_slice HO145.out
  (first | subst eo21 | (injection eo21 with f1_ f2_ f3_; have f4_ := f1_.symm; have f5_ := f3_.symm; clear f1_ f2_ f3_; subst f4_; subst f5_))
  refine hK.out _ _ ⟨(blk_cell BK133.out 0).trans rfl, (blk_cell BK133.out 1).trans rfl⟩ (fun hHeld => ?_)
  clear hK K
  refine zN 19 ?_
  refine zU 10 20 HT_ ?_
  refine last_ (i := 11) (N := none) #[true, true, true, true, true, true, true, true, true, true, true, true] rfl rfl (one_of HT_.out zq15) zq27 (fun K hK => ?_)
  have hs22 : w20.cell? ⟨gb133, 1, none⟩ = some (.slice Ao13 t128.length co13) := (blk_cell BK133.out 1).trans rfl
  have hfs22 := blk_frozen BK133.out 1
  have hns22_0 := NB126_133.out
  have hms22_0 := NB133_126.out
  refine skip_ (w1 := ?_) (by rfl) rfl ?_ ?_
  rotate_left
  ·go_simp
   rfl
  refine hK.out _ _ ?_
  clear hK K
  refine done_ (done_of HT_.out zq15) ?_
  obtain ⟨hcz23_0, hcz23_1, hfz23_0, hfz23_1⟩ := sC BK133
  have hnb24 := NB126_0.out
  have hnc24 := NB0_126.out
  obtain ⟨hcz25_0, hcz25_1, hfz25_0, hfz25_1⟩ := sC BK126
  try go_wp2
  refine bodyPost_ret (results_cell_row rfl _ _ gb126 26 #[.int .i64 t127, .slice Ao21 y143.length co21] (0, 0) _ rfl zq50 Tryz.underlying26 rfl zq15) rfl ?_
  exact ⟨_, zq6, by (with_reducible repeat (first | apply Kd.R_alloc | apply Kd.R_drewN | apply Kd.R_drew)); exact Kd.R_mono (Kd.R_far (p := ⟨gb126, 1, none⟩) (Kd.R_far (p := ⟨gb126, 0, none⟩) (Kd.R_far (p := ⟨gb133, 1, none⟩) (Kd.R_types (Kd.R_types HO145.out BK133.out zq27) BK126.out zq27) (fun _ hk => hk.1.2) (.slice Ao21 y143.length co21)) (fun _ hk => hk.2) (.int .i64 t127)) (fun _ hk => hk.2) (.slice Ao21 y143.length co21)) (fun _ hk => trivial), zq4, zq8, zq12⟩
 ·rw [if_neg c4] at H
  have c4b0 : (t134 == 0) = false := beq_eq_false_iff_ne.mpr c4
  have c4b1 : (t134 != 0) = true := bne_iff_ne.mpr c4
  by_cases c26 : t134 = 1
  ·rw [if_pos c26] at H
   have c26b0 : (t134 == 1) = true := beq_iff_eq.mpr c26
   have c26b1 : (t134 != 1) = false := bne_eq_false_iff_eq.mpr c26
   clear c26
   obtain ⟨y146, Ny146⟩ : ∃ y_ : List Int, Aside0 (y_ = (([1, 2, 8, 9, (-1)] : List Int))) := ⟨_, ⟨rfl⟩⟩
   rw [← Ny146.out] at H
   replace H := Option.bind_eq_some_iff.mp H
   obtain ⟨⟨t149, t150, t151⟩, A270, H⟩ := H
   (try dsimp only at H)
   have A27 := am A270
   clear A270
   simp only [Option.some.injEq, Prod.mk.injEq] at H
   obtain ⟨rfl, rfl, rfl, rfl⟩ := H
   go_enter Tryz.func69, Tryz.ntmps69
   go_wp2_with (first | ((with_reducible refine gate_dst (N := 2) rfl ?_); refine zE 2 (cs := #[.int .i64 0, .slice none 0 0]) 26 ?_; intro gb126 hg w28 hbox hb; have BK126 := am (hbox); have GW126 := am ((zq53 : w.heap.size ≤ gb126)); have GE126 := am ((Nat.le_trans HW0.out (zq53 : w.heap.size ≤ gb126) : w0.heap.size ≤ gb126)); have NB0_126 := am ((zq76 : g ≠ gb126)); have NB126_0 := am ((zq77 : gb126 ≠ g)); replace HK := am (KeepBut.trans zq3 (KeepBut.of_below hb g none) (.inl rfl)); replace HB := am (below_step zq5 hb); replace HI0 := am (IsS76.below zq2 hb); clear hb hbox hg) | ((with_reducible refine gate_callee (f := 79) rfl ?_); refine goesL_ (some 5) rfl rfl Tryz.func79 zq15 rfl #[.pointer (some ⟨g, 0, none⟩), .int .i64 6, .int .i64 12] rfl zq0 ?_; (with_reducible refine (spec_l1Cur_sureLadder.calls k g s0_0 s0_1 s0_2 6 12 t127 t128 t131 t132 w0 _ ?side1 ?side2 A2.out).mono ?_); (case side1 => exact zq4); (case side2 => exact zq8); rintro e w29 ⟨v129, rfl, ho0, hi, hb, hk⟩; refine ⟨_, rfl, ?_⟩; have HO130 := am (Kd.R_lower ho0 (keep_size (w := w) (g := g) (row := none) zq14)); replace BK126 := am (KeepBut.blk hk (g' := gb126) (o := .cells #[.int .i64 0, .slice none 0 0] 26 (0, 0)) (pKq BK126) NB126_0.out zq42); replace HK := am (KeepBut.trans zq14 hk (.inl rfl)); replace HB := am (hb); replace HI0 := am (hi); (try clear hb hk hi ho0)) | ((with_reducible refine gate_dst (N := 3) rfl ?_); refine zE 3 (cs := #[.int .i64 0, .slice none 0 0]) 26 ?_; intro gb133 hg w30 hbox hb; have BK133 := am (hbox); have GW133 := am ((zq66 : w.heap.size ≤ gb133)); have GE133 := am ((Nat.le_trans HW0.out (zq66 : w.heap.size ≤ gb133) : w0.heap.size ≤ gb133)); have NB126_133 := am ((zq107 : gb126 ≠ gb133)); have NB133_126 := am ((zq109 : gb133 ≠ gb126)); have NB0_133 := am ((zq86 : g ≠ gb133)); have NB133_0 := am ((zq87 : gb133 ≠ g)); replace HO130 := sR HO130 hb; replace BK126 := sK BK126 hb; replace HK := am (KeepBut.trans zq14 (KeepBut.of_below hb g none) (.inl rfl)); replace HB := am (below_step zq8 hb); replace HI0 := am (IsS76.below zq4 hb); clear hb hbox hg; have hnb31 := NB133_126.out; have hnc31 := NB126_133.out; have hnb32 := NB133_0.out; have hnc32 := NB0_133.out; obtain ⟨hcz33_0, hcz33_1, hfz33_0, hfz33_1⟩ := sC BK133; obtain ⟨Ao34, co34, eo34⟩ := Kd.R_slice HO130.out; subst eo34) | ((with_reducible refine gate_callee (f := 70) rfl ?_); refine goesL_ (some 7) rfl rfl Tryz.func70 zq15 rfl #[.pointer (some ⟨g, 0, none⟩), .int .i64 16] rfl zq0 ?_; (with_reducible refine (spec_l1Cur_pick.calls g s0_0 t131 t132 16 t134 t135 t136 w0 _ ?side1 ?side2 A3.out).mono ?_); (case side1 => exact zq4); (case side2 => exact zq8); rintro e w35 ⟨rfl, hi, hb, hk⟩; refine ⟨_, rfl, ?_⟩; replace BK126 := am (KeepBut.blk hk (g' := gb126) (o := .cells #[.int .i64 0, .slice none 0 0] 26 (0, 0)) zq26 NB126_0.out zq42); replace HO130 := am (Kd.R_mono (Kd.R_keep (IsS76.apart (show IsS76 w0 _ g s0_0 t131 t132 from zq4) (by (with_reducible repeat (first | apply Kd.R_alloc | apply Kd.R_drewN | apply Kd.R_drew)); exact (Kd.R_mono (Kd.R_far (p := ⟨gb133, 1, none⟩) (Kd.R_far (p := ⟨gb133, 0, none⟩) (Kd.R_types HO130.out BK133.out zq27) (fun _ hk => hk.2) (.int .i64 t127)) (fun _ hk => hk.2) (.slice Ao34 t128.length co34)) (fun _ h_ => h_.1))) zq27) hk (fun _ h => h.2)) (fun _ h => h.1)); replace BK133 := am (KeepBut.blk hk (g' := gb133) (o := .cells #[.int .i64 t127, .slice Ao34 t128.length co34] 26 (0, 0)) zq23 NB133_0.out zq42); replace HK := am (KeepBut.trans zq12 hk (.inl rfl)); replace HB := am (hb); replace HI0 := am (hi); (try clear hb hk hi)) | ((with_reducible refine gate_dst (N := 24) rfl ?_); refine Kd.R_lit (Kd.int .i64) _ 3 ?hg (N := 24) ?hd (xs := ([1, 2, 8, 9, (-1)] : List Int)) (inner := [.int .i64 1, .int .i64 2, .int .i64 8, .int .i64 9, .int .i64 (-1)]) (ok := fun _ => True) (okp := fun _ => True) ?hr ?hp (fun _ hk => hk) trivial (Below.refl _ _) (Nat.le_refl _) zq42 ?_; (case hd => rfl); (case hg => rfl); (case hr => exact zq30); (case hp => exact (Reps.one (show Kd.M (Kd.int .i64) _ _ _ 1 [.int .i64 1] from rfl) (Reps.one (show Kd.M (Kd.int .i64) _ _ _ 2 [.int .i64 2] from rfl) (Reps.one (show Kd.M (Kd.int .i64) _ _ _ 8 [.int .i64 8] from rfl) (Reps.one (show Kd.M (Kd.int .i64) _ _ _ 9 [.int .i64 9] from rfl) (Reps.one (show Kd.M (Kd.int .i64) _ _ _ (-1) [.int .i64 (-1)] from rfl) (Reps.none _ _))))))); intro v147 w36 ho37 hb hg_ hnew_; clear hg_ hnew_; (first | rw [← Ny146.out] at ho37 | (simp only [Int.reduceToNat] at ho37; rw [← Ny146.out] at ho37)); have HO148 := am (Kd.R_lower (Kd.R_new' ho37 (Kd.R_lt (pRq HO130))) (keep_size (w := w) (g := g) (row := none) zq12)); replace HO130 := am (Kd.R_elder' (pRq HO130) (Kd.R_base ho37) hb); replace BK126 := sK BK126 hb; replace BK133 := sK BK133 hb; replace HK := am (KeepBut.trans zq12 (KeepBut.of_below hb g none) (.inl rfl)); replace HB := am (below_step zq8 hb); replace HI0 := am (IsS76.below zq4 hb); clear hb ho37; obtain ⟨Ao38, co38, eo38⟩ := Kd.R_slice HO148.out; subst eo38) | ((with_reducible refine gate_callee (f := 78) rfl ?_); refine goesL_ (some 25) rfl rfl Tryz.func78 zq15 rfl #[.pointer (some ⟨g, 0, none⟩), .slice Ao38 y146.length co38] rfl zq0 ?_; (with_reducible refine (spec_l1Cur_among.calls g s0_0 t135 t136 _ _ y146 t149 t150 t151 w0 _ ?side1 ?side2 ?side3 ?side4 ?side5 A27.out).mono ?_); (case side1 => exact zq4); (case side2 => exact zq8); (case side3 => repeat (first | exact (Kd.R_reads' HO148.out).2.2 | (with_reducible refine Kd.C_alloc ?_ _) | (with_reducible refine Kd.C_drewN ?_ _) | (with_reducible refine Kd.C_drew ?_))); (case side4 => exact (Kd.R_reads' HO148.out).2.1); (case side5 => exact far_slice (IsS76.own_ne HI0.out HO148.out zq27)); rintro e w39 ⟨rfl, hi, hb, hk⟩; refine ⟨_, rfl, ?_⟩; replace BK126 := am (KeepBut.blk hk (g' := gb126) (o := .cells #[.int .i64 0, .slice none 0 0] 26 (0, 0)) (pKq BK126) NB126_0.out zq42); replace HO130 := am (Kd.R_mono (Kd.R_keep (IsS76.apart (show IsS76 w0 _ g s0_0 t135 t136 from zq4) (pRq HO130) zq27) hk (fun _ h => h.2)) (fun _ h => h.1)); replace BK133 := am (KeepBut.blk hk (g' := gb133) (o := .cells #[.int .i64 t127, .slice Ao34 t128.length co34] 26 (0, 0)) (pKq BK133) NB133_0.out zq42); replace HO148 := am (Kd.R_mono (Kd.R_keep (IsS76.apart (show IsS76 w0 _ g s0_0 t135 t136 from zq4) (pRq HO148) zq27) hk (fun _ h => h.2)) (fun _ h => h.1)); replace HK := am (KeepBut.trans zq12 hk (.inl rfl)); replace HB := am (hb); replace HI0 := am (hi); (try clear hb hk hi); obtain ⟨hcz40_0, hcz40_1, hfz40_0, hfz40_1⟩ := sC BK133; have hnb41 := NB126_0.out; have hnc41 := NB0_126.out; obtain ⟨hcz42_0, hcz42_1, hfz42_0, hfz42_1⟩ := sC BK126))
   refine bodyPost_ret (results_cell_row rfl _ _ gb126 26 #[.int .i64 t149, .slice Ao34 t128.length co34] (0, 0) _ rfl (by (with_reducible repeat (first | refine blk_drewN ?_ _ | refine blk_drew ?_ | refine blk_alloc ?_ _)); refine blk_put (cs := #[.int .i64 t149, .slice none 0 0]) ?_ 1 _ rfl; (with_reducible repeat (first | refine blk_drewN ?_ _ | refine blk_drew ?_ | refine blk_alloc ?_ _)); refine blk_put (cs := #[.int .i64 0, .slice none 0 0]) ?_ 0 _ rfl; (with_reducible repeat (first | refine blk_drewN ?_ _ | refine blk_drew ?_ | refine blk_alloc ?_ _)); refine blk_far ?_ NB126_133.out _; (with_reducible repeat (first | refine blk_drewN ?_ _ | refine blk_drew ?_ | refine blk_alloc ?_ _)); exact BK126.out) Tryz.underlying26 rfl zq15) rfl ?_
   exact ⟨_, zq6, by (with_reducible repeat (first | apply Kd.R_alloc | apply Kd.R_drewN | apply Kd.R_drew)); exact Kd.R_mono (Kd.R_far (p := ⟨gb126, 1, none⟩) (Kd.R_far (p := ⟨gb126, 0, none⟩) (Kd.R_far (p := ⟨gb133, 0, none⟩) (Kd.R_types (Kd.R_types HO130.out BK133.out zq27) BK126.out zq27) (fun _ hk => hk.1.2) (.int .i64 t149)) (fun _ hk => hk.2) (.int .i64 t149)) (fun _ hk => hk.2) (.slice Ao34 t128.length co34)) (fun _ hk => trivial), zq4, zq8, zq12⟩
  ·rw [if_neg c26] at H
   have c26b0 : (t134 == 1) = false := beq_eq_false_iff_ne.mpr c26
   have c26b1 : (t134 != 1) = true := bne_iff_ne.mpr c26
   by_cases c43 : t134 = 2
   ·rw [if_pos c43] at H
    have c43b0 : (t134 == 2) = true := beq_iff_eq.mpr c43
    have c43b1 : (t134 != 2) = false := bne_eq_false_iff_eq.mpr c43
    clear c43
    replace H := Option.bind_eq_some_iff.mp H
    obtain ⟨⟨t152, t153, t154⟩, A440, H⟩ := H
    (try dsimp only at H)
    have A44 := am A440
    clear A440
    obtain ⟨ji45, hji45⟩ : ∃ j_ : Int, (wrap64 (60 + t152)) = j_ := ⟨_, rfl⟩
    replace H : (if 0 ≤ (ji45) then (if (ji45 : Int).toNat ≤ 35184372088832 then (some (t127, (List.replicate (ji45 : Int).toNat 0), t153, t154)) else (none)) else (none)) = some (r1, r2, r3, r4) := by first | (rw [hji45] at H; exact H) | (simp only [hji45] at H ⊢; exact H)
    (try rw [hji45] at A2)
    (try rw [hji45] at A3)
    (try rw [hji45] at A44)
    have hji45w : (IntKind.i64.wrap (60 + t152)) = ji45 := (i64_w _).trans hji45
    obtain ⟨c46, H⟩ := zI H
    have c46b0 := eq_true c46
    have c46b1 := decide_eq_true c46
    clear c46
    obtain ⟨c47, H⟩ := zI H
    have c47b0 := eq_true c47
    have c47b1 := decide_eq_true c47
    clear c47
    obtain ⟨y155, Ny155⟩ : ∃ y_ : List Int, Aside0 (y_ = (List.replicate (ji45 : Int).toNat 0)) := ⟨_, ⟨rfl⟩⟩
    rw [← Ny155.out] at H
    simp only [Option.some.injEq, Prod.mk.injEq] at H
    obtain ⟨rfl, rfl, rfl, rfl⟩ := H
    go_enter Tryz.func69, Tryz.ntmps69
    go_wp2_with (first | ((with_reducible refine gate_dst (N := 2) rfl ?_); refine zE 2 (cs := #[.int .i64 0, .slice none 0 0]) 26 ?_; intro gb126 hg w48 hbox hb; have BK126 := am (hbox); have GW126 := am ((zq53 : w.heap.size ≤ gb126)); have GE126 := am ((Nat.le_trans HW0.out (zq53 : w.heap.size ≤ gb126) : w0.heap.size ≤ gb126)); have NB0_126 := am ((zq76 : g ≠ gb126)); have NB126_0 := am ((zq77 : gb126 ≠ g)); replace HK := am (KeepBut.trans zq3 (KeepBut.of_below hb g none) (.inl rfl)); replace HB := am (below_step zq5 hb); replace HI0 := am (IsS76.below zq2 hb); clear hb hbox hg) | ((with_reducible refine gate_callee (f := 79) rfl ?_); refine goesL_ (some 5) rfl rfl Tryz.func79 zq15 rfl #[.pointer (some ⟨g, 0, none⟩), .int .i64 6, .int .i64 12] rfl zq0 ?_; (with_reducible refine (spec_l1Cur_sureLadder.calls k g s0_0 s0_1 s0_2 6 12 t127 t128 t131 t132 w0 _ ?side1 ?side2 A2.out).mono ?_); (case side1 => exact zq4); (case side2 => exact zq8); rintro e w49 ⟨v129, rfl, ho0, hi, hb, hk⟩; refine ⟨_, rfl, ?_⟩; have HO130 := am (Kd.R_lower ho0 (keep_size (w := w) (g := g) (row := none) zq14)); replace BK126 := am (KeepBut.blk hk (g' := gb126) (o := .cells #[.int .i64 0, .slice none 0 0] 26 (0, 0)) (pKq BK126) NB126_0.out zq42); replace HK := am (KeepBut.trans zq14 hk (.inl rfl)); replace HB := am (hb); replace HI0 := am (hi); (try clear hb hk hi ho0)) | ((with_reducible refine gate_dst (N := 3) rfl ?_); refine zE 3 (cs := #[.int .i64 0, .slice none 0 0]) 26 ?_; intro gb133 hg w50 hbox hb; have BK133 := am (hbox); have GW133 := am ((zq66 : w.heap.size ≤ gb133)); have GE133 := am ((Nat.le_trans HW0.out (zq66 : w.heap.size ≤ gb133) : w0.heap.size ≤ gb133)); have NB126_133 := am ((zq107 : gb126 ≠ gb133)); have NB133_126 := am ((zq109 : gb133 ≠ gb126)); have NB0_133 := am ((zq86 : g ≠ gb133)); have NB133_0 := am ((zq87 : gb133 ≠ g)); replace HO130 := sR HO130 hb; replace BK126 := sK BK126 hb; replace HK := am (KeepBut.trans zq14 (KeepBut.of_below hb g none) (.inl rfl)); replace HB := am (below_step zq8 hb); replace HI0 := am (IsS76.below zq4 hb); clear hb hbox hg; have hnb51 := NB133_126.out; have hnc51 := NB126_133.out; have hnb52 := NB133_0.out; have hnc52 := NB0_133.out; obtain ⟨hcz53_0, hcz53_1, hfz53_0, hfz53_1⟩ := sC BK133; obtain ⟨Ao54, co54, eo54⟩ := Kd.R_slice HO130.out; subst eo54) | ((with_reducible refine gate_callee (f := 70) rfl ?_); refine goesL_ (some 7) rfl rfl Tryz.func70 zq15 rfl #[.pointer (some ⟨g, 0, none⟩), .int .i64 16] rfl zq0 ?_; (with_reducible refine (spec_l1Cur_pick.calls g s0_0 t131 t132 16 t134 t135 t136 w0 _ ?side1 ?side2 A3.out).mono ?_); (case side1 => exact zq4); (case side2 => exact zq8); rintro e w55 ⟨rfl, hi, hb, hk⟩; refine ⟨_, rfl, ?_⟩; replace BK126 := am (KeepBut.blk hk (g' := gb126) (o := .cells #[.int .i64 0, .slice none 0 0] 26 (0, 0)) zq26 NB126_0.out zq42); replace HO130 := am (Kd.R_mono (Kd.R_keep (IsS76.apart (show IsS76 w0 _ g s0_0 t131 t132 from zq4) (by (with_reducible repeat (first | apply Kd.R_alloc | apply Kd.R_drewN | apply Kd.R_drew)); exact (Kd.R_mono (Kd.R_far (p := ⟨gb133, 1, none⟩) (Kd.R_far (p := ⟨gb133, 0, none⟩) (Kd.R_types HO130.out BK133.out zq27) (fun _ hk => hk.2) (.int .i64 t127)) (fun _ hk => hk.2) (.slice Ao54 t128.length co54)) (fun _ h_ => h_.1))) zq27) hk (fun _ h => h.2)) (fun _ h => h.1)); replace BK133 := am (KeepBut.blk hk (g' := gb133) (o := .cells #[.int .i64 t127, .slice Ao54 t128.length co54] 26 (0, 0)) zq23 NB133_0.out zq42); replace HK := am (KeepBut.trans zq12 hk (.inl rfl)); replace HB := am (hb); replace HI0 := am (hi); (try clear hb hk hi)) | ((with_reducible refine gate_callee (f := 70) rfl ?_); refine goesL_ (some 30) rfl rfl Tryz.func70 zq15 rfl #[.pointer (some ⟨g, 0, none⟩), .int .i64 2] rfl zq0 ?_; (with_reducible refine (spec_l1Cur_pick.calls g s0_0 t135 t136 2 t152 t153 t154 w0 _ ?side1 ?side2 A44.out).mono ?_); (case side1 => exact zq4); (case side2 => exact zq8); rintro e w56 ⟨rfl, hi, hb, hk⟩; refine ⟨_, rfl, ?_⟩; replace BK126 := am (KeepBut.blk hk (g' := gb126) (o := .cells #[.int .i64 0, .slice none 0 0] 26 (0, 0)) (pKq BK126) NB126_0.out zq42); replace HO130 := am (Kd.R_mono (Kd.R_keep (IsS76.apart (show IsS76 w0 _ g s0_0 t135 t136 from zq4) (pRq HO130) zq27) hk (fun _ h => h.2)) (fun _ h => h.1)); replace BK133 := am (KeepBut.blk hk (g' := gb133) (o := .cells #[.int .i64 t127, .slice Ao54 t128.length co54] 26 (0, 0)) (pKq BK133) NB133_0.out zq42); replace HK := am (KeepBut.trans zq12 hk (.inl rfl)); replace HB := am (hb); replace HI0 := am (hi); (try clear hb hk hi)) | ((with_reducible refine gate_dst (N := 32) rfl ?_); refine Kd.R_make (Kd.int .i64) _ 3 rfl (N := 32) rfl 24 _ _ rfl ji45 rfl rfl Tryz.underlying24 (.int .i64 0) 8 info3 rfl zq27 zq32 0 (ok := fun _ => True) (okp := fun _ => True) rfl (fun _ hk => hk) trivial (of_decide_eq_true zq9) (Nat.le_trans (Nat.mul_le_mul_right _ (of_decide_eq_true zq9 : ji45.toNat ≤ 35184372088832)) zq32) (Below.refl _ _) (Nat.le_refl _) ?_; intro v156 w57 ho58 hb hg_ hnew_; clear hg_ hnew_; (first | rw [← Ny155.out] at ho58 | (simp only [Int.reduceToNat] at ho58; rw [← Ny155.out] at ho58)); have HO157 := am (Kd.R_lower (Kd.R_new' ho58 (Kd.R_lt (pRq HO130))) (keep_size (w := w) (g := g) (row := none) zq12)); replace HO130 := am (Kd.R_elder' (pRq HO130) (Kd.R_base ho58) hb); replace BK126 := sK BK126 hb; replace BK133 := sK BK133 hb; replace HK := am (KeepBut.trans zq12 (KeepBut.of_below hb g none) (.inl rfl)); replace HB := am (below_step zq8 hb); replace HI0 := am (IsS76.below zq4 hb); clear hb ho58; obtain ⟨Ao59, co59, eo59⟩ := Kd.R_slice HO157.out; subst eo59; obtain ⟨hcz60_0, hcz60_1, hfz60_0, hfz60_1⟩ := sC BK133; have hnb61 := NB126_0.out; have hnc61 := NB0_126.out; obtain ⟨hcz62_0, hcz62_1, hfz62_0, hfz62_1⟩ := sC BK126))
    refine bodyPost_ret (results_cell_row rfl _ _ gb126 26 #[.int .i64 t127, .slice Ao59 y155.length co59] (0, 0) _ rfl zq50 Tryz.underlying26 rfl zq15) rfl ?_
    exact ⟨_, by first | rfl | (simp [errW_none, errW_some] <;> rfl) | (simp only [← hji45]; first | rfl | (simp [errW_none, errW_some] <;> rfl)) | (simp [*, errW_none, errW_some] <;> rfl), by (with_reducible repeat (first | apply Kd.R_alloc | apply Kd.R_drewN | apply Kd.R_drew)); exact Kd.R_mono (Kd.R_far (p := ⟨gb126, 1, none⟩) (Kd.R_far (p := ⟨gb126, 0, none⟩) (Kd.R_far (p := ⟨gb133, 1, none⟩) (Kd.R_types (Kd.R_types HO157.out BK133.out zq27) BK126.out zq27) (fun _ hk => hk.1.2) (.slice Ao59 y155.length co59)) (fun _ hk => hk.2) (.int .i64 t127)) (fun _ hk => hk.2) (.slice Ao59 y155.length co59)) (fun _ hk => trivial), zq4, zq8, zq12⟩
   ·rw [if_neg c43] at H
    have c43b0 : (t134 == 2) = false := beq_eq_false_iff_ne.mpr c43
    have c43b1 : (t134 != 2) = true := bne_iff_ne.mpr c43
    simp only [Option.some.injEq, Prod.mk.injEq] at H
    obtain ⟨rfl, rfl, rfl, rfl⟩ := H
    go_enter Tryz.func69, Tryz.ntmps69
    go_wp2_with (first | ((with_reducible refine gate_dst (N := 2) rfl ?_); refine zE 2 (cs := #[.int .i64 0, .slice none 0 0]) 26 ?_; intro gb126 hg w63 hbox hb; have BK126 := am (hbox); have GW126 := am ((zq53 : w.heap.size ≤ gb126)); have GE126 := am ((Nat.le_trans HW0.out (zq53 : w.heap.size ≤ gb126) : w0.heap.size ≤ gb126)); have NB0_126 := am ((zq76 : g ≠ gb126)); have NB126_0 := am ((zq77 : gb126 ≠ g)); replace HK := am (KeepBut.trans zq3 (KeepBut.of_below hb g none) (.inl rfl)); replace HB := am (below_step zq5 hb); replace HI0 := am (IsS76.below zq2 hb); clear hb hbox hg) | ((with_reducible refine gate_callee (f := 79) rfl ?_); refine goesL_ (some 5) rfl rfl Tryz.func79 zq15 rfl #[.pointer (some ⟨g, 0, none⟩), .int .i64 6, .int .i64 12] rfl zq0 ?_; (with_reducible refine (spec_l1Cur_sureLadder.calls k g s0_0 s0_1 s0_2 6 12 t127 t128 t131 t132 w0 _ ?side1 ?side2 A2.out).mono ?_); (case side1 => exact zq4); (case side2 => exact zq8); rintro e w64 ⟨v129, rfl, ho0, hi, hb, hk⟩; refine ⟨_, rfl, ?_⟩; have HO130 := am (Kd.R_lower ho0 (keep_size (w := w) (g := g) (row := none) zq14)); replace BK126 := am (KeepBut.blk hk (g' := gb126) (o := .cells #[.int .i64 0, .slice none 0 0] 26 (0, 0)) (pKq BK126) NB126_0.out zq42); replace HK := am (KeepBut.trans zq14 hk (.inl rfl)); replace HB := am (hb); replace HI0 := am (hi); (try clear hb hk hi ho0)) | ((with_reducible refine gate_dst (N := 3) rfl ?_); refine zE 3 (cs := #[.int .i64 0, .slice none 0 0]) 26 ?_; intro gb133 hg w65 hbox hb; have BK133 := am (hbox); have GW133 := am ((zq66 : w.heap.size ≤ gb133)); have GE133 := am ((Nat.le_trans HW0.out (zq66 : w.heap.size ≤ gb133) : w0.heap.size ≤ gb133)); have NB126_133 := am ((zq107 : gb126 ≠ gb133)); have NB133_126 := am ((zq109 : gb133 ≠ gb126)); have NB0_133 := am ((zq86 : g ≠ gb133)); have NB133_0 := am ((zq87 : gb133 ≠ g)); replace HO130 := sR HO130 hb; replace BK126 := sK BK126 hb; replace HK := am (KeepBut.trans zq14 (KeepBut.of_below hb g none) (.inl rfl)); replace HB := am (below_step zq8 hb); replace HI0 := am (IsS76.below zq4 hb); clear hb hbox hg; have hnb66 := NB133_126.out; have hnc66 := NB126_133.out; have hnb67 := NB133_0.out; have hnc67 := NB0_133.out; obtain ⟨hcz68_0, hcz68_1, hfz68_0, hfz68_1⟩ := sC BK133; obtain ⟨Ao69, co69, eo69⟩ := Kd.R_slice HO130.out; subst eo69) | ((with_reducible refine gate_callee (f := 70) rfl ?_); refine goesL_ (some 7) rfl rfl Tryz.func70 zq15 rfl #[.pointer (some ⟨g, 0, none⟩), .int .i64 16] rfl zq0 ?_; (with_reducible refine (spec_l1Cur_pick.calls g s0_0 t131 t132 16 t134 t135 t136 w0 _ ?side1 ?side2 A3.out).mono ?_); (case side1 => exact zq4); (case side2 => exact zq8); rintro e w70 ⟨rfl, hi, hb, hk⟩; refine ⟨_, rfl, ?_⟩; replace BK126 := am (KeepBut.blk hk (g' := gb126) (o := .cells #[.int .i64 0, .slice none 0 0] 26 (0, 0)) zq26 NB126_0.out zq42); replace HO130 := am (Kd.R_mono (Kd.R_keep (IsS76.apart (show IsS76 w0 _ g s0_0 t131 t132 from zq4) (by (with_reducible repeat (first | apply Kd.R_alloc | apply Kd.R_drewN | apply Kd.R_drew)); exact (Kd.R_mono (Kd.R_far (p := ⟨gb133, 1, none⟩) (Kd.R_far (p := ⟨gb133, 0, none⟩) (Kd.R_types HO130.out BK133.out zq27) (fun _ hk => hk.2) (.int .i64 t127)) (fun _ hk => hk.2) (.slice Ao69 t128.length co69)) (fun _ h_ => h_.1))) zq27) hk (fun _ h => h.2)) (fun _ h => h.1)); replace BK133 := am (KeepBut.blk hk (g' := gb133) (o := .cells #[.int .i64 t127, .slice Ao69 t128.length co69] 26 (0, 0)) zq23 NB133_0.out zq42); replace HK := am (KeepBut.trans zq12 hk (.inl rfl)); replace HB := am (hb); replace HI0 := am (hi); (try clear hb hk hi); obtain ⟨hcz71_0, hcz71_1, hfz71_0, hfz71_1⟩ := sC BK133; have hnb72 := NB126_0.out; have hnc72 := NB0_126.out; obtain ⟨hcz73_0, hcz73_1, hfz73_0, hfz73_1⟩ := sC BK126))
    refine bodyPost_ret (results_cell_row rfl _ _ gb126 26 #[.int .i64 t127, .slice Ao69 t128.length co69] (0, 0) _ rfl (by (with_reducible repeat (first | refine blk_drewN ?_ _ | refine blk_drew ?_ | refine blk_alloc ?_ _)); refine blk_put (cs := #[.int .i64 t127, .slice none 0 0]) ?_ 1 _ rfl; (with_reducible repeat (first | refine blk_drewN ?_ _ | refine blk_drew ?_ | refine blk_alloc ?_ _)); refine blk_put (cs := #[.int .i64 0, .slice none 0 0]) ?_ 0 _ rfl; (with_reducible repeat (first | refine blk_drewN ?_ _ | refine blk_drew ?_ | refine blk_alloc ?_ _)); exact BK126.out) Tryz.underlying26 rfl zq15) rfl ?_
    exact ⟨_, zq6, by (with_reducible repeat (first | apply Kd.R_alloc | apply Kd.R_drewN | apply Kd.R_drew)); exact Kd.R_mono (Kd.R_far (p := ⟨gb126, 1, none⟩) (Kd.R_far (p := ⟨gb126, 0, none⟩) (Kd.R_types HO130.out BK126.out zq27) (fun _ hk => hk.2) (.int .i64 t127)) (fun _ hk => hk.2) (.slice Ao69 t128.length co69)) (fun _ hk => trivial), zq4, zq8, zq12⟩
/-! ### spec_DrawIsLadder: function 55 -/
def spec_DrawIsLadder.f (k : Nat) (l0 : List Int) : Option (Int × List Int) := (spec_l1Cur_ladder.f k l0 0 0).bind fun bt160 => (some (bt160.1, bt160.2.1))
theorem spec_DrawIsLadder.mono : ∀ a0 k, LeO (spec_DrawIsLadder.f k a0) (spec_DrawIsLadder.f (k + 1) a0) := by
 intro a0 k
 unfold spec_DrawIsLadder.f
 repeat' first | (with_reducible first | exact spec_l1Cur_ladder.mono _ _ _ _ | exact LeO.refl _ | exact LeO.none _ | refine LeO.ite ?_ ?_ | refine LeO.bind ?_ (fun _ => ?_))
theorem spec_DrawIsLadder.calls (k : Nat) (A0 : Option Addr) (c0 : Nat) (l0 : List Int) (r1 : Int) (r2 : List Int) (w : World) (hr0 : Kd.C (Kd.int .u8) w A0 l0.length l0) (hc0 : l0.length ≤ c0) (h : spec_DrawIsLadder.f k l0 = some (r1, r2)) :
  Calls Tryz.prog 55 #[.slice A0 l0.length c0] w fun e w' => ∃ v1_ : Value, e = .returned (.agg #[.int .i64 r1, v1_]) ∧ Kd.R (Kd.int .i64) 3 w' w.heap.size (fun _ => True) v1_ r2 ∧ Below w.heap.size w w' := by
 have hu26 := Tryz.underlying26
 have hu76 := Tryz.underlying76
 have HR0 := am hr0
 have HC0 := am hc0
 clear hr0 hc0
 have HB := am (Below.refl w.heap.size w)
 unfold spec_DrawIsLadder.f at h
 have H := h
 clear h
 replace H := Option.bind_eq_some_iff.mp H
 obtain ⟨⟨t160, t161, t164, t165⟩, A20, H⟩ := H
 (try dsimp only at H)
 have A2 := am A20
 clear A20
 simp only [Option.some.injEq, Prod.mk.injEq] at H
 obtain ⟨rfl, rfl⟩ := H
 go_enter Tryz.func55, Tryz.ntmps55
 go_wp2_with (first | ((with_reducible refine gate_dst (N := 2) rfl ?_); refine zE 2 (cs := #[.int .i64 0, .slice none 0 0]) 26 ?_; intro gb158 hg w3 hbox hb; have BK158 := am (hbox); have GW158 := am ((zq98 : w.heap.size ≤ gb158)); replace HB := sB HB hb; clear hb hbox hg) | ((with_reducible refine gate_dst (N := 6) rfl ?_); refine zE 6 (cs := #[.slice A0 l0.length c0, .int .i64 0, .int .u64 0]) 76 ?_; intro gb159 hg w4 hbox hb; have BK159 := am (hbox); have GW159 := am ((zq98 : w.heap.size ≤ gb159)); have NB158_159 := am ((by rw [hg]; exact Nat.ne_of_lt (blk_lt (pKq BK158)) : gb158 ≠ gb159)); have NB159_158 := am ((by rw [hg]; exact Nat.ne_of_gt (blk_lt (pKq BK158)) : gb159 ≠ gb158)); replace BK158 := sK BK158 hb; replace HB := sB HB hb; clear hb hbox hg) | ((with_reducible refine gate_callee (f := 69) rfl ?_); refine goesL_ (some 8) rfl rfl Tryz.func69 zq15 rfl #[.pointer (some ⟨gb159, 0, none⟩)] rfl zq0 ?_; (with_reducible refine (spec_l1Cur_ladder.calls k gb159 l0 0 0 t160 t161 t164 t165 w _ ?side1 ?side2 A2.out).mono ?_); (case side1 => unfold IsS76; exact ⟨_, _, (pKq BK159), GW159.out, HR0.out⟩); (case side2 => exact zq1); rintro e w5 ⟨v162, rfl, ho0, hi, hb, hk⟩; refine ⟨_, rfl, ?_⟩; have HO163 := am (Kd.R_lower ho0 (below_size (pBq HB))); replace BK158 := am (KeepBut.blk hk (g' := gb158) (o := .cells #[.int .i64 0, .slice none 0 0] 26 (0, 0)) (pKq BK158) NB158_159.out zq42); replace HB := am (hb); replace BK159 := am (hi); (try clear hb hk hi ho0); have hnb6 := NB158_159.out; have hnc6 := NB159_158.out; obtain ⟨hcz7_0, hcz7_1, hfz7_0, hfz7_1⟩ := sC BK158; obtain ⟨Ao8, co8, eo8⟩ := Kd.R_slice HO163.out; subst eo8))
 refine bodyPost_ret (results_cell_row rfl _ _ gb158 26 #[.int .i64 t160, .slice Ao8 t161.length co8] (0, 0) _ rfl (by (with_reducible repeat (first | refine blk_drewN ?_ _ | refine blk_drew ?_ | refine blk_alloc ?_ _)); refine blk_put (cs := #[.int .i64 t160, .slice none 0 0]) ?_ 1 _ rfl; (with_reducible repeat (first | refine blk_drewN ?_ _ | refine blk_drew ?_ | refine blk_alloc ?_ _)); refine blk_put (cs := #[.int .i64 0, .slice none 0 0]) ?_ 0 _ rfl; (with_reducible repeat (first | refine blk_drewN ?_ _ | refine blk_drew ?_ | refine blk_alloc ?_ _)); exact BK158.out) Tryz.underlying26 rfl zq15) rfl ?_
 exact ⟨_, zq6, by (with_reducible repeat (first | apply Kd.R_alloc | apply Kd.R_drewN | apply Kd.R_drew)); exact Kd.R_mono (Kd.R_far (p := ⟨gb158, 1, none⟩) (Kd.R_far (p := ⟨gb158, 0, none⟩) (Kd.R_types HO163.out BK158.out zq27) (fun _ hk => hk.2) (.int .i64 t160)) (fun _ hk => hk.2) (.slice Ao8 t161.length co8)) (fun _ hk => trivial), by repeat (first | (with_reducible first | exact HB.out | apply below_alloc | apply pw_below_drewN | apply below_drew1 | refine below_set ?_ (IsS76.ge BK159.out) | refine below_set ?_ (Aside0.out (by assumption))) | exact HB.out)⟩
/-! ### spec_DrawTurnLadder: function 6 -/
def spec_DrawTurnLadder.f (k : Nat) (l0 : List Int) : Option (Int × List Int) := (spec_DrawIsLadder.f k l0).bind fun bt167 => (some (bt167.1, bt167.2))
theorem spec_DrawTurnLadder.mono : ∀ a0 k, LeO (spec_DrawTurnLadder.f k a0) (spec_DrawTurnLadder.f (k + 1) a0) := by
 intro a0 k
 unfold spec_DrawTurnLadder.f
 repeat' first | (with_reducible first | exact spec_DrawIsLadder.mono _ _ | exact LeO.refl _ | exact LeO.none _ | refine LeO.ite ?_ ?_ | refine LeO.bind ?_ (fun _ => ?_))
theorem spec_DrawTurnLadder.calls (k : Nat) (A0 : Option Addr) (c0 : Nat) (l0 : List Int) (r1 : Int) (r2 : List Int) (w : World) (hr0 : Kd.C (Kd.int .u8) w A0 l0.length l0) (hc0 : l0.length ≤ c0) (h : spec_DrawTurnLadder.f k l0 = some (r1, r2)) :
  Calls Tryz.prog 6 #[.slice A0 l0.length c0] w fun e w' => ∃ v1_ : Value, e = .returned (.agg #[.int .i64 r1, v1_]) ∧ Kd.R (Kd.int .i64) 3 w' w.heap.size (fun _ => True) v1_ r2 ∧ Below w.heap.size w w' := by
 have hu26 := Tryz.underlying26
 have HR0 := am hr0
 have HC0 := am hc0
 clear hr0 hc0
 have HB := am (Below.refl w.heap.size w)
 unfold spec_DrawTurnLadder.f at h
 have H := h
 clear h
 replace H := Option.bind_eq_some_iff.mp H
 obtain ⟨⟨t167, t168⟩, A20, H⟩ := H
 (try dsimp only at H)
 have A2 := am A20
 clear A20
 simp only [Option.some.injEq, Prod.mk.injEq] at H
 obtain ⟨rfl, rfl⟩ := H
 go_enter Tryz.func6, Tryz.ntmps6
 go_wp2_with (first | ((with_reducible refine gate_dst (N := 2) rfl ?_); refine zE 2 (cs := #[.int .i64 0, .slice none 0 0]) 26 ?_; intro gb166 hg w3 hbox hb; have BK166 := am (hbox); have GW166 := am ((zq98 : w.heap.size ≤ gb166)); replace HB := sB HB hb; clear hb hbox hg) | ((with_reducible refine gate_callee (f := 55) rfl ?_); refine goesL_ (some 4) rfl rfl Tryz.func55 zq15 rfl #[.slice A0 l0.length c0] rfl zq0 ?_; (with_reducible refine (spec_DrawIsLadder.calls k _ _ l0 t167 t168 _ ?side1 ?side2 A2.out).mono ?_); (case side1 => exact zq80); (case side2 => exact HC0.out); rintro e w4 ⟨v169, rfl, ho0, hb⟩; refine ⟨_, rfl, ?_⟩; have HO170 := am (Kd.R_lower ho0 (below_size (pBq HB))); replace BK166 := sK BK166 hb; replace HB := sB HB hb; (try clear hb ho0); obtain ⟨hcz5_0, hcz5_1, hfz5_0, hfz5_1⟩ := sC BK166; obtain ⟨Ao6, co6, eo6⟩ := Kd.R_slice HO170.out; subst eo6))
 refine bodyPost_ret (results_cell_row rfl _ _ gb166 26 #[.int .i64 t167, .slice Ao6 t168.length co6] (0, 0) _ rfl (by (with_reducible repeat (first | refine blk_drewN ?_ _ | refine blk_drew ?_ | refine blk_alloc ?_ _)); refine blk_put (cs := #[.int .i64 t167, .slice none 0 0]) ?_ 1 _ rfl; (with_reducible repeat (first | refine blk_drewN ?_ _ | refine blk_drew ?_ | refine blk_alloc ?_ _)); refine blk_put (cs := #[.int .i64 0, .slice none 0 0]) ?_ 0 _ rfl; (with_reducible repeat (first | refine blk_drewN ?_ _ | refine blk_drew ?_ | refine blk_alloc ?_ _)); exact BK166.out) Tryz.underlying26 rfl zq15) rfl ?_
 exact ⟨_, zq6, by (with_reducible repeat (first | apply Kd.R_alloc | apply Kd.R_drewN | apply Kd.R_drew)); exact Kd.R_mono (Kd.R_far (p := ⟨gb166, 1, none⟩) (Kd.R_far (p := ⟨gb166, 0, none⟩) (Kd.R_types HO170.out BK166.out zq27) (fun _ hk => hk.2) (.int .i64 t167)) (fun _ hk => hk.2) (.slice Ao6 t168.length co6)) (fun _ hk => trivial), zq1⟩
/-! ### impl_between: function 71 -/
def impl_between.f (a0 : Int) (a1 : Int) (a2 : Int) : Option (Bool) := if a0 ≥ a1 then (some (decide (a0 ≤ a2))) else (some false)
theorem impl_between.calls (a0 : Int) (a1 : Int) (a2 : Int) (r : Bool) (w : World) (h : impl_between.f a0 a1 a2 = some r) :
  Calls Tryz.prog 71 #[.int .i64 a0, .int .i64 a1, .int .i64 a2] w fun e w' => e = .returned (.bool r) ∧ Drawn0 w w' := by
 unfold impl_between.f at h
 have H := h
 clear h
 by_cases c4 : a0 ≥ a1
 ·rw [if_pos c4] at H
  have c4b0 : decide (a1 ≤ a0) = true := decide_eq_true c4
  clear c4
  obtain rfl := Option.some.inj H
  go_enter Tryz.func71, Tryz.ntmps71
  go_wp2
  go_ret
  exact ⟨zq10, zq17⟩
 ·rw [if_neg c4] at H
  have c4b0 : decide (a1 ≤ a0) = false := decide_eq_false c4
  clear c4
  obtain rfl := Option.some.inj H
  go_enter Tryz.func71, Tryz.ntmps71
  go_wp2
  go_ret
  exact ⟨zq10, zq17⟩
/-! ### impl_isLadder: function 56 -/
def impl_isLadder.bad (n : Int) (x : Int) : Bool := !(decide (0 ≤ x) && decide (x ≤ n - 2))
def impl_isLadder.idx (p : Int → Bool) (l : List Int) : Int := if l.any p then ((l.findIdx p : Nat) : Int) else -1
def impl_isLadder.f (a0_0 : Int) (l0_1 : List Int) : Option Bool := some (decide (2 ≤ a0_0) && decide (a0_0 ≤ 8) && decide (l0_1.length ≤ 60) && !(l0_1.any (impl_isLadder.bad a0_0)))
theorem impl_isLadder.idx_hit (p : Int → Bool) (l : List Int) (i : Nat) (hi : i < l.length) (hp : p (rd l i) = true) (hb : ∀ j, j < i → p (rd l j) = false) : impl_isLadder.idx p l = (i : Int) := by
 have hg : ∀ j : Nat, ∀ h : j < l.length, rd l j = l[j] := fun j h => by
  show l.getD ((j : Int)).toNat 0 = _
  rw [Int.toNat_natCast, List.getD_eq_getElem?_getD, List.getElem?_eq_getElem h]; rfl
 have h1 : l.any p = true := List.any_eq_true.2 ⟨rd l i, by rw [hg i hi]; exact List.getElem_mem hi, hp⟩
 unfold impl_isLadder.idx
 rw [if_pos h1]
 congr 1
 refine (List.findIdx_eq hi).2 ⟨by rw [← hg i hi]; exact hp, fun j hj => ?_⟩
 have := hb j hj
 rw [hg j zq32] at this
 simpa using this
theorem impl_isLadder.idx_miss (p : Int → Bool) (l : List Int) (hb : ∀ j, j < l.length → p (rd l j) = false) : impl_isLadder.idx p l = -1 := by
 have h1 : ¬ l.any p = true := fun h => by
  obtain ⟨x, hx, hp⟩ := List.any_eq_true.1 h
  obtain ⟨j, hj, rfl⟩ := List.getElem_of_mem hx
  have h2 := hb j hj
  have hg : rd l j = l[j] := by
   show l.getD ((j : Int)).toNat 0 = _
   rw [Int.toNat_natCast, List.getD_eq_getElem?_getD, List.getElem?_eq_getElem hj]; rfl
  rw [hg, hp] at h2
  cases h2
 unfold impl_isLadder.idx
 rw [if_neg h1]
theorem impl_isLadder.idx_any (p : Int → Bool) (l : List Int) : decide (0 ≤ impl_isLadder.idx p l) = l.any p := by
 unfold impl_isLadder.idx
 cases h : l.any p
 ·simp
 ·simp [Int.natCast_nonneg]
set_option maxHeartbeats 400000 in
/-- The closure: is the number out of its bounds? -/
theorem impl_isLadder.clos (x n : Int) (g : Nat) (w : World) (h0 : 2 ≤ n) (h1 : n ≤ 8) (hc : w.cell? ⟨g, 0, none⟩ = some (.int .i64 n)) :
  Calls Tryz.prog 106 #[.int .i64 x, .pointer (some ⟨g, 0, none⟩)] w fun e w' => e = .returned (.bool (impl_isLadder.bad n x)) ∧ Drawn0 w w' := by
 have hb : impl_between.f x 0 (n - 2) = some (decide (0 ≤ x) && decide (x ≤ n - 2)) := by
  unfold impl_between.f
  by_cases h : x ≥ 0
  ·rw [if_pos h]; simp [h]
  ·rw [if_neg h]; simp [h]
 have HB := am hb
 clear hb
 go_enter Tryz.func106, Tryz.ntmps106
 go_wp2_with (go_at_call 71; (with_reducible refine (impl_between.calls _ _ _ _ _ HB.out).mono ?_); rintro e w' ⟨rfl, ⟨nd, rfl⟩⟩)
 go_ret
 exact ⟨by simp [impl_isLadder.bad], zq17⟩
def impl_isLadder.Gives (n : Int) (g : Nat) (w : World) : Prop := ∀ (x : Int) (q : Nat), Calls Tryz.prog 106 #[.int .i64 x, .pointer (some ⟨g, 0, none⟩)] (w.drewN q) fun e w' => e = .returned (.bool (impl_isLadder.bad n x)) ∧ Drawn0 (w.drewN q) w'
set_option maxHeartbeats 1000000 in
set_option maxRecDepth 100000 in
theorem impl_isLadder.index (A0 : Option Addr) (c0 : Nat) (l0 : List Int) (n : Int) (g : Nat) (w : World) (hr0 : Kd.C (Kd.int .i64) w A0 l0.length l0) (hc0 : l0.length ≤ c0) (hG : impl_isLadder.Gives n g w) :
  Calls Tryz.prog 130 #[.slice A0 l0.length c0, .func (.func 106) #[] #[.pointer (some ⟨g, 0, none⟩)]] w fun e w' => e = .returned (.int .i64 (impl_isLadder.idx (impl_isLadder.bad n) l0)) ∧ Drawn0 w w' := by
 have HR0 := am hr0
 have HG := am hG
 have HN : l0.length ≤ 9223372036854775807 := hr0.2.1
 clear hr0 hc0 hG
 go_enter Tryz.func130, Tryz.ntmps130
 go_wp2
 go_loopg [5, 8] l0.length (fun gg _ s8 wr => ∃ kk q : Nat, kk ≤ l0.length ∧ l0.length - kk ≤ gg ∧ s8 = .int .i64 kk ∧ wr = w.drewN q ∧ Aside0 (∀ j : Nat, j < kk → impl_isLadder.bad n (rd l0 (j : Int)) = false))
 case atStart => exact ⟨0, 0, Nat.zero_le _, zq32, rfl, rfl, ⟨fun j hj => absurd hj (Nat.not_lt_zero _)⟩⟩
 case round =>
  obtain ⟨kk, q, hkk, hg, rfl, rfl, A⟩ := hrel
  by_cases hlt : kk < l0.length
  ·have hltz : (kk : Int) < (l0.length : Int) := zq32
   obtain ⟨ad1, e1, hx0⟩ := Kd.at_int HR0.out (kk : Int) (Int.natCast_nonneg kk) hltz
   cases e1
   have hx : w.cell? (ad1.add kk) = some (.int .i64 (rd l0 (kk : Int))) := by rw [Int.toNat_natCast] at hx0; exact hx0
   clear hx0
   cases hq : impl_isLadder.bad n (rd l0 (kk : Int)) with
   | true =>
    have hcall := fun q => HG.out (rd l0 (kk : Int)) q
    rw [hq] at hcall
    have HC := am hcall
    have HQ := am hq
    clear hcall hq
    go_wp2_with (go_at_call 106; refine (HC.out _).mono ?_; rintro e w' ⟨rfl, ⟨q', rfl⟩⟩)
    go_ret
    refine ⟨?_, zq17⟩
    rw [impl_isLadder.idx_hit _ l0 kk hlt HQ.out A.out]; rfl
   | false =>
    have hcall := fun q => HG.out (rd l0 (kk : Int)) q
    rw [hq] at hcall
    have HC := am hcall
    have HQ := am hq
    clear hcall hq
    go_wp2_with (go_at_call 106; refine (HC.out _).mono ?_; rintro e w' ⟨rfl, ⟨q', rfl⟩⟩)
    go_roundg (l0.length - (kk + 1))
    case measure => omega
    case rel =>
     refine ⟨kk + 1, _, zq32, zq32, by go_num, rfl, ⟨fun j hj => ?_⟩⟩
     by_cases e : j = kk
     ·subst e; exact HQ.out
     ·exact A.out j zq32
  ·have hltz : ¬ (kk : Int) < (l0.length : Int) := zq32
   have hk : kk = l0.length := zq32
   subst hk
   go_wp2
   go_ret
   refine ⟨?_, zq17⟩
   rw [impl_isLadder.idx_miss _ l0 A.out]; rfl
set_option maxHeartbeats 1000000 in
theorem impl_isLadder.contains (A0 : Option Addr) (c0 : Nat) (l0 : List Int) (n : Int) (g : Nat) (r : Bool) (w : World) (hr0 : Kd.C (Kd.int .i64) w A0 l0.length l0) (hc0 : l0.length ≤ c0) (hG : impl_isLadder.Gives n g w) (h : l0.any (impl_isLadder.bad n) = r) :
  Calls Tryz.prog 105 #[.slice A0 l0.length c0, .func (.func 106) #[] #[.pointer (some ⟨g, 0, none⟩)]] w fun e w' => e = .returned (.bool r) ∧ Drawn0 w w' := by
 have HI := am (impl_isLadder.index A0 c0 l0 n g w hr0 hc0 hG)
 have HA := am (impl_isLadder.idx_any (impl_isLadder.bad n) l0)
 have HH := am h
 clear hr0 hG h
 go_enter Tryz.func105, Tryz.ntmps105
 go_wp2_with (go_at_call 130; (with_reducible refine HI.out.mono ?_); rintro e w' ⟨rfl, ⟨nd, rfl⟩⟩)
 go_ret
 exact ⟨by rw [HA.out, HH.out]; rfl, zq17⟩
set_option maxHeartbeats 2000000 in
set_option maxRecDepth 100000 in
theorem impl_isLadder.calls (a0_0 : Int) (A0_1 : Option Addr) (c0_1 : Nat) (l0_1 : List Int) (r : Bool) (w : World) (hr0_1 : Kd.C (Kd.int .i64) w A0_1 l0_1.length l0_1) (hc0_1 : l0_1.length ≤ c0_1) (h : impl_isLadder.f a0_0 l0_1 = some r) :
  Calls Tryz.prog 56 #[.agg #[.int .i64 a0_0, .slice A0_1 l0_1.length c0_1]] w fun e w' => e = .returned (.bool r) ∧ Below w.heap.size w w' := by
 have h' : (decide (2 ≤ a0_0) && decide (a0_0 ≤ 8) && decide (l0_1.length ≤ 60) && !(l0_1.any (impl_isLadder.bad a0_0))) = r := Option.some.inj h
 clear h
 by_cases hn : 2 ≤ a0_0 ∧ a0_0 ≤ 8
 ·have hb : impl_between.f a0_0 2 8 = some true := by
   unfold impl_between.f
   rw [if_pos hn.1, decide_eq_true hn.2]
  have HB := am hb
  have HN := am hn
  by_cases hl : l0_1.length ≤ 60
  ·have HR := am hr0_1
   have HC := am hc0_1
   have hlz : (l0_1.length : Int) ≤ 60 := zq32
   have hl0 : decide ((l0_1.length : Int) ≤ 60) = true := decide_eq_true hlz
   have hl1 : decide (l0_1.length ≤ 60) = true := decide_eq_true hl
   have hr : r = !(l0_1.any (impl_isLadder.bad a0_0)) := by rw [← h', decide_eq_true hn.1, decide_eq_true hn.2, decide_eq_true hl]; simp
   have HRR := am hr
   clear h' hb hn hr0_1 hc0_1 hr hl hlz
   go_enter Tryz.func56, Tryz.ntmps56
   go_wp2_with (first | (go_at_call 71; (with_reducible refine (impl_between.calls _ _ _ _ _ HB.out).mono ?_); rintro e w' ⟨rfl, ⟨nd, rfl⟩⟩) | (go_at_call 105; (with_reducible refine (impl_isLadder.contains A0_1 c0_1 l0_1 a0_0 w.heap.size _ _ ?side1 HC.out ?side2 rfl).mono ?_); (case side1 => exact Kd.C_drewN (Kd.C_alloc HR.out _) _); (case side2 => exact fun x q => impl_isLadder.clos x a0_0 w.heap.size _ HN.out.1 HN.out.2 (by simp [World.cell?_alloc_new])); rintro e w' ⟨rfl, ⟨nd2, rfl⟩⟩))
   go_ret
   exact ⟨by rw [HRR.out]; rfl, zq101⟩
  ·have hl0 : decide ((l0_1.length : Int) ≤ 60) = false := decide_eq_false zq32
   have hl1 : decide (l0_1.length ≤ 60) = false := decide_eq_false hl
   have hr : r = false := by rw [← h', decide_eq_false hl]; simp
   have HRR := am hr
   clear h' hb hn hr0_1 hc0_1 hr hl
   go_enter Tryz.func56, Tryz.ntmps56
   go_wp2_with (go_at_call 71; (with_reducible refine (impl_between.calls _ _ _ _ _ HB.out).mono ?_); rintro e w' ⟨rfl, ⟨nd, rfl⟩⟩)
   go_ret
   exact ⟨by rw [HRR.out]; rfl, zq101⟩
 ·have hb : impl_between.f a0_0 2 8 = some false := by
   unfold impl_between.f
   by_cases h1 : a0_0 ≥ 2
   ·rw [if_pos h1, decide_eq_false zq32]
   ·rw [if_neg h1]
  have HB := am hb
  have hr : r = false := by
   rw [← h']
   by_cases h1 : 2 ≤ a0_0
   ·have h2 : ¬ a0_0 ≤ 8 := fun h2 => hn ⟨h1, h2⟩
    simp [h2]
   ·simp [h1]
  have HRR := am hr
  clear h' hb hn hr0_1 hc0_1 hr
  go_enter Tryz.func56, Tryz.ntmps56
  go_wp2_with (go_at_call 71; (with_reducible refine (impl_between.calls _ _ _ _ _ HB.out).mono ?_); rintro e w' ⟨rfl, ⟨nd, rfl⟩⟩)
  go_ret
  exact ⟨by rw [HRR.out]; rfl, zq101⟩
/-! ### slices_Clone_int_int: function 57 -/
def slices_Clone_int_int.f (l0 : List Int) : Option (List Int) := if l0.length < 17592186044416 then (some l0) else (none)
set_option maxHeartbeats 2000000 in
set_option maxRecDepth 100000 in
theorem slices_Clone_int_int.calls (A0 : Option Addr) (c0 : Nat) (l0 : List Int) (r : List Int) (w : World) (hr0 : Kd.C (Kd.int .i64) w A0 l0.length l0) (hc0 : l0.length ≤ c0) (h : slices_Clone_int_int.f l0 = some r) :
  Calls Tryz.prog 57 #[.slice A0 l0.length c0] w fun e w' => ∃ v0_ : Value, e = .returned (v0_) ∧ Kd.R (Kd.int .i64) 3 w' w.heap.size (fun _ => True) v0_ r ∧ Below w.heap.size w w' := by
 have HR0 := am hr0
 have hz : A0 = none → l0 = [] := fun e => by
  rcases Nat.eq_zero_or_pos l0.length with h0 | h0
  ·exact List.eq_nil_of_length_eq_zero h0
  ·obtain ⟨ad, hA, _⟩ := hr0.2.2 h0
   rw [e] at hA; cases hA
 unfold slices_Clone_int_int.f at h
 by_cases hl : l0.length < 17592186044416
 ·rw [if_pos hl] at h
  obtain rfl := Option.some.inj h
  have HL := am hl
  clear hl h hr0 hc0
  have hnil := fun (w : World) (a : Option Addr) (n c : Nat) => Lib.run_eql_slice_nil (P := Tryz.prog) w 24 3 a n c 0 0 Tryz.underlying24
  cases A0 with
  | none =>
   obtain rfl := hz rfl
   clear hz
   go_enter Tryz.func57, Tryz.ntmps57
   go_wp2
   go_ret
   exact ⟨_, rfl, Kd.R_nil _ _ _ _ _, by repeat (first | exact Below.refl _ _ | apply pw_below_drewN | apply below_drew1)⟩
  | some ad =>
   clear hz
   have HB := am (Below.refl w.heap.size w)
   obtain ⟨y1, hy1⟩ : ∃ y_ : List Int, y_ = (([] : List Int)) := ⟨_, rfl⟩
   have Ny1 := am hy1
   obtain ⟨y2, hy2⟩ : ∃ y_ : List Int, y_ = (y1 ++ l0) := ⟨_, rfl⟩
   have Ny2 := am hy2
   have NE := am (show y2 = l0 by rw [hy2, hy1]; rfl)
   have LM := am (show y1.length + l0.length < 17592186044416 by rw [hy1]; simpa using HL.out)
   clear hy1 hy2
   go_enter Tryz.func57, Tryz.ntmps57
   go_wp2_with (first | ((with_reducible refine gate_dst (N := 5) rfl ?_); refine Kd.R_lit (Kd.int .i64) _ 3 ?hg (N := 5) ?hd (xs := ([] : List Int)) (inner := []) (ok := fun _ => True) (okp := fun _ => True) ?hr ?hp (fun _ hk => hk) trivial (Below.refl _ _) (Nat.le_refl _) zq42 ?_; (case hd => rfl); (case hg => rfl); (case hr => exact zq30); (case hp => exact (Reps.none _ _)); intro v1 w3 ho4 hb hg_ hnew_; clear hg_ hnew_; (first | rw [← Ny1.out] at ho4 | (simp only [Int.reduceToNat] at ho4; rw [← Ny1.out] at ho4)); have HO1 := am (Kd.R_lower ho4 (below_size HB.out)); replace HB := am (below_step HB.out hb); clear hb ho4) | ((with_reducible refine gate_builtin (b := .append) (xs := #[.tmp 5, .tmp 6]) rfl ?_); at_builtin; refine Kd.R_append_rows (Kd.int .i64) (w0 := w) w.heap.size rfl (.tmp 5) (.tmp 6) 24 3 (.int .i64 0) 8 rfl Tryz.underlying24 info3 rfl zq27 zq32 v1 y1 l0 _ _ _ (fun _ => True) (fun _ => False) rfl rfl ?aO ?aR (fun _ _ h => h) (fun _ h => h.elim) ?aF ?aB ?aS ?aL ?_; (case aR => exact zq80); (case aB => exact HB.out); (case aF => exact zq99); (case aO => exact (pRq HO1)); (case aS => exact (below_size HB.out)); (case aL => have := LM.out; omega); intro v2 w5 ho hb hg hat; rw [← Ny2.out, NE.out] at ho; have HO2 := am (ho); replace HB := am (hb); clear HO1; clear ho hb hg hat))
   go_ret
   exact ⟨_, by rfl, by (with_reducible repeat (first | apply Kd.R_alloc | apply Kd.R_drewN | apply Kd.R_drew)); exact HO2.out, zq13⟩
 ·rw [if_neg hl] at h
  cases h
end
end Go.Proofs.YtlmiiijjjcddkaaGreatDoor.PLg
