-- Written for this claim by a program of this session (myprint.py) over the kit's printer.
import Derived.Test.YtdeoeogdnagibaaPLix0
import Derived.Test.YtdeoeogdnagibaaPLix1
import Derived.Test.YtdeoeogdnagibaaPLix2
import Derived.Test.YtdeoeogdnagibaaPLix3
import Derived.Test.YtdeoeogdnagibaaPLix4
import Derived.Test.YtdeoeogdnagibaaPLix5
import Derived.Test.YtdeoeogdnagibaaPLix6
import Derived.Test.YtdeoeogdnagibaaPLix7
import Derived.Test.YtdeoeogdnagibaaPLix8
import Derived.Deep.RegionHeld3
namespace Go.Proofs.Ytdeoeogdnagibaa.PLi
noncomputable section
open Go.RowKit Go.Proofs.YtdeoeogdnagibaaW.PrintWords Go.Proofs.YtdeoeogdnagibaaW.PrintLast Go.Proofs.YtdeoeogdnagibaaW.PrintMore
attribute [local go_sem] max2_int min2_int max_two min_two max_three min_three max_four min_four   -- for this text's walks alone
set_option linter.unusedVariables false
set_option linter.unusedSimpArgs false


structure Ent where
 ok : World → Prop
 len : Prop
 up : ∀ w w', ok w → Below w.heap.size w w' → ok w'
def Ent.of {α : Type} (d : Kd α) (A : Option Addr) (c : Nat) (xs : List α) : Ent := ⟨fun w => d.C w A xs.length xs, xs.length ≤ c, fun _ _ h hb => Kd.C_below h hb⟩
structure Bag (w0 w : World) (L : List Ent) : Prop where mk :: (out : Below w0.heap.size w0 w ∧ ∀ r ∈ L, r.ok w ∧ r.len)
theorem Bag.b {w0 w : World} {L : List Ent} (h : Bag w0 w L) : Below w0.heap.size w0 w := h.out.1
theorem Bag.c {w0 w : World} {L : List Ent} (h : Bag w0 w L) (i : Nat) {α : Type} {d : Kd α} {A : Option Addr} {c : Nat} {xs : List α} (hi : L[i]? = some (Ent.of d A c xs)) : d.C w A xs.length xs := (h.out.2 _ (List.mem_of_getElem? hi)).1
theorem Bag.l {w0 w : World} {L : List Ent} (h : Bag w0 w L) (i : Nat) {α : Type} {d : Kd α} {A : Option Addr} {c : Nat} {xs : List α} (hi : L[i]? = some (Ent.of d A c xs)) : xs.length ≤ c := (h.out.2 _ (List.mem_of_getElem? hi)).2
theorem Bag.v {w0 w : World} {L : List Ent} (h : Bag w0 w L) (i : Nat) {k : IntKind} {e base : Nat} {A : Option Addr} {c : Nat} {xs : List Int} (hi : L[i]? = some (Ent.of (Kd.int k) A c xs)) : Kd.V (Kd.int k) e w base (fun _ => True) (.slice A xs.length c) xs := ⟨A, c, rfl, h.l i hi, Kd.F_mono (Kd.C_F (Kd.heap_int k) (h.c i hi)) (fun _ _ => trivial)⟩
theorem Bag.step {w0 w w' : World} {L : List Ent} (h : Bag w0 w L) (hb : Below w.heap.size w w') : Bag w0 w' L := ⟨below_step h.out.1 hb, fun r hr => ⟨r.up _ _ (h.out.2 r hr).1 hb, (h.out.2 r hr).2⟩⟩
theorem Bag.has {w0 w : World} {L : List Ent} (h : Bag w0 w L) {α : Type} {d : Kd α} {A : Option Addr} {c : Nat} {xs : List α} (hc : d.C w A xs.length xs) (hl : xs.length ≤ c) : Bag w0 w (Ent.of d A c xs :: L) := ⟨h.out.1, fun r hr => by
 rcases List.mem_cons.1 hr with rfl | hr
 ·exact ⟨hc, hl⟩
 ·exact h.out.2 r hr⟩
theorem Bag.addR {w0 w w' : World} {L : List Ent} (h : Bag w0 w L) (hb : Below w.heap.size w w') {α : Type} {d : Kd α} {e base n c : Nat} {ok : Nat → Prop} {A : Option Addr} {xs : List α} (ho : d.R e w' base ok (.slice A n c) xs) : Bag w0 w' (Ent.of d A c xs :: L) := by
 have h2 := Kd.R_reads' ho
 exact (h.step hb).has h2.2.2 (h2.1 ▸ h2.2.1)
theorem Bag.addS {w0 w w' : World} {L : List Ent} (h : Bag w0 w L) (hb : Below w.heap.size w w') {α : Type} {d : Kd α} {e base n c : Nat} {ok : Nat → Prop} {A : Option Addr} {xs : List α} (ho : Kd.S d e w' base ok (.slice A n c) xs) : Bag w0 w' (Ent.of d A c xs :: L) := h.addR hb (Kd.S_R ho)
theorem Bag.addN {w0 w w' : World} {L : List Ent} (h : Bag w0 w L) (hb : Below w.heap.size w w') {α : Type} {d : Kd α} {e base n c : Nat} {ok : Nat → Prop} {A : Option Addr} {xs : List α} (ho : Kd.N d e w' base ok (.slice A n c) xs) : Bag w0 w' (Ent.of d A c xs :: L) := by
 have h2 := Kd.N_reads' ho
 exact (h.step hb).has h2.2.2 (h2.1 ▸ h2.2.1)
theorem Bag.sub {w0 w : World} {L L' : List Ent} (h : Bag w0 w L) (hs : ∀ r ∈ L', r ∈ L) : Bag w0 w L' := ⟨h.out.1, fun r hr => h.out.2 r (hs r hr)⟩
theorem Bag.tl {w0 w : World} {r : Ent} {L : List Ent} (h : Bag w0 w (r :: L)) : Bag w0 w L := h.sub (fun _ hr => List.mem_cons_of_mem _ hr)
theorem Bag.dup {w0 w : World} {L : List Ent} (h : Bag w0 w L) (i : Nat) {r : Ent} (hi : L[i]? = some r) : Bag w0 w (r :: L) := h.sub (fun q hq => (List.mem_cons.1 hq).elim (fun e => e ▸ List.mem_of_getElem? hi) id)
theorem rows_at {w : World} {A : Option Addr} {n e : Nat} {xs : List (List Int)} (h : Kd.C (Kd.slice e (Kd.int .i64)) w A n xs) (i : Nat) (hi : i < n) : ∃ ad A0 c0, A = some ad ∧ w.cell? (ad.add i) = some (.slice A0 (xs.getD i []).length c0) ∧ (xs.getD i []).length ≤ c0 ∧ Kd.C (Kd.int .i64) w A0 (xs.getD i []).length (xs.getD i []) := by
 obtain ⟨ad, he, hc⟩ := h.2.2 (by omega)
 have hl := h.1
 obtain ⟨c, _, hK, hcell⟩ := hc i (xs[i]'(by omega)) (List.getElem?_eq_getElem _)
 obtain ⟨A0, c0, rfl, h1, h2⟩ := hK
 have hx := hcell 0 _ rfl
 have e1 : xs.getD i [] = xs[i]'(by omega) := by rw [List.getD_eq_getElem?_getD, List.getElem?_eq_getElem (by omega)]; rfl
 rw [Nat.add_zero, show ((Kd.slice e (Kd.int .i64))).sz = 1 from rfl, Nat.mul_one] at hx
 rw [e1]
 exact ⟨ad, A0, c0, he, hx, h1, h2⟩
theorem Bag.pick {w0 w : World} {L : List Ent} (h : Bag w0 w L) (is : List Nat) : Bag w0 w (is.filterMap fun i => L[i]?) := h.sub (fun r hr => by
 obtain ⟨i, _, hi⟩ := List.mem_filterMap.1 hr
 exact List.mem_of_getElem? hi)
theorem Bag.start (w : World) : Bag w w [] := ⟨Below.refl _ _, fun _ h => by cases h⟩
theorem int_at {w : World} {A : Option Addr} {n : Nat} {xs : List Int} (h : Kd.C (Kd.int .i64) w A n xs) (i : Nat) (hi : i < n) : ∃ ad, A = some ad ∧ w.cell? (ad.add i) = some (.int .i64 (rd xs (i : Int))) := by
 obtain ⟨ad, e, hc⟩ := Kd.at_int h (i : Int) (by omega) (by omega)
 rw [Int.toNat_natCast] at hc
 exact ⟨ad, e, hc⟩
theorem int_hd {w : World} {A : Option Addr} {n : Nat} {xs : List Int} (h : Kd.C (Kd.int .i64) w A n xs) (hi : 0 < n) : ∃ ad, A = some ad ∧ w.cell? ad = some (.int .i64 (rd xs 0)) := by
 obtain ⟨ad, e, hc⟩ := int_at h 0 hi
 rw [Addr.add_zero'] at hc
 exact ⟨ad, e, hc⟩
def tailFrom (n : Nat) : Code → Option Code
 | .seq (.seq (.region m o d) c) b => if m = n then some (.seq (.seq (.region m o d) c) b) else tailFrom n b
 | .seq (.region m o d) b => if m = n then some (.seq (.region m o d) b) else tailFrom n b
 | .seq a b => match tailFrom n a with
  | some c => some c
  | none => tailFrom n b
 | .cond _ a b => match tailFrom n a with
  | some c => some c
  | none => tailFrom n b
 | .block _ c => tailFrom n c
 | .loop c => tailFrom n c
 | _ => none
def Ent.blk (g : Nat) (o : Obj) : Ent := ⟨fun w => w.heap[g]? = some o, True, fun _ _ h hb => blk_below h hb⟩
theorem Bag.k {w0 w : World} {L : List Ent} (h : Bag w0 w L) (i : Nat) {g : Nat} {o : Obj} (hi : L[i]? = some (Ent.blk g o)) : w.heap[g]? = some o := (h.out.2 _ (List.mem_of_getElem? hi)).1
theorem Bag.addK {w0 w : World} {L : List Ent} (h : Bag w0 w L) {g : Nat} {o : Obj} (hk : w.heap[g]? = some o) : Bag w0 w (Ent.blk g o :: L) := ⟨h.out.1, fun r hr => by
 rcases List.mem_cons.1 hr with rfl | hr
 ·exact ⟨hk, trivial⟩
 ·exact h.out.2 r hr⟩
theorem Bag.box {w0 w : World} {L : List Ent} (h : Bag w0 w L) (o : Obj) : Bag w0 (w.alloc o) (Ent.blk w.heap.size o :: L) := (h.step (below_alloc (Below.refl _ _) o)).addK (blk_new w o)
theorem Bag.box2 {w0 w : World} {L : List Ent} (h : Bag w0 w L) (o o' : Obj) : Bag w0 ((w.alloc o).alloc o') (Ent.blk (w.heap.size + 1) o' :: Ent.blk w.heap.size o :: L) := by
 have h2 := (h.box o).box o'
 have e : (w.alloc o).heap.size = w.heap.size + 1 := by simp
 rw [e] at h2
 exact h2
def condAt (n : Nat) : Code → Option Code
 | .cond (.tmp m) a b => if m = n then some (.cond (.tmp m) a b) else match condAt n a with
  | some c => some c
  | none => condAt n b
 | .cond _ a b => match condAt n a with
  | some c => some c
  | none => condAt n b
 | .seq a b => match condAt n a with
  | some c => some c
  | none => condAt n b
 | .block _ c => condAt n c
 | .loop c => condAt n c
 | _ => none
def regAt (n : Nat) : Code → Option Code
 | .region m o d => if m = n then some (.region m o d) else none
 | .cond _ a b => match regAt n a with
  | some c => some c
  | none => regAt n b
 | .seq a b => match regAt n a with
  | some c => some c
  | none => regAt n b
 | .block _ c => regAt n c
 | .loop c => regAt n c
 | _ => none
def FlFive (bn : Int) (bl : List Int) (rk : Int) : Prop := ∃ u : List Int, (∃ k, impl_ResultOf.f k bn bl = some (u, true)) ∧ (impl_LeastOfRank.f u rk = some (bn, bl, true)) ∧ (∃ k, impl_IsLeast.f k bn bl = some (true, true)) ∧ (∃ k, laws_nLadder.f k bn bl bn bl = some true)
def FlTail (l1 : List Int) : Prop := ∃ (ql : List Int) (rg fc : Int) (th : Bool) (bn : Int) (bl : List Int) (rk : Int) (fv : Bool) (rr : List Int) (kk mn : Int) (ml : List Int) (sv : Bool), (∃ k, spec_DrawCountFirst.f k l1 = some (ql, rg)) ∧ (impl_CountFirst.f ql rg = some (fc, th)) ∧ (spec_CountFirst.f ql rg = some (fc, th)) ∧ (∃ k, spec_DrawRankOfLeast.f k l1 = some (bn, bl)) ∧ (impl_RankOfLeast.f bn bl = some (rk, fv)) ∧ (spec_RankOfLeast.f bn bl = some (rk, fv)) ∧ (∃ k, spec_DrawLeastOfRank.f k l1 = some (rr, kk)) ∧ (impl_LeastOfRank.f rr kk = some (mn, ml, sv)) ∧ (spec_LeastOfRank.f rr kk = some (mn, ml, sv)) ∧ (∃ k, laws_nLadder.f k mn ml mn ml = some true) ∧ (fv = true → FlFive bn bl rk) ∧ (sv = true → (impl_RankOfLeast.f mn ml = some (kk, true)))
def FlEl (p : List Int) (cnt inv : Int) (al : List S34) (i : Nat) : Prop := ∃ (n : Int) (r : List Int), al.getD i z34 = ⟨n, r⟩ ∧ (∃ k, impl_ResultOf.f k n r = some (p, true)) ∧ (∃ k, laws_nSame.f k p p = some true) ∧ (r.length : Int) = inv ∧ (0 < i → ∃ (n2 : Int) (r2 : List Int), al.getD (i - 1) z34 = ⟨n2, r2⟩ ∧ (∃ k, laws_nLess.f k r2 r = some true)) ∧ (i < 3 ∨ (i : Int) = cnt - 1 → (impl_RankOfLeast.f n r = some ((i : Int), true)) ∧ (impl_LeastOfRank.f p (i : Int) = some (n, r, true)) ∧ (∃ k, laws_nLadder.f k n r n r = some true))
def FlOk (p : List Int) (al : List S34) (cnt inv : Int) : Prop := cnt = ((al.length : Nat) : Int) ∧ 0 < al.length ∧ al.length ≤ 1000 ∧ (∀ i : Nat, i < al.length → FlEl p cnt inv al i) ∧ ∃ (n : Int) (r : List Int), al.getD 0 z34 = ⟨n, r⟩ ∧ (∃ k, impl_LeastLadder.f k p = some (n, r, true)) ∧ (∃ k, laws_nLadder.f k n r n r = some true)
def FlOne (p : List Int) (al : List S34) (ok : Bool) (cnt : Int) : Prop := ∃ (s c : Nat → Int) (inv : Int), 2 ≤ p.length ∧ p.length ≤ 1000 ∧ s 0 = 0 ∧ (∀ r : Nat, r + 1 < p.length → (impl_CountFirst.f p (r : Int) = some (c r, true)) ∧ wrap64 (s r + c r) = s (r + 1)) ∧ (∃ k, impl_InversionsOf.f k p = some (inv, true)) ∧ 0 ≤ inv ∧ (0 < inv → s (p.length - 1) = cnt) ∧ (inv = 0 → cnt = 1 ∧ s (p.length - 1) = 0) ∧ (ok = true → FlOk p al cnt inv) ∧ ∃ (zn : Int) (zl : List Int), (impl_LeastOfRank.f p cnt = some (zn, zl, false))
def FlHead (l0 : List Int) : Prop := ∃ (p : List Int) (al : List S34) (ok : Bool) (cnt : Int) (one : Bool), (∃ k, spec_DrawAllLeast.f k l0 = some p) ∧ (impl_AllLeast.f p = some (al, ok)) ∧ (∃ k, spec_AllLeast.f k p = some (al, ok)) ∧ (impl_CountLeast.f p = some (cnt, one)) ∧ (spec_CountLeast.f p = some (cnt, one)) ∧ (∃ k, laws_nLadders.f k al al = some true) ∧ (ok = true → one = true) ∧ (one = true → decide (cnt ≤ 800) = ok) ∧ (one = true → FlOne p al ok cnt)
def laws_FnLeastListed.Ok (l0 l1 : List Int) : Prop := laws_big.f l0 l1 = some true ∨ (laws_big.f l0 l1 = some false ∧ FlHead l0 ∧ FlTail l1)
def laws_FnLeastListed.Pure : Prop := ∀ (l0 : List Int) (l1 : List Int), l0.length ≤ maxLen → l0.length * 1 ≤ 140737488351232 → (∀ x ∈ l0, (Lit.int .u8 x).wf = true) → l1.length ≤ maxLen → l1.length * 1 ≤ 140737488351232 → (∀ x ∈ l1, (Lit.int .u8 x).wf = true) → laws_FnLeastListed.Ok l0 l1
theorem fl_at {w : World} {A : Option Addr} {n : Nat} {xs : List S34} (h : Kd.C k34 w A n xs) (i : Nat) (hi : i < n) {m : Int} {r : List Int} (hq : xs.getD i z34 = ⟨m, r⟩) : ∃ ad A1 c1, A = some ad ∧ w.cell? (ad.add (i * 2)) = some (.int .i64 m) ∧ w.cell? ⟨(ad.add (i * 2)).block, (ad.add (i * 2)).off + 1, none⟩ = some (.slice A1 r.length c1) ∧ r.length ≤ c1 ∧ Kd.C (Kd.int .i64) w A1 r.length r := by
 obtain ⟨ad, A1, c1, e, h1, h2, h3, h4⟩ := at_T34 h (i : Int) (by omega) (by omega)
 have hr : rd_T34 xs (i : Int) = ⟨m, r⟩ := by unfold rd_T34; rw [Int.toNat_natCast]; exact hq
 rw [hr] at h1 h2 h3 h4
 rw [Int.toNat_natCast] at h1 h2
 exact ⟨ad, A1, c1, e, h1, h2, h3, h4⟩
theorem fl_end0 (n i : Nat) (h2 : 2 ≤ n) (hn : n ≤ 1000) (h : i + 0 = n - 1) : ∃ ji : Int, ji = (n : Int) ∧ wrap64 ((i : Int) + 1) = ji ∧ IntKind.i64.wrap ((i : Int) + 1) = ji ∧ decide (ji < (n : Int)) = false ∧ i = n - 1 :=
 ⟨_, rfl, by unfold wrap64; omega, by rw [IntKind.wrap_i64]; omega, decide_eq_false (by omega), by omega⟩
theorem fl_step0 (n i k : Nat) (hn : n ≤ 1000) (h : i + (k + 1) = n - 1) : ∃ ji : Int, ji = ((i + 1 : Nat) : Int) ∧ wrap64 ((i : Int) + 1) = ji ∧ IntKind.i64.wrap ((i : Int) + 1) = ji ∧ decide (ji < (n : Int)) = true ∧ i + 1 + k = n - 1 ∧ i + 1 < n :=
 ⟨_, rfl, by unfold wrap64; omega, by rw [IntKind.wrap_i64]; omega, decide_eq_true (by omega), by omega, by omega⟩
theorem fl_end (n j : Nat) (hj : j + 0 = n) : decide ((j : Int) < (n : Int)) = false ∧ decide (j < n) = false := ⟨decide_eq_false (by omega), decide_eq_false (by omega)⟩
theorem fl_step (i n k : Nat) (hn : n ≤ 1000) (h : i + (k + 1) = n) : ∃ ji : Int, ji = ((i + 1 : Nat) : Int) ∧ wrap64 ((i : Int) + 1) = ji ∧ IntKind.i64.wrap ((i : Int) + 1) = ji ∧ i + 1 + k = n ∧ i < n ∧ decide ((i : Int) < (n : Int)) = true ∧ decide (i < n) = true ∧ ((0 : Int) ≤ (i : Int)) = True ∧ ((i : Int) < (n : Int)) = True ∧ ((0 : Int) ≤ ji) = True :=
 ⟨_, rfl, by unfold wrap64; omega, by rw [IntKind.wrap_i64]; omega, by omega, by omega, decide_eq_true (by omega), decide_eq_true (by omega), eq_true (by omega), eq_true (by omega), eq_true (by omega)⟩
theorem fl_prev (i n : Nat) (hn : n ≤ 1000) (h0 : ¬ i = 0) (h : i < n) : ∃ jp : Int, jp = ((i - 1 : Nat) : Int) ∧ jp.toNat = i - 1 ∧ wrap64 ((i : Int) - 1) = jp ∧ IntKind.i64.wrap ((i : Int) - 1) = jp ∧ ((0 : Int) ≤ jp) = True ∧ (jp < (n : Int)) = True ∧ decide ((0 : Int) < (i : Int)) = true ∧ decide (0 < i) = true ∧ decide ((i : Int) > 0) = true :=
 ⟨_, rfl, by omega, by unfold wrap64; omega, by rw [IntKind.wrap_i64]; omega, eq_true (by omega), eq_true (by omega), decide_eq_true (by omega), decide_eq_true (by omega), decide_eq_true (by omega)⟩
theorem fl_last (n : Nat) (hn : n ≤ 1000) : ∃ lm : Int, lm = (n : Int) - 1 ∧ wrap64 ((n : Int) - 1) = lm ∧ IntKind.i64.wrap ((n : Int) - 1) = lm := ⟨_, rfl, by unfold wrap64; omega, by rw [IntKind.wrap_i64]; omega⟩
noncomputable def fl_code44 : Code := (Try.f3.body.bind (tailFrom 44)).getD .skip
noncomputable def fl_if118 : Code := (Try.f3.body.bind (condAt 118)).getD .skip
noncomputable def fl_if166 : Code := (Try.f3.body.bind (condAt 166)).getD .skip
noncomputable def fl_if348 : Code := (Try.f3.body.bind (condAt 348)).getD .skip
noncomputable def fl_reg8 : Code := (Try.f3.body.bind (regAt 8)).getD .skip
set_option maxRecDepth 1000000 in
def FlTFr (A1 : Option Addr) (c1 : Nat) (l1 : List Int) (kk : Int) (g_BM : Nat) (mn : Int) (ml : List Int) (A_m : Option Addr) (c_m : Nat) (sv : Bool) (w : World) (f : Nat → Value) : Act := ⟨#[f 0, .slice A1 l1.length c1, f 2, f 3, f 4, f 5, f 6, f 7, f 8, f 9, f 10, f 11, f 12, f 13, f 14, f 15, f 16, f 17, f 18, f 19, f 20, f 21, f 22, f 23, f 24, f 25, f 26, f 27, f 28, f 29, f 30, f 31, f 32, f 33, f 34, f 35, f 36, f 37, f 38, f 39, f 40, f 41, f 42, f 43, f 44, .int .i64 kk, .pointer (some ⟨g_BM, 0, none⟩), .bool sv, f 48, f 49, f 50, f 51, f 52, f 53, f 54, f 55, f 56, f 57, f 58, f 59, f 60, f 61, f 62, f 63, f 64, f 65, f 66, f 67, f 68, f 69, f 70, f 71, f 72, f 73, f 74, f 75, f 76, f 77, f 78, f 79, f 80, f 81, f 82, f 83, f 84, f 85, f 86, f 87, f 88, f 89, f 90, f 91, f 92, f 93, f 94, f 95, f 96, f 97, f 98, f 99, f 100, f 101, f 102, f 103, f 104, f 105, f 106, f 107, f 108, f 109, f 110, f 111, f 112, f 113, f 114, f 115, f 116, f 117, f 118, f 119, f 120, f 121, f 122, f 123, f 124, f 125, f 126, f 127, f 128, f 129, f 130, f 131, f 132, f 133, f 134, f 135, f 136, f 137, f 138, f 139, f 140, f 141, f 142, f 143, f 144, f 145, f 146, f 147, f 148, f 149, f 150, f 151, f 152, f 153, f 154, f 155, f 156, f 157, f 158, f 159, f 160, f 161, f 162, f 163, f 164, f 165, f 166, f 167, f 168, f 169, f 170, f 171, f 172, f 173, f 174, f 175, f 176, f 177, f 178, f 179, f 180, f 181, f 182, f 183, f 184, f 185, f 186, f 187, f 188, f 189, f 190, f 191, f 192, f 193, f 194, f 195, f 196, f 197, f 198, f 199, f 200, f 201, f 202, f 203, f 204, f 205, f 206, f 207, f 208, f 209, f 210, f 211, f 212, f 213, f 214, f 215, f 216, f 217, f 218, f 219, f 220, f 221, f 222, f 223, f 224, f 225, f 226, f 227, f 228, f 229, f 230, f 231, f 232, f 233, f 234, f 235, f 236, f 237, f 238, f 239, f 240, f 241, f 242, f 243, f 244, f 245, f 246, f 247, f 248, f 249, f 250, f 251, f 252, f 253, f 254, f 255, f 256, f 257, f 258, f 259, f 260, f 261, f 262, f 263, f 264, f 265, f 266, f 267, f 268, f 269, f 270, f 271, f 272, f 273, f 274, f 275, f 276, f 277, f 278, f 279, f 280, f 281, f 282, f 283, f 284, f 285, f 286, f 287, f 288, f 289, f 290, f 291, f 292, f 293, f 294, f 295, f 296, f 297, f 298, f 299, f 300, f 301, f 302, f 303, f 304, f 305, f 306, f 307, f 308, f 309, f 310, f 311, f 312, f 313, f 314, f 315, f 316, f 317, f 318, f 319, f 320, f 321, f 322, f 323, f 324, f 325, f 326, f 327, f 328, f 329, f 330, f 331, f 332, f 333, f 334, f 335, f 336, f 337, f 338, f 339, f 340, f 341, f 342, f 343, f 344, f 345, f 346, f 347, f 348, f 349, f 350, f 351, f 352, f 353, f 354, f 355, f 356, f 357, f 358, f 359, f 360, f 361, f 362, f 363, f 364, f 365, f 366, f 367, f 368, f 369, f 370, f 371, f 372, f 373, f 374, f 375, f 376, f 377, f 378, f 379, f 380, f 381, f 382, f 383, f 384, f 385, f 386, f 387, f 388, f 389, f 390, f 391, f 392, f 393, f 394, f 395, f 396], []⟩
def FlT (A1 : Option Addr) (c1 : Nat) (l1 : List Int) (kk : Int) (g_BM : Nat) (mn : Int) (ml : List Int) (A_m : Option Addr) (c_m : Nat) (sv : Bool) (w : World) (a' : Act) (w' : World) : Prop := ∃ f : Nat → Value, Aside0 (Bag w w' [Ent.blk g_BM (.cells #[.int .i64 mn, .slice A_m ml.length c_m] 34 (0, 0)), Ent.of (Kd.int .i64) A_m c_m ml]) ∧ a' = FlTFr A1 c1 l1 kk g_BM mn ml A_m c_m sv w f
set_option maxRecDepth 1000000 in
theorem FlT.mk (A1 : Option Addr) (c1 : Nat) (l1 : List Int) (kk : Int) (g_BM : Nat) (mn : Int) (ml : List Int) (A_m : Option Addr) (c_m : Nat) (sv : Bool) (w : World) {w' : World} {L : List Value} (h : Bag w w' [Ent.blk g_BM (.cells #[.int .i64 mn, .slice A_m ml.length c_m] 34 (0, 0)), Ent.of (Kd.int .i64) A_m c_m ml]) (e : (⟨L.toArray, []⟩ : Act) = FlTFr A1 c1 l1 kk g_BM mn ml A_m c_m sv w (fun i => L.getD i .nilIface)) : FlT A1 c1 l1 kk g_BM mn ml A_m c_m sv w ⟨L.toArray, []⟩ w' := ⟨_, ⟨h⟩, e⟩
set_option maxHeartbeats 16000000 in
set_option maxRecDepth 1000000 in
theorem fl_c348 (q0 q2 q3 q4 q5 q6 q7 q8 q9 qa qb qc qd qe qf qg qh qi qj qk ql qm qn qo qp qq qr qs qt qu qv qw qx qy qz qA qB qC qF qG qH qI qM qN qO qP qQ qR qS qT qU qV qW qX qY qZ x0 x1 x2 x3 x4 x5 x6 x7 x8 x9 xa xb xc xd xe xf xg xh xi xj xk xl xm xn xo xp xq xr xs xt xu xv xw xx xy xz xA xB xC xD xE xF xG xH xI xJ xK xL xM xN xO xP xQ xR xS xT xU xV xW xX xY xZ y0 y1 y2 y3 y4 y5 y6 y7 y8 y9 ya yb yc yd ye yf yg yh yi yj yk yl ym yn yo yp yq yr ys yt yu yv yw yx yy yz yA yB yC yD yE yF yG yH yI yJ yK yL yM yN yO yP yQ yR yS yT yU yV yW yX yY yZ z0 z1 z2 z3 z4 z5 z6 z7 z8 z9 za zb zc zd ze zf zg zh zi zj zk zl zm zn zo zp zq zr zs zt zu zv zw zx zy zz zA zB zC zD zE zF zG zH zI zJ zK zL zM zN zO zP zQ zR zS zT zU zV zW zX zY zZ j0 j1 j2 j3 j4 j5 j6 j7 j8 j9 ja jb jc jd je jf jg jh ji jj jk jl jm jn jo jp jq jr js jt ju jv jw jx jy jz jA jB jC jD jE jF jG jH jI jJ jK jL jM jN jO jP jQ jR jS jT jU jV jW jX jY jZ v0 v1 v2 v3 v4 v5 v6 v7 v8 v9 va vb vc vd ve vf vg vh vi vj vk vl vm vn vo vp vq vr vs vt vu vv vw vx vy vz vA vB vD vE vF vG vH vI vJ vK vL vM vN vO vP vQ vR vS vT vU vV vW vX vY vZ u0 u1 u2 u3 u4 u5 u6 u7 u8 u9 ua ub uc ud ue uf ug uh ui uj uk ul um un uo : Value) (A1 : Option Addr) (c1 : Nat) (l1 : List Int) (kk : Int) (g_BM : Nat) (mn : Int) (ml : List Int) (A_m : Option Addr) (c_m : Nat) (sv : Bool) (w : World) (wc : World) (g_BB : Nat) (bn : Int) (bl : List Int) (A_b : Option Addr) (c_b : Nat) (rk : Int) (J K : Act → World → Prop) (Q' : Exit → Act → World → Prop) (hJ : ∀ a' w', FlT A1 c1 l1 kk g_BM mn ml A_m c_m sv w a' w' → J a' w') (hK : ∀ a' w', Met J a' w' → K a' w') (G : Aside0 (Bag w wc [Ent.blk g_BM (.cells #[.int .i64 mn, .slice A_m ml.length c_m] 34 (0, 0)), Ent.of (Kd.int .i64) A_m c_m ml, Ent.blk g_BB (.cells #[.int .i64 bn, .slice A_b bl.length c_b] 34 (0, 0)), Ent.of (Kd.int .i64) A_b c_b bl])) (HF : Aside0 (FlFive bn bl rk)) :
    Code.wp Try.prog fl_if348 (Exit.then K Q') ⟨#[q0, .slice A1 l1.length c1, q2, q3, q4, q5, q6, q7, q8, q9, qa, qb, qc, qd, qe, qf, qg, qh, qi, qj, qk, ql, qm, qn, qo, qp, qq, qr, qs, qt, qu, qv, qw, qx, qy, qz, qA, qB, qC, .pointer (some ⟨g_BB, 0, none⟩), .int .i64 rk, qF, qG, qH, qI, .int .i64 kk, .pointer (some ⟨g_BM, 0, none⟩), .bool sv, qM, qN, qO, qP, qQ, qR, qS, qT, qU, qV, qW, qX, qY, qZ, x0, x1, x2, x3, x4, x5, x6, x7, x8, x9, xa, xb, xc, xd, xe, xf, xg, xh, xi, xj, xk, xl, xm, xn, xo, xp, xq, xr, xs, xt, xu, xv, xw, xx, xy, xz, xA, xB, xC, xD, xE, xF, xG, xH, xI, xJ, xK, xL, xM, xN, xO, xP, xQ, xR, xS, xT, xU, xV, xW, xX, xY, xZ, y0, y1, y2, y3, y4, y5, y6, y7, y8, y9, ya, yb, yc, yd, ye, yf, yg, yh, yi, yj, yk, yl, ym, yn, yo, yp, yq, yr, ys, yt, yu, yv, yw, yx, yy, yz, yA, yB, yC, yD, yE, yF, yG, yH, yI, yJ, yK, yL, yM, yN, yO, yP, yQ, yR, yS, yT, yU, yV, yW, yX, yY, yZ, z0, z1, z2, z3, z4, z5, z6, z7, z8, z9, za, zb, zc, zd, ze, zf, zg, zh, zi, zj, zk, zl, zm, zn, zo, zp, zq, zr, zs, zt, zu, zv, zw, zx, zy, zz, zA, zB, zC, zD, zE, zF, zG, zH, zI, zJ, zK, zL, zM, zN, zO, zP, zQ, zR, zS, zT, zU, zV, zW, zX, zY, zZ, j0, j1, j2, j3, j4, j5, j6, j7, j8, j9, ja, jb, jc, jd, je, jf, jg, jh, ji, jj, jk, jl, jm, jn, jo, jp, jq, jr, js, jt, ju, jv, jw, jx, jy, jz, jA, jB, jC, jD, jE, jF, jG, jH, jI, jJ, jK, jL, jM, jN, jO, jP, jQ, jR, jS, jT, jU, jV, jW, jX, jY, jZ, v0, v1, v2, v3, v4, v5, v6, v7, v8, v9, va, vb, vc, vd, ve, vf, vg, vh, vi, vj, vk, vl, vm, vn, vo, vp, vq, vr, vs, vt, vu, vv, vw, vx, vy, vz, vA, vB, .bool true, vD, vE, vF, vG, vH, vI, vJ, vK, vL, vM, vN, vO, vP, vQ, vR, vS, vT, vU, vV, vW, vX, vY, vZ, u0, u1, u2, u3, u4, u5, u6, u7, u8, u9, ua, ub, uc, ud, ue, uf, ug, uh, ui, uj, uk, ul, um, un, uo], []⟩ wc := by
  conv => arg 2; whnf
  have hu40 := Try.underlying34
  have tok0 := Aside0.mk True.intro
  obtain ⟨u, h1, h2, h3, h4⟩ := HF.out
  obtain ⟨k_h1, x_h1⟩ := h1
  have H1 := Aside0.mk x_h1
  clear x_h1
  have H2 := Aside0.mk h2
  obtain ⟨k_h3, x_h3⟩ := h3
  have H3 := Aside0.mk x_h3
  clear x_h3
  obtain ⟨k_h4, x_h4⟩ := h4
  have H4 := Aside0.mk x_h4
  clear x_h4
  clear HF
  (try clear hc_BM0)
  have hc_BM0 : wc.cell? ⟨g_BM, 0, none⟩ = some (.int .i64 mn) := blk_cell (G.out.k 0 rfl) 0
  (try clear hc_BM1)
  have hc_BM1 : wc.cell? ⟨g_BM, 1, none⟩ = some (.slice A_m ml.length c_m) := blk_cell (G.out.k 0 rfl) 1
  (try clear hc_BB0)
  have hc_BB0 : wc.cell? ⟨g_BB, 0, none⟩ = some (.int .i64 bn) := blk_cell (G.out.k 2 rfl) 0
  (try clear hc_BB1)
  have hc_BB1 : wc.cell? ⟨g_BB, 1, none⟩ = some (.slice A_b bl.length c_b) := blk_cell (G.out.k 2 rfl) 1
  go_wp2_with (first | (go_at_call 13; have tk_ := tok0; clear tk_ tok0; (with_reducible refine (impl_ResultOf.calls _ (bn) _ _ (bl) _ _ _ ?sd0_ ?sd1_ H1.out).mono ?_); (case sd0_ => repeat (first | exact G.out.c 3 rfl | (with_reducible refine Kd.C_drewN ?_ _) | (with_reducible refine Kd.C_drew ?_))); (case sd1_ => exact G.out.l 3 rfl); rintro e w' ⟨v0_, rfl, ho0, hb⟩; obtain ⟨A_u, c_u, e_⟩ := Kd.R_slice ho0; subst e_; replace G := Aside0.mk (G.out.addR hb ho0); clear ho0 hb; (try clear hc_BM0); have hc_BM0 : w'.cell? ⟨g_BM, 0, none⟩ = some (.int .i64 mn) := blk_cell (G.out.k 1 rfl) 0; (try clear hc_BM1); have hc_BM1 : w'.cell? ⟨g_BM, 1, none⟩ = some (.slice A_m ml.length c_m) := blk_cell (G.out.k 1 rfl) 1; (try clear hc_BB0); have hc_BB0 : w'.cell? ⟨g_BB, 0, none⟩ = some (.int .i64 bn) := blk_cell (G.out.k 3 rfl) 0; (try clear hc_BB1); have hc_BB1 : w'.cell? ⟨g_BB, 1, none⟩ = some (.slice A_b bl.length c_b) := blk_cell (G.out.k 3 rfl) 1; have tok1 := Aside0.mk True.intro) | (go_at_call 17; have tk_ := tok1; clear tk_ tok1; (with_reducible refine (impl_LeastOfRank.calls _ _ (u) (rk) _ _ _ _ ?sd0_ ?sd1_ H2.out).mono ?_); (case sd0_ => repeat (first | exact G.out.c 0 rfl | (with_reducible refine Kd.C_drewN ?_ _) | (with_reducible refine Kd.C_drew ?_))); (case sd1_ => exact G.out.l 0 rfl); rintro e w' ⟨v1_, rfl, ho1, hb⟩; obtain ⟨A_bk, c_bk, e_⟩ := Kd.R_slice ho1; subst e_; replace G := Aside0.mk (G.out.addR hb ho1); clear ho1 hb; (try clear hc_BM0); have hc_BM0 : w'.cell? ⟨g_BM, 0, none⟩ = some (.int .i64 mn) := blk_cell (G.out.k 2 rfl) 0; (try clear hc_BM1); have hc_BM1 : w'.cell? ⟨g_BM, 1, none⟩ = some (.slice A_m ml.length c_m) := blk_cell (G.out.k 2 rfl) 1; (try clear hc_BB0); have hc_BB0 : w'.cell? ⟨g_BB, 0, none⟩ = some (.int .i64 bn) := blk_cell (G.out.k 4 rfl) 0; (try clear hc_BB1); have hc_BB1 : w'.cell? ⟨g_BB, 1, none⟩ = some (.slice A_b bl.length c_b) := blk_cell (G.out.k 4 rfl) 1; (try clear hd_BM0); have hd_BM0 : (w'.alloc (.cells #[.int .i64 bn, .slice A_bk bl.length c_bk] 34 (0, 0))).cell? ⟨g_BM, 0, none⟩ = some (.int .i64 mn) := blk_cell (blk_alloc (G.out.k 2 rfl) (.cells #[.int .i64 bn, .slice A_bk bl.length c_bk] 34 (0, 0))) 0; (try clear hd_BM1); have hd_BM1 : (w'.alloc (.cells #[.int .i64 bn, .slice A_bk bl.length c_bk] 34 (0, 0))).cell? ⟨g_BM, 1, none⟩ = some (.slice A_m ml.length c_m) := blk_cell (blk_alloc (G.out.k 2 rfl) (.cells #[.int .i64 bn, .slice A_bk bl.length c_bk] 34 (0, 0))) 1; (try clear hd_BB0); have hd_BB0 : (w'.alloc (.cells #[.int .i64 bn, .slice A_bk bl.length c_bk] 34 (0, 0))).cell? ⟨g_BB, 0, none⟩ = some (.int .i64 bn) := blk_cell (blk_alloc (G.out.k 4 rfl) (.cells #[.int .i64 bn, .slice A_bk bl.length c_bk] 34 (0, 0))) 0; (try clear hd_BB1); have hd_BB1 : (w'.alloc (.cells #[.int .i64 bn, .slice A_bk bl.length c_bk] 34 (0, 0))).cell? ⟨g_BB, 1, none⟩ = some (.slice A_b bl.length c_b) := blk_cell (blk_alloc (G.out.k 4 rfl) (.cells #[.int .i64 bn, .slice A_bk bl.length c_bk] 34 (0, 0))) 1; have tok2 := Aside0.mk True.intro) | (go_at_call 26; have tk_ := tok2; clear tk_ tok2; replace G := Aside0.mk (G.out.box (.cells #[.int .i64 bn, .slice A_bk bl.length c_bk] 34 (0, 0))); generalize World.alloc w' (.cells #[.int .i64 bn, .slice A_bk bl.length c_bk] 34 (0, 0)) = wb_BK at G ⊢; generalize w'.heap.size = g_BK at G ⊢; obtain ⟨w', ew_⟩ : ∃ x_, x_ = wb_BK := ⟨_, rfl⟩; subst ew_; (with_reducible refine (impl_IsLeast.calls _ (bn) _ _ (bl) _ _ _ ?sd0_ ?sd1_ H3.out).mono ?_); (case sd0_ => repeat (first | exact G.out.c 6 rfl | (with_reducible refine Kd.C_drewN ?_ _) | (with_reducible refine Kd.C_drew ?_))); (case sd1_ => exact G.out.l 6 rfl); rintro e w' ⟨rfl, hb⟩; replace G := Aside0.mk (G.out.step hb); clear hb; (try clear hc_BK0); have hc_BK0 : w'.cell? ⟨g_BK, 0, none⟩ = some (.int .i64 bn) := blk_cell (G.out.k 0 rfl) 0; (try clear hc_BK1); have hc_BK1 : w'.cell? ⟨g_BK, 1, none⟩ = some (.slice A_bk bl.length c_bk) := blk_cell (G.out.k 0 rfl) 1; (try clear hc_BM0); have hc_BM0 : w'.cell? ⟨g_BM, 0, none⟩ = some (.int .i64 mn) := blk_cell (G.out.k 3 rfl) 0; (try clear hc_BM1); have hc_BM1 : w'.cell? ⟨g_BM, 1, none⟩ = some (.slice A_m ml.length c_m) := blk_cell (G.out.k 3 rfl) 1; (try clear hc_BB0); have hc_BB0 : w'.cell? ⟨g_BB, 0, none⟩ = some (.int .i64 bn) := blk_cell (G.out.k 5 rfl) 0; (try clear hc_BB1); have hc_BB1 : w'.cell? ⟨g_BB, 1, none⟩ = some (.slice A_b bl.length c_b) := blk_cell (G.out.k 5 rfl) 1; have tok3 := Aside0.mk True.intro) | (go_at_call 18; have tk_ := tok3; clear tk_ tok3; (with_reducible refine (laws_nLadder.calls _ (bn) _ _ (bl) (bn) _ _ (bl) _ _ ?sd0_ ?sd1_ ?sd2_ ?sd3_ H4.out).mono ?_); (case sd0_ => repeat (first | exact G.out.c 1 rfl | (with_reducible refine Kd.C_drewN ?_ _) | (with_reducible refine Kd.C_drew ?_))); (case sd1_ => exact G.out.l 1 rfl); (case sd2_ => repeat (first | exact G.out.c 6 rfl | (with_reducible refine Kd.C_drewN ?_ _) | (with_reducible refine Kd.C_drew ?_))); (case sd3_ => exact G.out.l 6 rfl); rintro e w' ⟨rfl, hb⟩; replace G := Aside0.mk (G.out.step hb); clear hb; (try clear hc_BK0); have hc_BK0 : w'.cell? ⟨g_BK, 0, none⟩ = some (.int .i64 bn) := blk_cell (G.out.k 0 rfl) 0; (try clear hc_BK1); have hc_BK1 : w'.cell? ⟨g_BK, 1, none⟩ = some (.slice A_bk bl.length c_bk) := blk_cell (G.out.k 0 rfl) 1; (try clear hc_BM0); have hc_BM0 : w'.cell? ⟨g_BM, 0, none⟩ = some (.int .i64 mn) := blk_cell (G.out.k 3 rfl) 0; (try clear hc_BM1); have hc_BM1 : w'.cell? ⟨g_BM, 1, none⟩ = some (.slice A_m ml.length c_m) := blk_cell (G.out.k 3 rfl) 1; (try clear hc_BB0); have hc_BB0 : w'.cell? ⟨g_BB, 0, none⟩ = some (.int .i64 bn) := blk_cell (G.out.k 5 rfl) 0; (try clear hc_BB1); have hc_BB1 : w'.cell? ⟨g_BB, 1, none⟩ = some (.slice A_b bl.length c_b) := blk_cell (G.out.k 5 rfl) 1; have tok4 := Aside0.mk True.intro))
  refine Met.intro (hJ _ _ (FlT.mk A1 c1 l1 kk g_BM mn ml A_m c_m sv w (by first | exact G.out.pick [3, 4] | exact (G.out.step (by repeat (first | exact Below.refl _ _ | apply pw_below_drewN | apply below_drew1 | apply below_alloc))).pick [3, 4]) (by kernel_rfl)))
set_option maxHeartbeats 16000000 in
set_option maxRecDepth 1000000 in
theorem fl_tail (q0 q2 q3 q4 q5 q6 q7 q8 q9 qa qb qc qd qe qf qg qh qi qj qk ql qm qn qo qp qq qr qs qt qu qv qw qx qy qz qA qB qC qD qE qF qG qH qI qJ qK qL qM qN qO qP qQ qR qS qT qU qV qW qX qY qZ x0 x1 x2 x3 x4 x5 x6 x7 x8 x9 xa xb xc xd xe xf xg xh xi xj xk xl xm xn xo xp xq xr xs xt xu xv xw xx xy xz xA xB xC xD xE xF xG xH xI xJ xK xL xM xN xO xP xQ xR xS xT xU xV xW xX xY xZ y0 y1 y2 y3 y4 y5 y6 y7 y8 y9 ya yb yc yd ye yf yg yh yi yj yk yl ym yn yo yp yq yr ys yt yu yv yw yx yy yz yA yB yC yD yE yF yG yH yI yJ yK yL yM yN yO yP yQ yR yS yT yU yV yW yX yY yZ z0 z1 z2 z3 z4 z5 z6 z7 z8 z9 za zb zc zd ze zf zg zh zi zj zk zl zm zn zo zp zq zr zs zt zu zv zw zx zy zz zA zB zC zD zE zF zG zH zI zJ zK zL zM zN zO zP zQ zR zS zT zU zV zW zX zY zZ j0 j1 j2 j3 j4 j5 j6 j7 j8 j9 ja jb jc jd je jf jg jh ji jj jk jl jm jn jo jp jq jr js jt ju jv jw jx jy jz jA jB jC jD jE jF jG jH jI jJ jK jL jM jN jO jP jQ jR jS jT jU jV jW jX jY jZ v0 v1 v2 v3 v4 v5 v6 v7 v8 v9 va vb vc vd ve vf vg vh vi vj vk vl vm vn vo vp vq vr vs vt vu vv vw vx vy vz vA vB vC vD vE vF vG vH vI vJ vK vL vM vN vO vP vQ vR vS vT vU vV vW vX vY vZ u0 u1 u2 u3 u4 u5 u6 u7 u8 u9 ua ub uc ud ue uf ug uh ui uj uk ul um un uo : Value) (A1 : Option Addr) (c1 : Nat) (l1 : List Int) (w wc : World) (HR1 : Aside0 (Kd.C (Kd.int .u8) w A1 l1.length l1)) (HC1 : Aside0 (l1.length ≤ c1)) (G : Aside0 (Bag w wc [])) (HT : Aside0 (FlTail l1)) :
    Code.wp Try.prog fl_code44 (bodyPost Try.prog Try.f3 fun e w' => e = .returned (.bool true) ∧ Below w.heap.size w w') ⟨#[q0, .slice A1 l1.length c1, q2, q3, q4, q5, q6, q7, q8, q9, qa, qb, qc, qd, qe, qf, qg, qh, qi, qj, qk, ql, qm, qn, qo, qp, qq, qr, qs, qt, qu, qv, qw, qx, qy, qz, qA, qB, qC, qD, qE, qF, qG, qH, qI, qJ, qK, qL, qM, qN, qO, qP, qQ, qR, qS, qT, qU, qV, qW, qX, qY, qZ, x0, x1, x2, x3, x4, x5, x6, x7, x8, x9, xa, xb, xc, xd, xe, xf, xg, xh, xi, xj, xk, xl, xm, xn, xo, xp, xq, xr, xs, xt, xu, xv, xw, xx, xy, xz, xA, xB, xC, xD, xE, xF, xG, xH, xI, xJ, xK, xL, xM, xN, xO, xP, xQ, xR, xS, xT, xU, xV, xW, xX, xY, xZ, y0, y1, y2, y3, y4, y5, y6, y7, y8, y9, ya, yb, yc, yd, ye, yf, yg, yh, yi, yj, yk, yl, ym, yn, yo, yp, yq, yr, ys, yt, yu, yv, yw, yx, yy, yz, yA, yB, yC, yD, yE, yF, yG, yH, yI, yJ, yK, yL, yM, yN, yO, yP, yQ, yR, yS, yT, yU, yV, yW, yX, yY, yZ, z0, z1, z2, z3, z4, z5, z6, z7, z8, z9, za, zb, zc, zd, ze, zf, zg, zh, zi, zj, zk, zl, zm, zn, zo, zp, zq, zr, zs, zt, zu, zv, zw, zx, zy, zz, zA, zB, zC, zD, zE, zF, zG, zH, zI, zJ, zK, zL, zM, zN, zO, zP, zQ, zR, zS, zT, zU, zV, zW, zX, zY, zZ, j0, j1, j2, j3, j4, j5, j6, j7, j8, j9, ja, jb, jc, jd, je, jf, jg, jh, ji, jj, jk, jl, jm, jn, jo, jp, jq, jr, js, jt, ju, jv, jw, jx, jy, jz, jA, jB, jC, jD, jE, jF, jG, jH, jI, jJ, jK, jL, jM, jN, jO, jP, jQ, jR, jS, jT, jU, jV, jW, jX, jY, jZ, v0, v1, v2, v3, v4, v5, v6, v7, v8, v9, va, vb, vc, vd, ve, vf, vg, vh, vi, vj, vk, vl, vm, vn, vo, vp, vq, vr, vs, vt, vu, vv, vw, vx, vy, vz, vA, vB, vC, vD, vE, vF, vG, vH, vI, vJ, vK, vL, vM, vN, vO, vP, vQ, vR, vS, vT, vU, vV, vW, vX, vY, vZ, u0, u1, u2, u3, u4, u5, u6, u7, u8, u9, ua, ub, uc, ud, ue, uf, ug, uh, ui, uj, uk, ul, um, un, uo], []⟩ wc := by
  conv => arg 2; whnf
  have hu40 := Try.underlying34
  obtain ⟨ql, rg, fc, th, bn, bl, rk, fv, rr, kk, mn, ml, sv, h1, h2, h3, h4, h5, h6, h7, h8, h9, h10, hF, hS⟩ := HT.out
  obtain ⟨k_h1, x_h1⟩ := h1
  have H1 := Aside0.mk x_h1
  clear x_h1
  have H2 := Aside0.mk h2
  have H3 := Aside0.mk h3
  obtain ⟨k_h4, x_h4⟩ := h4
  have H4 := Aside0.mk x_h4
  clear x_h4
  have H5 := Aside0.mk h5
  have H6 := Aside0.mk h6
  obtain ⟨k_h7, x_h7⟩ := h7
  have H7 := Aside0.mk x_h7
  clear x_h7
  have H8 := Aside0.mk h8
  have H9 := Aside0.mk h9
  obtain ⟨k_h10, x_h10⟩ := h10
  have H10 := Aside0.mk x_h10
  clear x_h10
  have HF := Aside0.mk hF
  have HS := Aside0.mk hS
  clear HT hF hS
  have tok0 := Aside0.mk True.intro
  go_upto_if 348 with (first | (go_at_call 20; have tk_ := tok0; clear tk_ tok0; (with_reducible refine (spec_DrawCountFirst.calls _ _ _ (l1) _ _ _ ?sd0_ ?sd1_ H1.out).mono ?_); (case sd0_ => repeat (first | exact Kd.C_below HR1.out G.out.b | (with_reducible refine Kd.C_drewN ?_ _) | (with_reducible refine Kd.C_drew ?_))); (case sd1_ => exact HC1.out); rintro e w' ⟨v0_, rfl, ho0, hb⟩; obtain ⟨A_q, c_q, e_⟩ := Kd.R_slice ho0; subst e_; replace G := Aside0.mk (G.out.addR hb ho0); clear ho0 hb; have tok1 := Aside0.mk True.intro) | (go_at_call 11; have tk_ := tok1; clear tk_ tok1; (with_reducible refine (impl_CountFirst.calls _ _ (ql) (rg) _ _ _ ?sd0_ ?sd1_ H2.out).mono ?_); (case sd0_ => repeat (first | exact G.out.c 0 rfl | (with_reducible refine Kd.C_drewN ?_ _) | (with_reducible refine Kd.C_drew ?_))); (case sd1_ => exact G.out.l 0 rfl); rintro e w' ⟨rfl, hb⟩; replace G := Aside0.mk (G.out.step hb); clear hb; have tok2 := Aside0.mk True.intro) | (go_at_call 21; have tk_ := tok2; clear tk_ tok2; (with_reducible refine (spec_CountFirst.calls _ _ (ql) (rg) _ _ _ ?sd0_ ?sd1_ H3.out).mono ?_); (case sd0_ => repeat (first | exact G.out.c 0 rfl | (with_reducible refine Kd.C_drewN ?_ _) | (with_reducible refine Kd.C_drew ?_))); (case sd1_ => exact G.out.l 0 rfl); rintro e w' ⟨rfl, hb⟩; replace G := Aside0.mk (G.out.step hb); clear hb; have tok3 := Aside0.mk True.intro) | (go_at_call 22; have tk_ := tok3; clear tk_ tok3; (with_reducible refine (spec_DrawRankOfLeast.calls _ _ _ (l1) _ _ _ ?sd0_ ?sd1_ H4.out).mono ?_); (case sd0_ => repeat (first | exact Kd.C_below HR1.out G.out.b | (with_reducible refine Kd.C_drewN ?_ _) | (with_reducible refine Kd.C_drew ?_))); (case sd1_ => exact HC1.out); rintro e w' ⟨v1_, rfl, ho1, hb⟩; obtain ⟨A_b, c_b, e_⟩ := Kd.R_slice ho1; subst e_; replace G := Aside0.mk (G.out.addR hb ho1); clear ho1 hb; have tok4 := Aside0.mk True.intro) | (go_at_call 16; have tk_ := tok4; clear tk_ tok4; replace G := Aside0.mk (G.out.box (.cells #[.int .i64 bn, .slice A_b bl.length c_b] 34 (0, 0))); generalize World.alloc w' (.cells #[.int .i64 bn, .slice A_b bl.length c_b] 34 (0, 0)) = wb_BB at G ⊢; generalize w'.heap.size = g_BB at G ⊢; obtain ⟨w', ew_⟩ : ∃ x_, x_ = wb_BB := ⟨_, rfl⟩; subst ew_; (with_reducible refine (impl_RankOfLeast.calls (bn) _ _ (bl) _ _ _ ?sd0_ ?sd1_ H5.out).mono ?_); (case sd0_ => repeat (first | exact G.out.c 1 rfl | (with_reducible refine Kd.C_drewN ?_ _) | (with_reducible refine Kd.C_drew ?_))); (case sd1_ => exact G.out.l 1 rfl); rintro e w' ⟨rfl, hb⟩; replace G := Aside0.mk (G.out.step hb); clear hb; (try clear hc_BB0); have hc_BB0 : w'.cell? ⟨g_BB, 0, none⟩ = some (.int .i64 bn) := blk_cell (G.out.k 0 rfl) 0; (try clear hc_BB1); have hc_BB1 : w'.cell? ⟨g_BB, 1, none⟩ = some (.slice A_b bl.length c_b) := blk_cell (G.out.k 0 rfl) 1; have tok5 := Aside0.mk True.intro) | (go_at_call 23; have tk_ := tok5; clear tk_ tok5; (with_reducible refine (spec_RankOfLeast.calls (bn) _ _ (bl) _ _ _ ?sd0_ ?sd1_ H6.out).mono ?_); (case sd0_ => repeat (first | exact G.out.c 1 rfl | (with_reducible refine Kd.C_drewN ?_ _) | (with_reducible refine Kd.C_drew ?_))); (case sd1_ => exact G.out.l 1 rfl); rintro e w' ⟨rfl, hb⟩; replace G := Aside0.mk (G.out.step hb); clear hb; (try clear hc_BB0); have hc_BB0 : w'.cell? ⟨g_BB, 0, none⟩ = some (.int .i64 bn) := blk_cell (G.out.k 0 rfl) 0; (try clear hc_BB1); have hc_BB1 : w'.cell? ⟨g_BB, 1, none⟩ = some (.slice A_b bl.length c_b) := blk_cell (G.out.k 0 rfl) 1; have tok6 := Aside0.mk True.intro) | (go_at_call 24; have tk_ := tok6; clear tk_ tok6; (with_reducible refine (spec_DrawLeastOfRank.calls _ _ _ (l1) _ _ _ ?sd0_ ?sd1_ H7.out).mono ?_); (case sd0_ => repeat (first | exact Kd.C_below HR1.out G.out.b | (with_reducible refine Kd.C_drewN ?_ _) | (with_reducible refine Kd.C_drew ?_))); (case sd1_ => exact HC1.out); rintro e w' ⟨v0_, rfl, ho0, hb⟩; obtain ⟨A_r, c_r, e_⟩ := Kd.R_slice ho0; subst e_; replace G := Aside0.mk (G.out.addR hb ho0); clear ho0 hb; (try clear hc_BB0); have hc_BB0 : w'.cell? ⟨g_BB, 0, none⟩ = some (.int .i64 bn) := blk_cell (G.out.k 1 rfl) 0; (try clear hc_BB1); have hc_BB1 : w'.cell? ⟨g_BB, 1, none⟩ = some (.slice A_b bl.length c_b) := blk_cell (G.out.k 1 rfl) 1; have tok7 := Aside0.mk True.intro) | (go_at_call 17; have tk_ := tok7; clear tk_ tok7; (with_reducible refine (impl_LeastOfRank.calls _ _ (rr) (kk) _ _ _ _ ?sd0_ ?sd1_ H8.out).mono ?_); (case sd0_ => repeat (first | exact G.out.c 0 rfl | (with_reducible refine Kd.C_drewN ?_ _) | (with_reducible refine Kd.C_drew ?_))); (case sd1_ => exact G.out.l 0 rfl); rintro e w' ⟨v1_, rfl, ho1, hb⟩; obtain ⟨A_m, c_m, e_⟩ := Kd.R_slice ho1; subst e_; replace G := Aside0.mk (G.out.addR hb ho1); clear ho1 hb; (try clear hc_BB0); have hc_BB0 : w'.cell? ⟨g_BB, 0, none⟩ = some (.int .i64 bn) := blk_cell (G.out.k 2 rfl) 0; (try clear hc_BB1); have hc_BB1 : w'.cell? ⟨g_BB, 1, none⟩ = some (.slice A_b bl.length c_b) := blk_cell (G.out.k 2 rfl) 1; (try clear hd_BB0); have hd_BB0 : (w'.alloc (.cells #[.int .i64 mn, .slice A_m ml.length c_m] 34 (0, 0))).cell? ⟨g_BB, 0, none⟩ = some (.int .i64 bn) := blk_cell (blk_alloc (G.out.k 2 rfl) (.cells #[.int .i64 mn, .slice A_m ml.length c_m] 34 (0, 0))) 0; (try clear hd_BB1); have hd_BB1 : (w'.alloc (.cells #[.int .i64 mn, .slice A_m ml.length c_m] 34 (0, 0))).cell? ⟨g_BB, 1, none⟩ = some (.slice A_b bl.length c_b) := blk_cell (blk_alloc (G.out.k 2 rfl) (.cells #[.int .i64 mn, .slice A_m ml.length c_m] 34 (0, 0))) 1; have tok8 := Aside0.mk True.intro) | (go_at_call 25; have tk_ := tok8; clear tk_ tok8; replace G := Aside0.mk (G.out.box (.cells #[.int .i64 mn, .slice A_m ml.length c_m] 34 (0, 0))); generalize World.alloc w' (.cells #[.int .i64 mn, .slice A_m ml.length c_m] 34 (0, 0)) = wb_BM at G ⊢; generalize w'.heap.size = g_BM at G ⊢; obtain ⟨w', ew_⟩ : ∃ x_, x_ = wb_BM := ⟨_, rfl⟩; subst ew_; (with_reducible refine (spec_LeastOfRank.calls _ _ (rr) (kk) _ _ _ _ ?sd0_ ?sd1_ H9.out).mono ?_); (case sd0_ => repeat (first | exact G.out.c 2 rfl | (with_reducible refine Kd.C_drewN ?_ _) | (with_reducible refine Kd.C_drew ?_))); (case sd1_ => exact G.out.l 2 rfl); rintro e w' ⟨v1_, rfl, ho1, hb⟩; obtain ⟨A_d, c_d, e_⟩ := Kd.R_slice ho1; subst e_; replace G := Aside0.mk (G.out.addR hb ho1); clear ho1 hb; (try clear hc_BM0); have hc_BM0 : w'.cell? ⟨g_BM, 0, none⟩ = some (.int .i64 mn) := blk_cell (G.out.k 1 rfl) 0; (try clear hc_BM1); have hc_BM1 : w'.cell? ⟨g_BM, 1, none⟩ = some (.slice A_m ml.length c_m) := blk_cell (G.out.k 1 rfl) 1; (try clear hc_BB0); have hc_BB0 : w'.cell? ⟨g_BB, 0, none⟩ = some (.int .i64 bn) := blk_cell (G.out.k 4 rfl) 0; (try clear hc_BB1); have hc_BB1 : w'.cell? ⟨g_BB, 1, none⟩ = some (.slice A_b bl.length c_b) := blk_cell (G.out.k 4 rfl) 1; (try clear hd_BM0); have hd_BM0 : (w'.alloc (.cells #[.int .i64 mn, .slice A_d ml.length c_d] 34 (0, 0))).cell? ⟨g_BM, 0, none⟩ = some (.int .i64 mn) := blk_cell (blk_alloc (G.out.k 1 rfl) (.cells #[.int .i64 mn, .slice A_d ml.length c_d] 34 (0, 0))) 0; (try clear hd_BM1); have hd_BM1 : (w'.alloc (.cells #[.int .i64 mn, .slice A_d ml.length c_d] 34 (0, 0))).cell? ⟨g_BM, 1, none⟩ = some (.slice A_m ml.length c_m) := blk_cell (blk_alloc (G.out.k 1 rfl) (.cells #[.int .i64 mn, .slice A_d ml.length c_d] 34 (0, 0))) 1; (try clear hd_BB0); have hd_BB0 : (w'.alloc (.cells #[.int .i64 mn, .slice A_d ml.length c_d] 34 (0, 0))).cell? ⟨g_BB, 0, none⟩ = some (.int .i64 bn) := blk_cell (blk_alloc (G.out.k 4 rfl) (.cells #[.int .i64 mn, .slice A_d ml.length c_d] 34 (0, 0))) 0; (try clear hd_BB1); have hd_BB1 : (w'.alloc (.cells #[.int .i64 mn, .slice A_d ml.length c_d] 34 (0, 0))).cell? ⟨g_BB, 1, none⟩ = some (.slice A_b bl.length c_b) := blk_cell (blk_alloc (G.out.k 4 rfl) (.cells #[.int .i64 mn, .slice A_d ml.length c_d] 34 (0, 0))) 1; have tok9 := Aside0.mk True.intro) | (go_at_call 18; have tk_ := tok9; clear tk_ tok9; replace G := Aside0.mk (G.out.box (.cells #[.int .i64 mn, .slice A_d ml.length c_d] 34 (0, 0))); generalize World.alloc w' (.cells #[.int .i64 mn, .slice A_d ml.length c_d] 34 (0, 0)) = wb_BD at G ⊢; generalize w'.heap.size = g_BD at G ⊢; obtain ⟨w', ew_⟩ : ∃ x_, x_ = wb_BD := ⟨_, rfl⟩; subst ew_; (with_reducible refine (laws_nLadder.calls _ (mn) _ _ (ml) (mn) _ _ (ml) _ _ ?sd0_ ?sd1_ ?sd2_ ?sd3_ H10.out).mono ?_); (case sd0_ => repeat (first | exact G.out.c 3 rfl | (with_reducible refine Kd.C_drewN ?_ _) | (with_reducible refine Kd.C_drew ?_))); (case sd1_ => exact G.out.l 3 rfl); (case sd2_ => repeat (first | exact G.out.c 1 rfl | (with_reducible refine Kd.C_drewN ?_ _) | (with_reducible refine Kd.C_drew ?_))); (case sd3_ => exact G.out.l 1 rfl); rintro e w' ⟨rfl, hb⟩; replace G := Aside0.mk (G.out.step hb); clear hb; (try clear hc_BD0); have hc_BD0 : w'.cell? ⟨g_BD, 0, none⟩ = some (.int .i64 mn) := blk_cell (G.out.k 0 rfl) 0; (try clear hc_BD1); have hc_BD1 : w'.cell? ⟨g_BD, 1, none⟩ = some (.slice A_d ml.length c_d) := blk_cell (G.out.k 0 rfl) 1; (try clear hc_BM0); have hc_BM0 : w'.cell? ⟨g_BM, 0, none⟩ = some (.int .i64 mn) := blk_cell (G.out.k 2 rfl) 0; (try clear hc_BM1); have hc_BM1 : w'.cell? ⟨g_BM, 1, none⟩ = some (.slice A_m ml.length c_m) := blk_cell (G.out.k 2 rfl) 1; (try clear hc_BB0); have hc_BB0 : w'.cell? ⟨g_BB, 0, none⟩ = some (.int .i64 bn) := blk_cell (G.out.k 5 rfl) 0; (try clear hc_BB1); have hc_BB1 : w'.cell? ⟨g_BB, 1, none⟩ = some (.slice A_b bl.length c_b) := blk_cell (G.out.k 5 rfl) 1; have tok10 := Aside0.mk True.intro))
  refine wp_cut (FlT A1 c1 l1 kk g_BM mn ml A_m c_m sv w) ?_ ?_
  · intro a' w' h
    clear G
    obtain ⟨f, G, rfl⟩ := h
    rename ∀ (a : Act) (w : World), Code.wp _ _ _ a w → _ => aK
    refine aK _ _ ?_
    clear aK
    dsimp only [FlTFr]
    clear H1 H2 H3 H4 H5 H6 H7 H8 H9 H10
    cases sv with
    | false =>
      go_wp2
      go_ret
      exact ⟨by first | rfl | (simp; done) | (simp [*]; done), G.out.b⟩
    | true =>
      have h20 := HS.out rfl
      have H20 := Aside0.mk h20
      (try clear hc_BM0)
      have hc_BM0 : w'.cell? ⟨g_BM, 0, none⟩ = some (.int .i64 mn) := blk_cell (G.out.k 0 rfl) 0
      (try clear hc_BM1)
      have hc_BM1 : w'.cell? ⟨g_BM, 1, none⟩ = some (.slice A_m ml.length c_m) := blk_cell (G.out.k 0 rfl) 1
      have tok0 := Aside0.mk True.intro
      go_wp2_with (first | (go_at_call 16; have tk_ := tok0; clear tk_ tok0; (with_reducible refine (impl_RankOfLeast.calls (mn) _ _ (ml) _ _ _ ?sd0_ ?sd1_ H20.out).mono ?_); (case sd0_ => repeat (first | exact G.out.c 1 rfl | (with_reducible refine Kd.C_drewN ?_ _) | (with_reducible refine Kd.C_drew ?_))); (case sd1_ => exact G.out.l 1 rfl); rintro e w' ⟨rfl, hb⟩; replace G := Aside0.mk (G.out.step hb); clear hb; (try clear hc_BM0); have hc_BM0 : w'.cell? ⟨g_BM, 0, none⟩ = some (.int .i64 mn) := blk_cell (G.out.k 0 rfl) 0; (try clear hc_BM1); have hc_BM1 : w'.cell? ⟨g_BM, 1, none⟩ = some (.slice A_m ml.length c_m) := blk_cell (G.out.k 0 rfl) 1; have tok1 := Aside0.mk True.intro))
      go_ret
      exact ⟨by first | rfl | (simp; done) | (simp [*]; done), G.out.b⟩
  · intro J K hJ hK
    cases fv with
    | false =>
      go_wp2
      refine Met.intro (hJ _ _ (FlT.mk A1 c1 l1 kk g_BM mn ml A_m c_m sv w (by first | exact G.out.pick [2, 3] | exact (G.out.step (by repeat (first | exact Below.refl _ _ | apply pw_below_drewN | apply below_drew1 | apply below_alloc))).pick [2, 3]) (by kernel_rfl)))
    | true => exact fl_c348 _ _ _ _ _ _ _ _ _ _ _ _ _ _ _ _ _ _ _ _ _ _ _ _ _ _ _ _ _ _ _ _ _ _ _ _ _ _ _ _ _ _ _ _ _ _ _ _ _ _ _ _ _ _ _ _ _ _ _ _ _ _ _ _ _ _ _ _ _ _ _ _ _ _ _ _ _ _ _ _ _ _ _ _ _ _ _ _ _ _ _ _ _ _ _ _ _ _ _ _ _ _ _ _ _ _ _ _ _ _ _ _ _ _ _ _ _ _ _ _ _ _ _ _ _ _ _ _ _ _ _ _ _ _ _ _ _ _ _ _ _ _ _ _ _ _ _ _ _ _ _ _ _ _ _ _ _ _ _ _ _ _ _ _ _ _ _ _ _ _ _ _ _ _ _ _ _ _ _ _ _ _ _ _ _ _ _ _ _ _ _ _ _ _ _ _ _ _ _ _ _ _ _ _ _ _ _ _ _ _ _ _ _ _ _ _ _ _ _ _ _ _ _ _ _ _ _ _ _ _ _ _ _ _ _ _ _ _ _ _ _ _ _ _ _ _ _ _ _ _ _ _ _ _ _ _ _ _ _ _ _ _ _ _ _ _ _ _ _ _ _ _ _ _ _ _ _ _ _ _ _ _ _ _ _ _ _ _ _ _ _ _ _ _ _ _ _ _ _ _ _ _ _ _ _ _ _ _ _ _ _ _ _ _ _ _ _ _ _ _ _ _ _ _ _ _ _ _ _ _ _ _ _ _ _ _ _ _ _ _ _ _ _ _ _ _ _ _ _ _ _ _ _ _ _ _ _ _ _ _ _ _ _ _ _ _ _ _ _ _ _ _ _ _ _ _ _ _ _ _ _ _ _ _ _ _ _ _ _ _ A1 c1 l1 kk g_BM mn ml A_m c_m sv w _ g_BB bn bl A_b c_b rk J K _ (fun a' w' h_ => hJ a' w' h_) hK ⟨by first | exact G.out.pick [2, 3, 5, 6] | exact (G.out.step (by repeat (first | exact Below.refl _ _ | apply pw_below_drewN | apply below_drew1 | apply below_alloc))).pick [2, 3, 5, 6]⟩ ⟨HF.out rfl⟩

end
end Go.Proofs.Ytdeoeogdnagibaa.PLi
