-- Written for this claim by a program of this session (myprint.py) over the kit's printer.
import Derived.Test.YtlmiiijjjcddkaaGreatDoorPLgx0
import Derived.Test.YtlmiiijjjcddkaaGreatDoorPLgx1
import Derived.Test.YtlmiiijjjcddkaaGreatDoorPLgx2
import Derived.Test.YtlmiiijjjcddkaaGreatDoorPLgx3
import Derived.Test.YtlmiiijjjcddkaaGreatDoorPLgx4
import Derived.Test.YtlmiiijjjcddkaaGreatDoorPLgx5
import Derived.Test.YtlmiiijjjcddkaaGreatDoorPLgx6
import Derived.Test.YtlmiiijjjcddkaaGreatDoorPLgx7
import Derived.Test.YtlmiiijjjcddkaaGreatDoorPLgx8
import Derived.Test.YtlmiiijjjcddkaaGreatDoorPLgx9
import Derived.Deep.RegionHeld3
namespace Go.Proofs.YtlmiiijjjcddkaaGreatDoor.PLg
noncomputable section
open Go.RowKit Go.Proofs.YtlmiiijjjcddkaaGreatDoorW.PrintWords Go.Proofs.YtlmiiijjjcddkaaGreatDoorW.PrintLast Go.Proofs.YtlmiiijjjcddkaaGreatDoorW.PrintMore
attribute [local go_sem] max2_int min2_int max_two min_two max_three min_three max_four min_four   -- for this text's walks alone
set_option linter.unusedVariables false
set_option linter.unusedSimpArgs false


structure Ent where
 ok : World → Prop
 len : Prop
 up : ∀ w w', ok w → Below w.heap.size w w' → ok w'
def Ent.of {α : Type} (d : Kd α) (A : Option Addr) (c : Nat) (xs : List α) : Ent := ⟨fun w => d.C w A xs.length xs, xs.length ≤ c, fun _ _ h hb => Kd.C_below h hb⟩
structure Bag (w0 w : World) (L : List Ent) : Prop where mk :: (out : Below w0.heap.size w0 w ∧ ∀ r ∈ L, r.ok w ∧ r.len)
theorem Bag.b {w0 w : World} {L : List Ent} (h : Bag w0 w L) : Below w0.heap.size w0 w := h.out.1
theorem Bag.c {w0 w : World} {L : List Ent} (h : Bag w0 w L) (i : Nat) {α : Type} {d : Kd α} {A : Option Addr} {c : Nat} {xs : List α} (hi : L[i]? = some (Ent.of d A c xs)) : d.C w A xs.length xs := (h.out.2 _ (List.mem_of_getElem? hi)).1
theorem Bag.l {w0 w : World} {L : List Ent} (h : Bag w0 w L) (i : Nat) {α : Type} {d : Kd α} {A : Option Addr} {c : Nat} {xs : List α} (hi : L[i]? = some (Ent.of d A c xs)) : xs.length ≤ c := (h.out.2 _ (List.mem_of_getElem? hi)).2
theorem Bag.v {w0 w : World} {L : List Ent} (h : Bag w0 w L) (i : Nat) {k : IntKind} {e base : Nat} {A : Option Addr} {c : Nat} {xs : List Int} (hi : L[i]? = some (Ent.of (Kd.int k) A c xs)) : Kd.V (Kd.int k) e w base (fun _ => True) (.slice A xs.length c) xs := ⟨A, c, rfl, h.l i hi, Kd.F_mono (Kd.C_F (Kd.heap_int k) (h.c i hi)) (fun _ _ => trivial)⟩
theorem Bag.step {w0 w w' : World} {L : List Ent} (h : Bag w0 w L) (hb : Below w.heap.size w w') : Bag w0 w' L := ⟨below_step h.out.1 hb, fun r hr => ⟨r.up _ _ (h.out.2 r hr).1 hb, (h.out.2 r hr).2⟩⟩
theorem Bag.has {w0 w : World} {L : List Ent} (h : Bag w0 w L) {α : Type} {d : Kd α} {A : Option Addr} {c : Nat} {xs : List α} (hc : d.C w A xs.length xs) (hl : xs.length ≤ c) : Bag w0 w (Ent.of d A c xs :: L) := ⟨h.out.1, fun r hr => by
 rcases List.mem_cons.1 hr with rfl | hr
 ·exact ⟨hc, hl⟩
 ·exact h.out.2 r hr⟩
theorem Bag.addR {w0 w w' : World} {L : List Ent} (h : Bag w0 w L) (hb : Below w.heap.size w w') {α : Type} {d : Kd α} {e base n c : Nat} {ok : Nat → Prop} {A : Option Addr} {xs : List α} (ho : d.R e w' base ok (.slice A n c) xs) : Bag w0 w' (Ent.of d A c xs :: L) := by
 have h2 := Kd.R_reads' ho
 exact (h.step hb).has h2.2.2 (h2.1 ▸ h2.2.1)
theorem Bag.addS {w0 w w' : World} {L : List Ent} (h : Bag w0 w L) (hb : Below w.heap.size w w') {α : Type} {d : Kd α} {e base n c : Nat} {ok : Nat → Prop} {A : Option Addr} {xs : List α} (ho : Kd.S d e w' base ok (.slice A n c) xs) : Bag w0 w' (Ent.of d A c xs :: L) := h.addR hb (Kd.S_R ho)
theorem Bag.addN {w0 w w' : World} {L : List Ent} (h : Bag w0 w L) (hb : Below w.heap.size w w') {α : Type} {d : Kd α} {e base n c : Nat} {ok : Nat → Prop} {A : Option Addr} {xs : List α} (ho : Kd.N d e w' base ok (.slice A n c) xs) : Bag w0 w' (Ent.of d A c xs :: L) := by
 have h2 := Kd.N_reads' ho
 exact (h.step hb).has h2.2.2 (h2.1 ▸ h2.2.1)
theorem Bag.sub {w0 w : World} {L L' : List Ent} (h : Bag w0 w L) (hs : ∀ r ∈ L', r ∈ L) : Bag w0 w L' := ⟨h.out.1, fun r hr => h.out.2 r (hs r hr)⟩
theorem Bag.tl {w0 w : World} {r : Ent} {L : List Ent} (h : Bag w0 w (r :: L)) : Bag w0 w L := h.sub (fun _ hr => List.mem_cons_of_mem _ hr)
theorem Bag.dup {w0 w : World} {L : List Ent} (h : Bag w0 w L) (i : Nat) {r : Ent} (hi : L[i]? = some r) : Bag w0 w (r :: L) := h.sub (fun q hq => (List.mem_cons.1 hq).elim (fun e => e ▸ List.mem_of_getElem? hi) id)
theorem rows_at {w : World} {A : Option Addr} {n e : Nat} {xs : List (List Int)} (h : Kd.C (Kd.slice e (Kd.int .i64)) w A n xs) (i : Nat) (hi : i < n) : ∃ ad A0 c0, A = some ad ∧ w.cell? (ad.add i) = some (.slice A0 (xs.getD i []).length c0) ∧ (xs.getD i []).length ≤ c0 ∧ Kd.C (Kd.int .i64) w A0 (xs.getD i []).length (xs.getD i []) := by
 obtain ⟨ad, he, hc⟩ := h.2.2 (by omega)
 have hl := h.1
 obtain ⟨c, _, hK, hcell⟩ := hc i (xs[i]'(by omega)) (List.getElem?_eq_getElem _)
 obtain ⟨A0, c0, rfl, h1, h2⟩ := hK
 have hx := hcell 0 _ rfl
 have e1 : xs.getD i [] = xs[i]'(by omega) := by rw [List.getD_eq_getElem?_getD, List.getElem?_eq_getElem (by omega)]; rfl
 rw [Nat.add_zero, show ((Kd.slice e (Kd.int .i64))).sz = 1 from rfl, Nat.mul_one] at hx
 rw [e1]
 exact ⟨ad, A0, c0, he, hx, h1, h2⟩
theorem Bag.pick {w0 w : World} {L : List Ent} (h : Bag w0 w L) (is : List Nat) : Bag w0 w (is.filterMap fun i => L[i]?) := h.sub (fun r hr => by
 obtain ⟨i, _, hi⟩ := List.mem_filterMap.1 hr
 exact List.mem_of_getElem? hi)
theorem Bag.start (w : World) : Bag w w [] := ⟨Below.refl _ _, fun _ h => by cases h⟩
theorem int_at {w : World} {A : Option Addr} {n : Nat} {xs : List Int} (h : Kd.C (Kd.int .i64) w A n xs) (i : Nat) (hi : i < n) : ∃ ad, A = some ad ∧ w.cell? (ad.add i) = some (.int .i64 (rd xs (i : Int))) := by
 obtain ⟨ad, e, hc⟩ := Kd.at_int h (i : Int) (by omega) (by omega)
 rw [Int.toNat_natCast] at hc
 exact ⟨ad, e, hc⟩
theorem int_hd {w : World} {A : Option Addr} {n : Nat} {xs : List Int} (h : Kd.C (Kd.int .i64) w A n xs) (hi : 0 < n) : ∃ ad, A = some ad ∧ w.cell? ad = some (.int .i64 (rd xs 0)) := by
 obtain ⟨ad, e, hc⟩ := int_at h 0 hi
 rw [Addr.add_zero'] at hc
 exact ⟨ad, e, hc⟩
def tailFrom (n : Nat) : Code → Option Code
 | .seq (.seq (.region m o d) c) b => if m = n then some (.seq (.seq (.region m o d) c) b) else tailFrom n b
 | .seq (.region m o d) b => if m = n then some (.seq (.region m o d) b) else tailFrom n b
 | .seq a b => match tailFrom n a with
  | some c => some c
  | none => tailFrom n b
 | .cond _ a b => match tailFrom n a with
  | some c => some c
  | none => tailFrom n b
 | .block _ c => tailFrom n c
 | .loop c => tailFrom n c
 | _ => none
def Ent.blk (g : Nat) (o : Obj) : Ent := ⟨fun w => w.heap[g]? = some o, True, fun _ _ h hb => blk_below h hb⟩
theorem Bag.k {w0 w : World} {L : List Ent} (h : Bag w0 w L) (i : Nat) {g : Nat} {o : Obj} (hi : L[i]? = some (Ent.blk g o)) : w.heap[g]? = some o := (h.out.2 _ (List.mem_of_getElem? hi)).1
theorem Bag.addK {w0 w : World} {L : List Ent} (h : Bag w0 w L) {g : Nat} {o : Obj} (hk : w.heap[g]? = some o) : Bag w0 w (Ent.blk g o :: L) := ⟨h.out.1, fun r hr => by
 rcases List.mem_cons.1 hr with rfl | hr
 ·exact ⟨hk, trivial⟩
 ·exact h.out.2 r hr⟩
theorem Bag.box {w0 w : World} {L : List Ent} (h : Bag w0 w L) (o : Obj) : Bag w0 (w.alloc o) (Ent.blk w.heap.size o :: L) := (h.step (below_alloc (Below.refl _ _) o)).addK (blk_new w o)
theorem Bag.box2 {w0 w : World} {L : List Ent} (h : Bag w0 w L) (o o' : Obj) : Bag w0 ((w.alloc o).alloc o') (Ent.blk (w.heap.size + 1) o' :: Ent.blk w.heap.size o :: L) := by
 have h2 := (h.box o).box o'
 have e : (w.alloc o).heap.size = w.heap.size + 1 := by simp
 rw [e] at h2
 exact h2
def condAt (n : Nat) : Code → Option Code
 | .cond (.tmp m) a b => if m = n then some (.cond (.tmp m) a b) else match condAt n a with
  | some c => some c
  | none => condAt n b
 | .cond _ a b => match condAt n a with
  | some c => some c
  | none => condAt n b
 | .seq a b => match condAt n a with
  | some c => some c
  | none => condAt n b
 | .block _ c => condAt n c
 | .loop c => condAt n c
 | _ => none
def regAt (n : Nat) : Code → Option Code
 | .region m o d => if m = n then some (.region m o d) else none
 | .cond _ a b => match regAt n a with
  | some c => some c
  | none => regAt n b
 | .seq a b => match regAt n a with
  | some c => some c
  | none => regAt n b
 | .block _ c => regAt n c
 | .loop c => regAt n c
 | _ => none
def LcOk (ln : Int) (ll : List Int) (tn : Int) (tl : List Int) (mn : Int) (ml : List Int) (tx : ByteArray) : Prop := ∃ (p bk q : List Int) (sg : Int), (∃ k, laws_kResult.f k ln ll = some p) ∧ (∃ k, impl_BackOrder.f k p = some (bk, true)) ∧ (∃ k, laws_kResult.f k mn ml = some q) ∧ (∃ k, impl_ParseLadder.f k tx = some (ln, ll, true)) ∧ (∃ k, impl_SignOf.f k p = some (sg, true)) ∧ (∃ k, laws_kResult.f k tn tl = some bk) ∧ (∃ k, laws_kSame.f k bk bk = some true) ∧ (∃ k, laws_kLadder.f k ln ll ln ll = some true) ∧ (sg == 1) = ((ll.length : Int) % 2 == 0) ∧ 2 ≤ ln ∧ ln ≤ 8 ∧ ln = (p.length : Int) ∧ q.length = p.length ∧ ∀ i : Nat, i < p.length → 0 ≤ rd p (i : Int) ∧ rd p (i : Int) ≤ 8 ∧ rd q (ln - 1 - (i : Int)) = ln - 1 - rd p (i : Int)
def LcHead (l0 : List Int) : Prop := ∃ (ln : Int) (ll : List Int) (tn : Int) (tl : List Int) (mn : Int) (ml : List Int) (tx : ByteArray) (ok : Bool), (∃ k, spec_DrawTurnLadder.f k l0 = some (ln, ll)) ∧ (∃ k, impl_TurnLadder.f k ln ll = some (tn, tl, ok)) ∧ (∃ k, spec_TurnLadder.f k ln ll = some (tn, tl, ok)) ∧ (∃ k, impl_MirrorLadder.f k ln ll = some (mn, ml, ok)) ∧ (∃ k, spec_MirrorLadder.f k ln ll = some (mn, ml, ok)) ∧ (∃ k, impl_LadderText.f k ln ll = some (tx, ok)) ∧ (∃ k, spec_LadderText.f k ln ll = some (tx, ok)) ∧ (∃ k, laws_kLadder.f k tn tl tn tl = some true) ∧ (∃ k, laws_kLadder.f k mn ml mn ml = some true) ∧ (impl_IsLadder.f ln ll = some ok) ∧ (ok = true → LcOk ln ll tn tl mn ml tx)
def LcFive (an : Int) (al : List Int) (ap ru dn : Int) (dl : List Int) : Prop := (∃ k, impl_TakeRung.f k dn dl ap = some (an, al, true)) ∧ (∃ k, laws_kLadder.f k an al an al = some true) ∧ ∃ i : Nat, ap = (i : Int) ∧ i < dl.length ∧ rd dl (i : Int) = ru
def LcSeven (bn : Int) (bl : List Int) (kk en : Int) (el : List Int) : Prop := ∃ i : Nat, kk = (i : Int) ∧ i < bl.length ∧ (∃ k, impl_AddRung.f k en el (i : Int) (rd bl (i : Int)) = some (bn, bl, true)) ∧ (∃ k, laws_kLadder.f k bn bl bn bl = some true)
def LcOne (l1 : List Int) : Prop := ∃ (an : Int) (al : List Int) (ap ru dn : Int) (dl : List Int) (five : Bool) (bn : Int) (bl : List Int) (kk en : Int) (el : List Int) (seven : Bool), (∃ k, spec_DrawAddRung.f k l1 = some (an, al, ap, ru)) ∧ (∃ k, impl_AddRung.f k an al ap ru = some (dn, dl, five)) ∧ (∃ k, spec_AddRung.f k an al ap ru = some (dn, dl, five)) ∧ (∃ k, spec_DrawTakeRung.f k l1 = some (bn, bl, kk)) ∧ (∃ k, impl_TakeRung.f k bn bl kk = some (en, el, seven)) ∧ (∃ k, spec_TakeRung.f k bn bl kk = some (en, el, seven)) ∧ (∃ k, laws_kLadder.f k dn dl dn dl = some true) ∧ (∃ k, laws_kLadder.f k en el en el = some true) ∧ (five = true → LcFive an al ap ru dn dl) ∧ (seven = true → LcSeven bn bl kk en el)
def LcNine (cn : Int) (cl : List Int) (rn pn : Int) (rl : List Int) : Prop := ∃ (un : Int) (ul : List Int), (∃ k, impl_RepeatLadder.f k cn cl (rn - 1) = some (un, ul, true)) ∧ (∃ k, impl_BelowLadder.f k un ul cn cl = some (pn, rl, true)) ∧ (∃ k, laws_kLadder.f k pn rl pn rl = some true)
def LcTwo (l1 : List Int) : Prop := ∃ (cn : Int) (cl : List Int) (rn pn : Int) (rl : List Int) (nine : Bool), (∃ k, spec_DrawRepeatLadder.f k l1 = some (cn, cl, rn)) ∧ (∃ k, impl_RepeatLadder.f k cn cl rn = some (pn, rl, nine)) ∧ (∃ k, spec_RepeatLadder.f k cn cl rn = some (pn, rl, nine)) ∧ (∃ k, laws_kLadder.f k pn rl pn rl = some true) ∧ (nine = true → 0 < rn → rn ≤ 100 → LcNine cn cl rn pn rl)
def LcLast (l1 : List Int) : Prop := ∃ (st : ByteArray) (zn : Int) (zl : List Int) (ok : Bool), (∃ k, spec_DrawParseLadder.f k l1 = some st) ∧ (∃ k, impl_ParseLadder.f k st = some (zn, zl, ok)) ∧ (∃ k, spec_ParseLadder.f k st = some (zn, zl, ok)) ∧ (∃ k, laws_kLadder.f k zn zl zn zl = some true) ∧ (ok = true → (∃ k, impl_LadderText.f k zn zl = some (st, true)))
def laws_FnLaddersChanged.Ok (l0 l1 : List Int) : Prop := laws_big.f l0 l1 = some true ∨ (laws_big.f l0 l1 = some false ∧ LcHead l0 ∧ LcOne l1 ∧ LcTwo l1 ∧ LcLast l1)
def laws_FnLaddersChanged.Pure : Prop := ∀ (l0 : List Int) (l1 : List Int), l0.length ≤ maxLen → l0.length * 1 ≤ 140737488351232 → (∀ x ∈ l0, (Lit.int .u8 x).wf = true) → l1.length ≤ maxLen → l1.length * 1 ≤ 140737488351232 → (∀ x ∈ l1, (Lit.int .u8 x).wf = true) → laws_FnLaddersChanged.Ok l0 l1
theorem lc_end (n j : Nat) (hj : j + 0 = n) : decide ((j : Int) < (n : Int)) = false ∧ decide (j < n) = false := ⟨decide_eq_false (by omega), decide_eq_false (by omega)⟩
theorem lc_step (i n k : Nat) (hn : n ≤ 1000) (h : i + (k + 1) = n) : ∃ ji : Int, ji = ((i + 1 : Nat) : Int) ∧ wrap64 ((i : Int) + 1) = ji ∧ IntKind.i64.wrap ((i : Int) + 1) = ji ∧ i + 1 + k = n ∧ i < n ∧ decide ((i : Int) < (n : Int)) = true ∧ decide (i < n) = true ∧ ((0 : Int) ≤ (i : Int)) = True ∧ ((i : Int) < (n : Int)) = True :=
 ⟨_, rfl, by unfold wrap64; omega, by rw [IntKind.wrap_i64]; omega, by omega, by omega, decide_eq_true (by omega), decide_eq_true (by omega), eq_true (by omega), eq_true (by omega)⟩
theorem lc_mir (n i : Nat) (x ln : Int) (hn : ln = (n : Int)) (h2 : 2 ≤ ln) (h8 : ln ≤ 8) (hi : i < n) (x0 : 0 ≤ x) (x1 : x ≤ 8) : ∃ (j : Nat) (n1 jj y : Int), jj = (j : Int) ∧ jj = ln - 1 - (i : Int) ∧ y = ln - 1 - x ∧ j < n ∧ wrap64 (ln - 1) = n1 ∧ IntKind.i64.wrap (ln - 1) = n1 ∧ wrap64 (n1 - (i : Int)) = jj ∧ IntKind.i64.wrap (n1 - (i : Int)) = jj ∧ wrap64 (n1 - x) = y ∧ IntKind.i64.wrap (n1 - x) = y ∧ jj.toNat = j ∧ ((0 : Int) ≤ jj) = True ∧ (jj < (n : Int)) = True :=
 ⟨n - 1 - i, ln - 1, ln - 1 - (i : Int), ln - 1 - x, by omega, rfl, rfl, by omega, by unfold wrap64; omega, by rw [IntKind.wrap_i64]; omega, by unfold wrap64; omega, by rw [IntKind.wrap_i64]; omega, by unfold wrap64; omega, by rw [IntKind.wrap_i64]; omega, by omega, eq_true (by omega), eq_true (by omega)⟩
theorem lc_less (n : Int) (h0 : 0 < n) (h1 : n ≤ 100) : wrap64 (n - 1) = n - 1 ∧ IntKind.i64.wrap (n - 1) = n - 1 ∧ decide (n > 0) = true ∧ decide (0 < n) = true ∧ decide (n ≤ 100) = true :=
 ⟨by unfold wrap64; omega, by rw [IntKind.wrap_i64]; omega, decide_eq_true h0, decide_eq_true h0, decide_eq_true h1⟩
def Ent.cel (x : Addr) (v : Value) : Ent := ⟨fun w => w.cell? x = some v, True, fun _ _ h hb => pw_cell_below hb h⟩
theorem Bag.cl {w0 w : World} {L : List Ent} (h : Bag w0 w L) (i : Nat) {x : Addr} {v : Value} (hi : L[i]? = some (Ent.cel x v)) : w.cell? x = some v := (h.out.2 _ (List.mem_of_getElem? hi)).1
theorem Bag.addc {w0 w : World} {L : List Ent} (h : Bag w0 w L) {x : Addr} {v : Value} (hc : w.cell? x = some v) : Bag w0 w (Ent.cel x v :: L) := ⟨h.out.1, fun r hr => by
 rcases List.mem_cons.1 hr with rfl | hr
 ·exact ⟨hc, trivial⟩
 ·exact h.out.2 r hr⟩
noncomputable def lc_code26 : Code := (Tryz.f3.body.bind (tailFrom 26)).getD .skip
noncomputable def lc_code42 : Code := (Tryz.f3.body.bind (tailFrom 42)).getD .skip
noncomputable def lc_code52 : Code := (Tryz.f3.body.bind (tailFrom 52)).getD .skip
noncomputable def lc_if143 : Code := (Tryz.f3.body.bind (condAt 143)).getD .skip
noncomputable def lc_if275 : Code := (Tryz.f3.body.bind (condAt 275)).getD .skip
noncomputable def lc_if299 : Code := (Tryz.f3.body.bind (condAt 299)).getD .skip
noncomputable def lc_if353 : Code := (Tryz.f3.body.bind (condAt 353)).getD .skip
noncomputable def lc_reg39 : Code := (Tryz.f3.body.bind (regAt 39)).getD .skip
set_option maxHeartbeats 16000000 in
set_option maxRecDepth 1000000 in
theorem lc_last (q0 q2 q3 q4 q5 q6 q7 q8 q9 qa qb qc qd qe qf qg qh qi qj qk ql qm qn qo qp qq qr qs qt qu qv qw qx qy qz qA qB qC qD qE qF qG qH qI qJ qK qL qM qN qO qP qQ qR qS qT qU qV qW qX qY qZ x0 x1 x2 x3 x4 x5 x6 x7 x8 x9 xa xb xc xd xe xf xg xh xi xj xk xl xm xn xo xp xq xr xs xt xu xv xw xx xy xz xA xB xC xD xE xF xG xH xI xJ xK xL xM xN xO xP xQ xR xS xT xU xV xW xX xY xZ y0 y1 y2 y3 y4 y5 y6 y7 y8 y9 ya yb yc yd ye yf yg yh yi yj yk yl ym yn yo yp yq yr ys yt yu yv yw yx yy yz yA yB yC yD yE yF yG yH yI yJ yK yL yM yN yO yP yQ yR yS yT yU yV yW yX yY yZ z0 z1 z2 z3 z4 z5 z6 z7 z8 z9 za zb zc zd ze zf zg zh zi zj zk zl zm zn zo zp zq zr zs zt zu zv zw zx zy zz zA zB zC zD zE zF zG zH zI zJ zK zL zM zN zO zP zQ zR zS zT zU zV zW zX zY zZ j0 j1 j2 j3 j4 j5 j6 j7 j8 j9 ja jb jc jd je jf jg jh ji jj jk jl jm jn jo jp jq jr js jt ju jv jw jx jy jz jA jB jC jD jE jF jG jH jI jJ jK jL jM jN jO jP jQ jR jS jT jU jV jW jX jY jZ v0 v1 v2 v3 v4 v5 v6 v7 v8 v9 va vb vc vd ve vf vg vh vi vj vk vl vm vn vo vp vq vr vs vt vu vv vw vx vy vz vA vB vC vD vE vF vG vH vI vJ vK vL vM vN vO vP vQ vR vS vT vU vV vW vX vY vZ u0 u1 u2 u3 u4 u5 u6 u7 u8 u9 ua ub uc ud ue uf ug uh ui uj uk ul um un uo up uq ur us ut uu uv uw ux uy uz uA uB uC uD : Value) (A1 : Option Addr) (c1 : Nat) (l1 : List Int) (w wc : World) (HV : Aside0 (impl_readNumber.VOK w)) (HR1 : Aside0 (Kd.C (Kd.int .u8) w A1 l1.length l1)) (HC1 : Aside0 (l1.length ≤ c1)) (G : Aside0 (Bag w wc [])) (HT : Aside0 (LcLast l1)) :
    Code.wp Tryz.prog lc_code52 (bodyPost Tryz.prog Tryz.f3 fun e w' => e = .returned (.bool true) ∧ Below w.heap.size w w') ⟨#[q0, .slice A1 l1.length c1, q2, q3, q4, q5, q6, q7, q8, q9, qa, qb, qc, qd, qe, qf, qg, qh, qi, qj, qk, ql, qm, qn, qo, qp, qq, qr, qs, qt, qu, qv, qw, qx, qy, qz, qA, qB, qC, qD, qE, qF, qG, qH, qI, qJ, qK, qL, qM, qN, qO, qP, qQ, qR, qS, qT, qU, qV, qW, qX, qY, qZ, x0, x1, x2, x3, x4, x5, x6, x7, x8, x9, xa, xb, xc, xd, xe, xf, xg, xh, xi, xj, xk, xl, xm, xn, xo, xp, xq, xr, xs, xt, xu, xv, xw, xx, xy, xz, xA, xB, xC, xD, xE, xF, xG, xH, xI, xJ, xK, xL, xM, xN, xO, xP, xQ, xR, xS, xT, xU, xV, xW, xX, xY, xZ, y0, y1, y2, y3, y4, y5, y6, y7, y8, y9, ya, yb, yc, yd, ye, yf, yg, yh, yi, yj, yk, yl, ym, yn, yo, yp, yq, yr, ys, yt, yu, yv, yw, yx, yy, yz, yA, yB, yC, yD, yE, yF, yG, yH, yI, yJ, yK, yL, yM, yN, yO, yP, yQ, yR, yS, yT, yU, yV, yW, yX, yY, yZ, z0, z1, z2, z3, z4, z5, z6, z7, z8, z9, za, zb, zc, zd, ze, zf, zg, zh, zi, zj, zk, zl, zm, zn, zo, zp, zq, zr, zs, zt, zu, zv, zw, zx, zy, zz, zA, zB, zC, zD, zE, zF, zG, zH, zI, zJ, zK, zL, zM, zN, zO, zP, zQ, zR, zS, zT, zU, zV, zW, zX, zY, zZ, j0, j1, j2, j3, j4, j5, j6, j7, j8, j9, ja, jb, jc, jd, je, jf, jg, jh, ji, jj, jk, jl, jm, jn, jo, jp, jq, jr, js, jt, ju, jv, jw, jx, jy, jz, jA, jB, jC, jD, jE, jF, jG, jH, jI, jJ, jK, jL, jM, jN, jO, jP, jQ, jR, jS, jT, jU, jV, jW, jX, jY, jZ, v0, v1, v2, v3, v4, v5, v6, v7, v8, v9, va, vb, vc, vd, ve, vf, vg, vh, vi, vj, vk, vl, vm, vn, vo, vp, vq, vr, vs, vt, vu, vv, vw, vx, vy, vz, vA, vB, vC, vD, vE, vF, vG, vH, vI, vJ, vK, vL, vM, vN, vO, vP, vQ, vR, vS, vT, vU, vV, vW, vX, vY, vZ, u0, u1, u2, u3, u4, u5, u6, u7, u8, u9, ua, ub, uc, ud, ue, uf, ug, uh, ui, uj, uk, ul, um, un, uo, up, uq, ur, us, ut, uu, uv, uw, ux, uy, uz, uA, uB, uC, uD], []⟩ wc := by
  conv => arg 2; whnf
  have hu26 := Tryz.underlying26
  obtain ⟨st, zn, zl, ok, h1, h2, h3, h4, hf⟩ := HT.out
  clear HT
  obtain ⟨k_h1, x_h1⟩ := h1
  have H1 := Aside0.mk x_h1
  clear x_h1
  obtain ⟨k_h2, x_h2⟩ := h2
  have H2 := Aside0.mk x_h2
  clear x_h2
  obtain ⟨k_h3, x_h3⟩ := h3
  have H3 := Aside0.mk x_h3
  clear x_h3
  obtain ⟨k_h4, x_h4⟩ := h4
  have H4 := Aside0.mk x_h4
  clear x_h4
  skip
  have y1_ : (st.toList == st.toList) = true := beq_iff_eq.mpr rfl
  have y2_ : (ok != ok) = false := by simp
  have tok0 := Aside0.mk True.intro
  cases ok with
  | false =>
    clear hf
    go_wp2_with (first | (go_at_call 30; have tk_ := tok0; clear tk_ tok0; (with_reducible refine (spec_DrawParseLadder.calls _ _ _ (l1) _ _ ?sd0_ ?sd1_ H1.out).mono ?_); (case sd0_ => repeat (first | exact Kd.C_below HR1.out G.out.b | (with_reducible refine Kd.C_drewN ?_ _) | (with_reducible refine Kd.C_drew ?_))); (case sd1_ => exact HC1.out); rintro e w' ⟨rfl, hb⟩; replace G := Aside0.mk (G.out.step hb); clear hb; have tok1 := Aside0.mk True.intro) | (go_at_call 17; have tk_ := tok1; clear tk_ tok1; (with_reducible refine (impl_ParseLadder.calls _ (st) _ _ _ _ (Aside0.mk (impl_readNumber.VOK.on HV.out G.out.b)) H2.out).mono ?_); rintro e w' ⟨v1_, rfl, ho1, hb⟩; obtain ⟨A_z, c_z, e_⟩ := Kd.R_slice ho1; subst e_; replace G := Aside0.mk (G.out.addR hb ho1); clear ho1 hb; have tok2 := Aside0.mk True.intro) | (go_at_call 31; have tk_ := tok2; clear tk_ tok2; replace G := Aside0.mk (G.out.box (.cells #[.int .i64 zn, .slice A_z zl.length c_z] 26 (0, 0))); generalize World.alloc w' (.cells #[.int .i64 zn, .slice A_z zl.length c_z] 26 (0, 0)) = wb_Z at G ⊢; generalize w'.heap.size = g_Z at G ⊢; obtain ⟨w', ew_⟩ : ∃ x_, x_ = wb_Z := ⟨_, rfl⟩; subst ew_; (with_reducible refine (spec_ParseLadder.calls _ (st) _ _ _ _ H3.out).mono ?_); rintro e w' ⟨v1_, rfl, ho1, hb⟩; obtain ⟨A_z2, c_z2, e_⟩ := Kd.R_slice ho1; subst e_; replace G := Aside0.mk (G.out.addR hb ho1); clear ho1 hb; (try clear hc_Z0); have hc_Z0 : w'.cell? ⟨g_Z, 0, none⟩ = some (.int .i64 zn) := blk_cell (G.out.k 1 rfl) 0; (try clear hc_Z1); have hc_Z1 : w'.cell? ⟨g_Z, 1, none⟩ = some (.slice A_z zl.length c_z) := blk_cell (G.out.k 1 rfl) 1; (try clear hd_Z0); have hd_Z0 : (w'.alloc (.cells #[.int .i64 zn, .slice A_z2 zl.length c_z2] 26 (0, 0))).cell? ⟨g_Z, 0, none⟩ = some (.int .i64 zn) := blk_cell (blk_alloc (G.out.k 1 rfl) (.cells #[.int .i64 zn, .slice A_z2 zl.length c_z2] 26 (0, 0))) 0; (try clear hd_Z1); have hd_Z1 : (w'.alloc (.cells #[.int .i64 zn, .slice A_z2 zl.length c_z2] 26 (0, 0))).cell? ⟨g_Z, 1, none⟩ = some (.slice A_z zl.length c_z) := blk_cell (blk_alloc (G.out.k 1 rfl) (.cells #[.int .i64 zn, .slice A_z2 zl.length c_z2] 26 (0, 0))) 1; have tok3 := Aside0.mk True.intro) | (go_at_call 13; have tk_ := tok3; clear tk_ tok3; replace G := Aside0.mk (G.out.box (.cells #[.int .i64 zn, .slice A_z2 zl.length c_z2] 26 (0, 0))); generalize World.alloc w' (.cells #[.int .i64 zn, .slice A_z2 zl.length c_z2] 26 (0, 0)) = wb_Z2 at G ⊢; generalize w'.heap.size = g_Z2 at G ⊢; obtain ⟨w', ew_⟩ : ∃ x_, x_ = wb_Z2 := ⟨_, rfl⟩; subst ew_; (with_reducible refine (laws_kLadder.calls _ (zn) _ _ (zl) (zn) _ _ (zl) _ _ ?sd0_ ?sd1_ ?sd2_ ?sd3_ H4.out).mono ?_); (case sd0_ => repeat (first | exact G.out.c 3 rfl | (with_reducible refine Kd.C_drewN ?_ _) | (with_reducible refine Kd.C_drew ?_))); (case sd1_ => exact G.out.l 3 rfl); (case sd2_ => repeat (first | exact G.out.c 1 rfl | (with_reducible refine Kd.C_drewN ?_ _) | (with_reducible refine Kd.C_drew ?_))); (case sd3_ => exact G.out.l 1 rfl); rintro e w' ⟨rfl, hb⟩; replace G := Aside0.mk (G.out.step hb); clear hb; (try clear hc_Z20); have hc_Z20 : w'.cell? ⟨g_Z2, 0, none⟩ = some (.int .i64 zn) := blk_cell (G.out.k 0 rfl) 0; (try clear hc_Z21); have hc_Z21 : w'.cell? ⟨g_Z2, 1, none⟩ = some (.slice A_z2 zl.length c_z2) := blk_cell (G.out.k 0 rfl) 1; (try clear hc_Z0); have hc_Z0 : w'.cell? ⟨g_Z, 0, none⟩ = some (.int .i64 zn) := blk_cell (G.out.k 2 rfl) 0; (try clear hc_Z1); have hc_Z1 : w'.cell? ⟨g_Z, 1, none⟩ = some (.slice A_z zl.length c_z) := blk_cell (G.out.k 2 rfl) 1; have tok4 := Aside0.mk True.intro))
    go_ret
    exact ⟨by first | rfl | (simp; done) | (simp [*]; done), G.out.b⟩
  | true =>
    have h5 := hf rfl
    clear hf
    obtain ⟨k_h5, x_h5⟩ := h5
    have H5 := Aside0.mk x_h5
    clear x_h5
    skip
    go_wp2_with (first | (go_at_call 30; have tk_ := tok0; clear tk_ tok0; (with_reducible refine (spec_DrawParseLadder.calls _ _ _ (l1) _ _ ?sd0_ ?sd1_ H1.out).mono ?_); (case sd0_ => repeat (first | exact Kd.C_below HR1.out G.out.b | (with_reducible refine Kd.C_drewN ?_ _) | (with_reducible refine Kd.C_drew ?_))); (case sd1_ => exact HC1.out); rintro e w' ⟨rfl, hb⟩; replace G := Aside0.mk (G.out.step hb); clear hb; have tok1 := Aside0.mk True.intro) | (go_at_call 17; have tk_ := tok1; clear tk_ tok1; (with_reducible refine (impl_ParseLadder.calls _ (st) _ _ _ _ (Aside0.mk (impl_readNumber.VOK.on HV.out G.out.b)) H2.out).mono ?_); rintro e w' ⟨v1_, rfl, ho1, hb⟩; obtain ⟨A_z, c_z, e_⟩ := Kd.R_slice ho1; subst e_; replace G := Aside0.mk (G.out.addR hb ho1); clear ho1 hb; have tok2 := Aside0.mk True.intro) | (go_at_call 31; have tk_ := tok2; clear tk_ tok2; replace G := Aside0.mk (G.out.box (.cells #[.int .i64 zn, .slice A_z zl.length c_z] 26 (0, 0))); generalize World.alloc w' (.cells #[.int .i64 zn, .slice A_z zl.length c_z] 26 (0, 0)) = wb_Z at G ⊢; generalize w'.heap.size = g_Z at G ⊢; obtain ⟨w', ew_⟩ : ∃ x_, x_ = wb_Z := ⟨_, rfl⟩; subst ew_; (with_reducible refine (spec_ParseLadder.calls _ (st) _ _ _ _ H3.out).mono ?_); rintro e w' ⟨v1_, rfl, ho1, hb⟩; obtain ⟨A_z2, c_z2, e_⟩ := Kd.R_slice ho1; subst e_; replace G := Aside0.mk (G.out.addR hb ho1); clear ho1 hb; (try clear hc_Z0); have hc_Z0 : w'.cell? ⟨g_Z, 0, none⟩ = some (.int .i64 zn) := blk_cell (G.out.k 1 rfl) 0; (try clear hc_Z1); have hc_Z1 : w'.cell? ⟨g_Z, 1, none⟩ = some (.slice A_z zl.length c_z) := blk_cell (G.out.k 1 rfl) 1; (try clear hd_Z0); have hd_Z0 : (w'.alloc (.cells #[.int .i64 zn, .slice A_z2 zl.length c_z2] 26 (0, 0))).cell? ⟨g_Z, 0, none⟩ = some (.int .i64 zn) := blk_cell (blk_alloc (G.out.k 1 rfl) (.cells #[.int .i64 zn, .slice A_z2 zl.length c_z2] 26 (0, 0))) 0; (try clear hd_Z1); have hd_Z1 : (w'.alloc (.cells #[.int .i64 zn, .slice A_z2 zl.length c_z2] 26 (0, 0))).cell? ⟨g_Z, 1, none⟩ = some (.slice A_z zl.length c_z) := blk_cell (blk_alloc (G.out.k 1 rfl) (.cells #[.int .i64 zn, .slice A_z2 zl.length c_z2] 26 (0, 0))) 1; have tok3 := Aside0.mk True.intro) | (go_at_call 13; have tk_ := tok3; clear tk_ tok3; replace G := Aside0.mk (G.out.box (.cells #[.int .i64 zn, .slice A_z2 zl.length c_z2] 26 (0, 0))); generalize World.alloc w' (.cells #[.int .i64 zn, .slice A_z2 zl.length c_z2] 26 (0, 0)) = wb_Z2 at G ⊢; generalize w'.heap.size = g_Z2 at G ⊢; obtain ⟨w', ew_⟩ : ∃ x_, x_ = wb_Z2 := ⟨_, rfl⟩; subst ew_; (with_reducible refine (laws_kLadder.calls _ (zn) _ _ (zl) (zn) _ _ (zl) _ _ ?sd0_ ?sd1_ ?sd2_ ?sd3_ H4.out).mono ?_); (case sd0_ => repeat (first | exact G.out.c 3 rfl | (with_reducible refine Kd.C_drewN ?_ _) | (with_reducible refine Kd.C_drew ?_))); (case sd1_ => exact G.out.l 3 rfl); (case sd2_ => repeat (first | exact G.out.c 1 rfl | (with_reducible refine Kd.C_drewN ?_ _) | (with_reducible refine Kd.C_drew ?_))); (case sd3_ => exact G.out.l 1 rfl); rintro e w' ⟨rfl, hb⟩; replace G := Aside0.mk (G.out.step hb); clear hb; (try clear hc_Z20); have hc_Z20 : w'.cell? ⟨g_Z2, 0, none⟩ = some (.int .i64 zn) := blk_cell (G.out.k 0 rfl) 0; (try clear hc_Z21); have hc_Z21 : w'.cell? ⟨g_Z2, 1, none⟩ = some (.slice A_z2 zl.length c_z2) := blk_cell (G.out.k 0 rfl) 1; (try clear hc_Z0); have hc_Z0 : w'.cell? ⟨g_Z, 0, none⟩ = some (.int .i64 zn) := blk_cell (G.out.k 2 rfl) 0; (try clear hc_Z1); have hc_Z1 : w'.cell? ⟨g_Z, 1, none⟩ = some (.slice A_z zl.length c_z) := blk_cell (G.out.k 2 rfl) 1; have tok4 := Aside0.mk True.intro) | (go_at_call 11; have tk_ := tok4; clear tk_ tok4; (with_reducible refine (impl_LadderText.calls _ (zn) _ _ (zl) _ _ _ ?sd0_ ?sd1_ H5.out).mono ?_); (case sd0_ => repeat (first | exact G.out.c 3 rfl | (with_reducible refine Kd.C_drewN ?_ _) | (with_reducible refine Kd.C_drew ?_))); (case sd1_ => exact G.out.l 3 rfl); rintro e w' ⟨rfl, hb⟩; replace G := Aside0.mk (G.out.step hb); clear hb; (try clear hc_Z20); have hc_Z20 : w'.cell? ⟨g_Z2, 0, none⟩ = some (.int .i64 zn) := blk_cell (G.out.k 0 rfl) 0; (try clear hc_Z21); have hc_Z21 : w'.cell? ⟨g_Z2, 1, none⟩ = some (.slice A_z2 zl.length c_z2) := blk_cell (G.out.k 0 rfl) 1; (try clear hc_Z0); have hc_Z0 : w'.cell? ⟨g_Z, 0, none⟩ = some (.int .i64 zn) := blk_cell (G.out.k 2 rfl) 0; (try clear hc_Z1); have hc_Z1 : w'.cell? ⟨g_Z, 1, none⟩ = some (.slice A_z zl.length c_z) := blk_cell (G.out.k 2 rfl) 1; have tok5 := Aside0.mk True.intro))
    go_ret
    exact ⟨by first | rfl | (simp; done) | (simp [*]; done), G.out.b⟩

end
end Go.Proofs.YtlmiiijjjcddkaaGreatDoor.PLg
