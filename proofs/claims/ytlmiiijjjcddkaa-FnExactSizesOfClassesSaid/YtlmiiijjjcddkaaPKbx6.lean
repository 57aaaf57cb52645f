-- Written for this claim by a program of this session (myprint.py) over the kit's printer.
import Derived.Test.YtlmiiijjjcddkaaPKbx0
import Derived.Test.YtlmiiijjjcddkaaPKbx4
import Derived.Test.YtlmiiijjjcddkaaPKbx5
namespace Go.Proofs.Ytlmiiijjjcddkaa.PKb
noncomputable section
open Go.RowKit Go.Proofs.YtlmiiijjjcddkaaW.PrintWords Go.Proofs.YtlmiiijjjcddkaaW.PrintLast Go.Proofs.YtlmiiijjjcddkaaW.PrintMore
attribute [local go_sem] max2_int min2_int max_two min_two max_three min_three max_four min_four   -- for this text's walks alone
open List (setIfInBounds_toArray set_cons_zero set_cons_succ)
set_option maxHeartbeats 8000000
set_option maxRecDepth 100000
set_option linter.unusedVariables false
set_option linter.unusedSimpArgs false
theorem pRq6 {α : Type} {d : Kd α} {e base : Nat} {ok : Nat → Prop} {v : Value} {xs : List α} {w W : World} (h0 : Aside0 (Kd.R d e w base ok v xs)) (hp : Kd.R d e W base ok v xs := by (with_reducible repeat (first | apply Kd.R_alloc | apply Kd.R_drewN | apply Kd.R_drew)); exact Aside0.out (by with_reducible assumption)) : Kd.R d e W base ok v xs := hp
theorem pKq6 {g : Nat} {o : Obj} {w W : World} (h0 : Aside0 (w.heap[g]? = some o)) (hp : W.heap[g]? = some o := by (with_reducible repeat (first | refine blk_drewN ?_ _ | refine blk_drew ?_ | refine blk_alloc ?_ _)); exact Aside0.out (by with_reducible assumption)) : W.heap[g]? = some o := hp
theorem pBq6 {b : Nat} {w0 w W : World} (h0 : Aside0 (Below b w0 w)) (hp : Below b w0 W := by repeat (first | (with_reducible first | exact Aside0.out (by assumption) | apply below_alloc | apply pw_below_drewN | apply below_drew1 | refine below_set ?_ (Aside0.out (by assumption))))) : Below b w0 W := hp
/-! ### impl_classesOf: function 18 -/
/-- Where a list of rungs stands among the first ones; -1: nowhere. -/
def impl_classesOf.idx (F : List S40) (r : List Int) : Int := if F.any (fun o => decide (o.f1 = r)) then ((F.findIdx (fun o => decide (o.f1 = r)) : Nat) : Int) else -1
theorem impl_classesOf.idx_hit (F : List S40) (r : List Int) (i : Nat) (hi : i < F.length) (hp : (F.getD i z40).f1 = r) (hb : ∀ j, j < i → (F.getD j z40).f1 ≠ r) : impl_classesOf.idx F r = (i : Int) := by
 have hg : ∀ j : Nat, ∀ h : j < F.length, F.getD j z40 = F[j] := fun j h => by rw [List.getD_eq_getElem?_getD, List.getElem?_eq_getElem h]; rfl
 have h1 : F.any (fun o => decide (o.f1 = r)) = true := List.any_eq_true.2 ⟨F[i], List.getElem_mem hi, decide_eq_true (by rw [← hg i hi]; exact hp)⟩
 unfold impl_classesOf.idx
 rw [if_pos h1]
 congr 1
 refine (List.findIdx_eq hi).2 ⟨decide_eq_true (by rw [← hg i hi]; exact hp), fun j hj => ?_⟩
 have := hb j hj
 rw [hg j zq10] at this
 exact decide_eq_false this
theorem impl_classesOf.idx_miss (F : List S40) (r : List Int) (hb : ∀ j, j < F.length → (F.getD j z40).f1 ≠ r) : impl_classesOf.idx F r = -1 := by
 have h1 : ¬ F.any (fun o => decide (o.f1 = r)) = true := fun h => by
  obtain ⟨x, hx, hp⟩ := List.any_eq_true.1 h
  obtain ⟨j, hj, rfl⟩ := List.getElem_of_mem hx
  have h2 := hb j hj
  rw [List.getD_eq_getElem?_getD, List.getElem?_eq_getElem hj] at h2
  exact h2 (of_decide_eq_true hp)
 unfold impl_classesOf.idx
 rw [if_neg h1]
theorem impl_classesOf.clos (n : Int) (A : Option Addr) (c : Nat) (x r : List Int) (g : Nat) (AF : Option Addr) (cF k : Nat) (b : Bool) (w : World) (hx : Kd.C (Kd.int .i64) w A x.length x) (hxc : x.length ≤ c) (hr : Kd.C (Kd.int .i64) w AF r.length r) (hrc : r.length ≤ cF) (hg : w.cell? ⟨g, 0, none⟩ = some (.slice AF r.length cF)) (h : slices_Equal_int_int.f k x r = some b) :
  Calls Try.prog 45 #[.agg #[.int .i64 n, .slice A x.length c], .pointer (some ⟨g, 0, none⟩)] w fun e w' => e = .returned (.bool b) ∧ Below w.heap.size w w' := by
 have hu := Try.underlying40
 have HX := am hx
 have HXC := am hxc
 have HR := am hr
 have HRC := am hrc
 have HG := am hg
 have H := am h
 clear hx hxc hr hrc hg h
 go_enter Try.func45, Try.ntmps45
 go_wp2_with (first | ((with_reducible refine gate_dst (N := 2) rfl ?_); refine zE 2 (cs := #[.int .i64 n, .slice A x.length c]) 40 ?_; intro gb hgb_ w6 hbox hb; have hz_gb0 : w6.cell? ⟨gb, 0, none⟩ = some (.int .i64 n) := blk_cell hbox 0; have hz_gb1 : w6.cell? ⟨gb, 1, none⟩ = some (.slice A x.length c) := blk_cell hbox 1; have hz3 : w6.cell? ⟨g, 0, none⟩ = some (.slice AF r.length cF) := pw_cell_below hb HG.out; have HB := am hb; clear hbox hb hgb_) | (go_at_call 28; (with_reducible refine (slices_Equal_int_int.calls k A c x AF cF r b _ ?s1 HXC.out ?s2 HRC.out H.out).mono ?_); (case s1 => exact Kd.C_below HX.out HB.out); (case s2 => exact Kd.C_below HR.out HB.out); rintro e w7 ⟨rfl, hd⟩; replace HB := am (below_step HB.out hd.below); clear hd))
 go_ret
 exact ⟨rfl, HB.out⟩
theorem impl_classesOf.index (A0 : Option Addr) (c0 : Nat) (F : List S40) (r : List Int) (g : Nat) (AF : Option Addr) (cF : Nat) (w : World) (hF : Kd.C k40 w A0 F.length F) (hr : Kd.C (Kd.int .i64) w AF r.length r) (hrc : r.length ≤ cF) (hg : w.cell? ⟨g, 0, none⟩ = some (.slice AF r.length cF)) (he : ∀ j : Nat, j < F.length → ∃ k, slices_Equal_int_int.f k (F.getD j z40).f1 r = some (decide ((F.getD j z40).f1 = r))) (hn : F.length ≤ 1000) :
  Calls Try.prog 44 #[.slice A0 F.length c0, .func (.func 45) #[] #[.pointer (some ⟨g, 0, none⟩)]] w fun e w' => e = .returned (.int .i64 (impl_classesOf.idx F r)) ∧ Below w.heap.size w w' := by
 have hu := Try.underlying40
 have HF := am hF
 have HR := am hr
 have HRC := am hrc
 have HG := am hg
 have HE := am he
 have HN := am hn
 clear hF hr hrc hg he hn
 go_enter Try.func44, Try.ntmps44
 go_wp2
 go_loopg [5, 8] F.length (fun gg _ s8 wr => ∃ kk : Nat, s8 = .int .i64 (kk : Int) ∧ Aside0 (kk + gg = F.length) ∧ Aside0 (Below w.heap.size w wr) ∧ Aside0 (∀ j : Nat, j < kk → (F.getD j z40).f1 ≠ r))
 case atStart => exact ⟨0, rfl, ⟨zq10⟩, ⟨Below.refl _ _⟩, ⟨fun j hj => absurd hj (Nat.not_lt_zero _)⟩⟩
 case round =>
  obtain ⟨kk, rfl, HK, HB, HA⟩ := hrel
  cases gk with
  | zero =>
   have hk : kk = F.length := by have := HK.out; omega
   subst hk
   have ct : decide ((F.length : Int) < (F.length : Int)) = false := decide_eq_false zq10
   go_wp2
   go_ret
   exact ⟨by rw [impl_classesOf.idx_miss F r HA.out]; rfl, HB.out⟩
  | succ g1_ =>
   have hlt : kk < F.length := by have := HK.out; omega
   obtain ⟨k, hk⟩ := HE.out kk hlt
   obtain ⟨o, ho⟩ : ∃ o, o = F.getD kk z40 := ⟨_, rfl⟩
   obtain ⟨ad, A1, c1, e1, hx0, hx1, hl1, hC1⟩ := at_T40 HF.out (kk : Int) zq10 zq10
   have er : rd_T40 F (kk : Int) = o := by unfold rd_T40; rw [Int.toNat_natCast, ho]
   rw [er] at hx0 hx1 hl1 hC1
   rw [Int.toNat_natCast] at hx0 hx1
   rw [← ho] at hk
   subst e1
   have hy0 := pw_cell_below HB.out hx0
   have hy1 := pw_cell_below HB.out hx1
   have HC1 := am hC1
   have HL1 := am hl1
   have HO := am ho
   have p1 : ((0 : Int) ≤ (kk : Int)) = True := eq_true zq10
   have p2 : ((kk : Int) < (F.length : Int)) = True := eq_true zq10
   have ct : decide ((kk : Int) < (F.length : Int)) = true := decide_eq_true zq10
   have ct2 : decide (kk < F.length) = true := decide_eq_true hlt
   have HLT := am hlt
   have w1_ : wrap64 ((kk : Int) + 1) = ((kk + 1 : Nat) : Int) := by have := HN.out; unfold wrap64; omega
   have w2_ : IntKind.i64.wrap ((kk : Int) + 1) = ((kk + 1 : Nat) : Int) := by rw [IntKind.wrap_i64]; have := HN.out; omega
   clear hx0 hx1 hl1 hC1 ho er hlt
   by_cases hq : o.f1 = r
   ·have H := am (show slices_Equal_int_int.f k o.f1 r = some true from by rw [hk, decide_eq_true hq])
    have HQ := am hq
    clear hk hq
    go_wp2_with (go_at_call 45; (with_reducible refine (impl_classesOf.clos o.f0 A1 c1 o.f1 r g AF cF k _ _ ?s1 HL1.out ?s2 HRC.out (pw_cell_below HB.out HG.out) H.out).mono ?_); (case s1 => exact Kd.C_below HC1.out HB.out); (case s2 => exact Kd.C_below HR.out HB.out); rintro e w7 ⟨rfl, hb⟩; replace HB := am (below_step HB.out hb); clear hb)
    go_ret
    exact ⟨by rw [impl_classesOf.idx_hit F r kk HLT.out (by rw [← HO.out]; exact HQ.out) HA.out]; rfl, HB.out⟩
   ·have H := am (show slices_Equal_int_int.f k o.f1 r = some false from by rw [hk, decide_eq_false hq])
    have HQ := am hq
    clear hk hq
    go_wp2_with (go_at_call 45; (with_reducible refine (impl_classesOf.clos o.f0 A1 c1 o.f1 r g AF cF k _ _ ?s1 HL1.out ?s2 HRC.out (pw_cell_below HB.out HG.out) H.out).mono ?_); (case s1 => exact Kd.C_below HC1.out HB.out); (case s2 => exact Kd.C_below HR.out HB.out); rintro e w7 ⟨rfl, hb⟩; replace HB := am (below_step HB.out hb); clear hb)
    go_roundg g1_
    case measure => omega
    case rel =>
     refine ⟨kk + 1, zq3, ⟨by have := HK.out; omega⟩, HB, ⟨fun j hj => ?_⟩⟩
     by_cases e : j = kk
     ·subst e; rw [← HO.out]; exact HQ.out
     ·exact HA.out j zq10
theorem impl_classesOf.number (gC : Nat) (AL : Option Addr) (cL : Nat) (F : List S40) (n : Int) (A : Option Addr) (c : Nat) (x y : List Int) (k : Nat) (w : World) (hF : Kd.C k40 w AL F.length F) (hc : w.cell? ⟨gC, 0, none⟩ = some (.slice AL F.length cL)) (hx : Kd.C (Kd.int .i64) w A x.length x) (hxc : x.length ≤ c) (hy : impl_firstSame.f k x = some y) (he : ∀ j : Nat, j < F.length → ∃ k, slices_Equal_int_int.f k (F.getD j z40).f1 y = some (decide ((F.getD j z40).f1 = y))) (hn : F.length ≤ 1000) :
  Calls Try.prog 30 #[.pointer (some ⟨gC, 0, none⟩), .agg #[.int .i64 n, .slice A x.length c]] w fun e w' => e = .returned (.int .i64 (impl_classesOf.idx F y)) ∧ Below w.heap.size w w' := by
 have hu := Try.underlying40
 have hu2 := Try.underlying46
 have HF := am hF
 have HC := am hc
 have HX := am hx
 have HXC := am hxc
 have HY := am hy
 have HE := am he
 have HN := am hn
 clear hF hc hx hxc hy he hn
 go_enter Try.func30, Try.ntmps30
 go_wp2_with (first | ((with_reducible refine gate_dst (N := 3) rfl ?_); refine zE 3 (cs := #[.int .i64 n, .slice A x.length c]) 40 ?_; intro gb hgb_ w6 hbox hb; have hz_gb0 : w6.cell? ⟨gb, 0, none⟩ = some (.int .i64 n) := blk_cell hbox 0; have hz_gb1 : w6.cell? ⟨gb, 1, none⟩ = some (.slice A x.length c) := blk_cell hbox 1; have HB := am hb; clear hbox hb hgb_) | (go_at_call 29; (with_reducible refine (impl_firstSame.calls k (fun _ => True) A c x y _ ?s1 HY.out).mono ?_); (case s1 => exact ⟨A, c, rfl, HXC.out, Kd.F_mono (Kd.C_F (Kd.heap_int .i64) (Kd.C_below HX.out HB.out)) (fun _ _ => trivial)⟩); rintro e w7 ⟨v, rfl, ho, hb⟩; obtain ⟨AF, cF, e_⟩ := Kd.R_slice ho; subst e_; have hq_ := Kd.R_reads' ho; have HRR := am hq_.2.2; have HRC := am hq_.2.1; replace HB := am (below_step HB.out hb); clear hb ho hq_; have hcc : w7.cell? ⟨gC, 0, none⟩ = some (.slice AL F.length cL) := pw_cell_below HB.out HC.out; have hcc2 : (World.alloc w7 (.cells #[.slice AF y.length cF] 22 (0, 0))).cell? ⟨gC, 0, none⟩ = some (.slice AL F.length cL) := pw_cell_below (below_alloc (Below.refl _ _) _) hcc) | (go_at_call 44; have hk_ := blk_new w7 (.cells #[.slice AF y.length cF] 22 (0, 0)); have hb_ := below_alloc (Below.refl w7.heap.size w7) (.cells #[.slice AF y.length cF] 22 (0, 0)); generalize World.alloc w7 (.cells #[.slice AF y.length cF] 22 (0, 0)) = w8 at hk_ hb_ ⊢; obtain ⟨g5, hg5_⟩ : ∃ q_, q_ = w7.heap.size := ⟨_, rfl⟩; rw [← hg5_] at hk_ ⊢; clear hg5_; (with_reducible refine (impl_classesOf.index AL cL F y g5 AF cF _ ?s1 ?s2 HRC.out ?s3 HE.out HN.out).mono ?_); (case s1 => exact Kd.C_below (Kd.C_below HF.out HB.out) hb_); (case s2 => exact Kd.C_below HRR.out hb_); (case s3 => exact blk_cell hk_ 0); rintro e w9 ⟨rfl, hb⟩; replace HB := am (below_step (below_step HB.out hb_) hb); clear hb hk_ hb_ hcc hcc2))
 go_ret
 exact ⟨rfl, HB.out⟩
noncomputable def impl_classesOf.nf (x : List Int) : List Int := (impl_listed.ev fun k => impl_firstSame.f k x).getD []
noncomputable def impl_classesOf.isF (l : S40) : Bool := decide (impl_classesOf.nf l.f1 = l.f1)
noncomputable def impl_classesOf.fir (L : List S40) : List S40 := L.filter impl_classesOf.isF
def impl_classesOf.bump (Z : List Int) (c : Int) : List Int := Z.set c.toNat (wrap64 (rd Z c + 1))
noncomputable def impl_classesOf.siz (L : List S40) : List Int := L.foldl (fun Z l => impl_classesOf.bump Z (impl_classesOf.idx (impl_classesOf.fir L) (impl_classesOf.nf l.f1))) (List.replicate (impl_classesOf.fir L).length 0)
def impl_classesOf.Hit (F : List S40) (y : List Int) : Prop := (∀ j : Nat, j < F.length → ∃ k, slices_Equal_int_int.f k (F.getD j z40).f1 y = some (decide ((F.getD j z40).f1 = y))) ∧ 0 ≤ impl_classesOf.idx F y ∧ impl_classesOf.idx F y < (F.length : Int)
/-- What is asked of each ladder of the list. -/
structure impl_classesOf.One (F : List S40) (l : S40) : Prop where
 len : l.f1.length ≤ 1000
 nfs : ∃ k, impl_firstSame.f k l.f1 = some (impl_classesOf.nf l.f1)
 eqs : ∃ k, slices_Equal_int_int.f k (impl_classesOf.nf l.f1) l.f1 = some (impl_classesOf.isF l)
 hit : impl_classesOf.Hit F (impl_classesOf.nf l.f1)
 can : ∀ a : Nat, a < l.f1.length → ∃ b, impl_canFlip.f l.f0 l.f1 (a : Int) = some b ∧ (b = true → ∃ (n : Int) (y : List Int), impl_flipped.f l.f0 l.f1 (a : Int) = some (n, y) ∧ (∃ k, impl_firstSame.f k y = some (impl_classesOf.nf y)) ∧ impl_classesOf.Hit F (impl_classesOf.nf y))
def impl_classesOf.Fine (L : List S40) : Prop := L.length ≤ 1000 ∧ ∀ j : Nat, j < L.length → impl_classesOf.One (impl_classesOf.fir L) (L.getD j z40)
open Classical in
noncomputable def impl_classesOf.f (l0 : List Int) : Option (List S40 × List Int × Bool) := (impl_listed.f l0).bind fun t => if t.2 = true then (if impl_classesOf.Fine t.1 then some (impl_classesOf.fir t.1, impl_classesOf.siz t.1, true) else none) else some ([], [], false)
/-- The cells of the chosen ones. -/
noncomputable def impl_classesOf.cel (w : World) (A : Option Addr) (j : Nat) : Value := match A with
 | some ad => (w.cell? ⟨(ad.add (j * 2)).block, (ad.add (j * 2)).off + 1, none⟩).getD .nilIface
 | none => .nilIface
noncomputable def impl_classesOf.rows (w : World) (A : Option Addr) (L : List S40) (i : Nat) : List (List Value) := ((List.range i).filter fun j => impl_classesOf.isF (L.getD j z40)).map fun j => [.int .i64 (L.getD j z40).f0, impl_classesOf.cel w A j]
theorem impl_classesOf.rows_next (w : World) (A : Option Addr) (L : List S40) (i : Nat) : impl_classesOf.rows w A L (i + 1) = impl_classesOf.rows w A L i ++ (if impl_classesOf.isF (L.getD i z40) = true then [[.int .i64 (L.getD i z40).f0, impl_classesOf.cel w A i]] else []) := by
 unfold impl_classesOf.rows
 rw [List.range_succ, List.filter_append, List.map_append]
 congr 1
 by_cases e : impl_classesOf.isF (L.getD i z40) = true
 ·rw [if_pos e, List.filter_cons, if_pos e]; rfl
 ·rw [if_neg e, List.filter_cons, if_neg e]; rfl
theorem impl_classesOf.rows_length (w : World) (A : Option Addr) (L : List S40) (i : Nat) : (impl_classesOf.rows w A L i).length ≤ i := by
 unfold impl_classesOf.rows
 rw [List.length_map]
 exact Nat.le_trans (List.length_filter_le _ _) (Nat.le_of_eq List.length_range)
noncomputable def impl_classesOf.zs (L : List S40) (N i : Nat) : List Int := (L.take i).foldl (fun Z l => impl_classesOf.bump Z (impl_classesOf.idx (impl_classesOf.fir L) (impl_classesOf.nf l.f1))) (List.replicate N 0)
theorem impl_classesOf.zs_all {L : List S40} {N : Nat} (h : N = (impl_classesOf.fir L).length) : impl_classesOf.zs L N L.length = impl_classesOf.siz L := by
 unfold impl_classesOf.zs impl_classesOf.siz
 rw [List.take_length, h]
theorem impl_classesOf.zs_next {L : List S40} {N i : Nat} (hi : i < L.length) : impl_classesOf.zs L N (i + 1) = impl_classesOf.bump (impl_classesOf.zs L N i) (impl_classesOf.idx (impl_classesOf.fir L) (impl_classesOf.nf (L.getD i z40).f1)) := by
 unfold impl_classesOf.zs
 rw [List.take_succ_eq_append_getElem hi, List.foldl_append, List.getD_eq_getElem?_getD, List.getElem?_eq_getElem hi]
 rfl
theorem impl_classesOf.zs_length (L : List S40) (N i : Nat) : (impl_classesOf.zs L N i).length = N := by
 unfold impl_classesOf.zs
 have h : ∀ (M : List S40) (Z : List Int), (M.foldl (fun Z l => impl_classesOf.bump Z (impl_classesOf.idx (impl_classesOf.fir L) (impl_classesOf.nf l.f1))) Z).length = Z.length := by
  intro M
  induction M with
  | nil => intro Z; rfl
  | cons x M ih => intro Z; rw [List.foldl_cons, ih]; exact List.length_set
 rw [h, List.length_replicate]
theorem impl_classesOf.rows_fir (w : World) (A : Option Addr) (L : List S40) : (impl_classesOf.rows w A L L.length).length = (impl_classesOf.fir L).length := by
 have hr : L = (List.range L.length).map fun j => L.getD j z40 := by
  refine List.ext_getElem zq24 (fun i h1 h2 => ?_)
  rw [List.getElem_map, List.getElem_range, List.getD_eq_getElem?_getD, List.getElem?_eq_getElem h1]; rfl
 unfold impl_classesOf.rows impl_classesOf.fir
 rw [List.length_map]
 conv => rhs; rw [hr, List.filter_map, List.length_map]
 rfl
theorem impl_classesOf.fir_sel (L : List S40) : impl_classesOf.fir L = ((List.range L.length).filter fun j => impl_classesOf.isF (L.getD j z40)).map fun j => L.getD j z40 := by
 have hr : L = (List.range L.length).map fun j => L.getD j z40 := by
  refine List.ext_getElem zq24 (fun i h1 h2 => ?_)
  rw [List.getElem_map, List.getElem_range, List.getD_eq_getElem?_getD, List.getElem?_eq_getElem h1]; rfl
 unfold impl_classesOf.fir
 conv => lhs; rw [hr, List.filter_map]
 rfl
/-- The first ones as they lie in memory. -/
theorem impl_classesOf.firC {w1 w' : World} {A AF : Option Addr} {L : List S40} {N cF base : Nat} {ok : Nat → Prop} (hcl : Kd.C k40 w1 A L.length L) (hb : Below w1.heap.size w1 w') (ho : (Kd.raw 2).R 40 w' base ok (.slice AF N cF) (impl_classesOf.rows w1 A L L.length)) : Kd.C k40 w' AF N (impl_classesOf.fir L) := by
 obtain ⟨h1, h2, h3⟩ := Kd.R_reads' ho
 have hl := impl_classesOf.rows_fir w1 A L
 refine ⟨by rw [← hl]; exact h1.symm, by rw [h1]; exact h3.2.1, fun hp => ?_⟩
 obtain ⟨ad, e, hc⟩ := h3.2.2 (by rw [← h1]; exact hp)
 refine ⟨ad, e, fun j p hj => ?_⟩
 rw [impl_classesOf.fir_sel, List.getElem?_map] at hj
 obtain ⟨q, hq, rfl⟩ := Option.map_eq_some_iff.1 hj
 have hqm := List.mem_of_getElem? hq
 have hqL := List.mem_range.1 (List.mem_filter.1 hqm).1
 have hrow : (impl_classesOf.rows w1 A L L.length)[j]? = some [.int .i64 (L.getD q z40).f0, impl_classesOf.cel w1 A q] := by
  unfold impl_classesOf.rows
  rw [List.getElem?_map, hq]; rfl
 obtain ⟨cs, hcs, hK, hcell⟩ := hc j _ hrow
 obtain ⟨ad2, A1, c1, e1, hx0, hx1, hl1, hC1⟩ := at_T40 hcl (q : Int) zq10 zq10
 have er : rd_T40 L (q : Int) = L.getD q z40 := by unfold rd_T40; rw [Int.toNat_natCast]
 rw [er] at hx0 hx1 hl1 hC1
 rw [Int.toNat_natCast] at hx0 hx1
 subst e1
 have hce : impl_classesOf.cel w1 (some ad2) q = .slice A1 (L.getD q z40).f1.length c1 := by
  show ((w1.cell? ⟨(ad2.add (q * 2)).block, (ad2.add (q * 2)).off + 1, none⟩).getD .nilIface) = _
  rw [hx1]; rfl
 have hk := hK.1
 rw [hce] at hk
 subst hk
 exact ⟨_, hcs, k40_mk w' (L.getD q z40) hl1 (Kd.C_below hC1 hb), hcell⟩
/-- A list of ladders of one's own: what lies at each place. -/
theorem impl_classesOf.S_at {w : World} {base : Nat} {ok : Nat → Prop} {A : Option Addr} {c : Nat} {L : List S40} (h : Kd.S k40 40 w base ok (.slice A L.length c) L) : ∃ f : Nat → Nat, ∀ j : Nat, j < L.length → (Kd.int .i64).R 3 w base (fun k => (ok k ∧ some k ≠ (Value.slice A L.length c).ownBlock) ∧ f k = j) (impl_classesOf.cel w A j) (L.getD j z40).f1 := by
 have hcl := (Kd.R_reads' (Kd.S_R h)).2.2
 obtain ⟨f, h0, inner, ho, hr⟩ := h
 rw [List.length_zipIdx] at ho
 refine ⟨f, fun j hj => ?_⟩
 have hx : L[j]? = some (L.getD j z40) := by rw [List.getD_eq_getElem?_getD, List.getElem?_eq_getElem hj]; rfl
 have hM : k40.M w base (fun k => (ok k ∧ some k ≠ (Value.slice A L.length c).ownBlock) ∧ f k = j) (L.getD j z40) ((inner.drop (j * 2)).take 2) := hr.2 j (L.getD j z40, j) (Kd.zip_at hx)
 obtain ⟨v1, he, hR⟩ := k40_openM hM
 obtain ⟨ad, A1, c1, e1, hx0, hx1, hl1, hC1⟩ := at_T40 hcl (j : Int) zq10 zq10
 have er : rd_T40 L (j : Int) = L.getD j z40 := by unfold rd_T40; rw [Int.toNat_natCast]
 rw [er] at hx0 hx1 hl1 hC1
 rw [Int.toNat_natCast] at hx0 hx1
 subst e1
 have hce : impl_classesOf.cel w (some ad) j = .slice A1 (L.getD j z40).f1.length c1 := by
  show ((w.cell? ⟨(ad.add (j * 2)).block, (ad.add (j * 2)).off + 1, none⟩).getD .nilIface) = _
  rw [hx1]; rfl
 rcases ho.2 with ⟨hv, hz⟩ | ⟨g, cap, cur, hv, hb, hh, hnc, hcm, hcs, ht⟩
 ·cases hv
 ·injection hv with e2 e3 e4
  injection e2 with e2
  subst e2
  have ea : (⟨g, 0, none⟩ : Addr).add (j * 2) = ⟨g, j * 2, none⟩ := by simp [Addr.add]; omega
  rw [ea] at hx1
  have hx2 : w.cell? ⟨g, j * 2 + 1, none⟩ = some (.slice A1 (L.getD j z40).f1.length c1) := hx1
  rw [cell_of_row w g _ cur 40 (0, 0) hh, ← Array.getElem?_toList] at hx2
  have h5 : inner[j * 2 + 1]? = some v1 := by
   have h6 := congrArg (fun l => l[1]?) he
   simp only [List.getElem?_take, List.getElem?_drop] at h6
   simpa using h6
  have h7 : (cur.toList.take (L.length * 2))[j * 2 + 1]? = inner[j * 2 + 1]? := congrArg (fun l => l[j * 2 + 1]?) ht
  rw [List.getElem?_take, if_pos zq10, hx2, h5] at h7
  rw [hce, Option.some.inj h7]
  exact hR
/-- The first ones are a list of ladders of one's own. -/
theorem impl_classesOf.whole {w1 w' : World} {A AF : Option Addr} {c cF N base b1 : Nat} {okL okF ok' : Nat → Prop} {L : List S40} (hS : Kd.S k40 40 w1 base okL (.slice A L.length c) L) (hbase : base ≤ b1) (hlt : w1.heap.size ≤ b1) (hb : Below w1.heap.size w1 w') (hO : (Kd.raw 2).R 40 w' b1 okF (.slice AF N cF) (impl_classesOf.rows w1 A L L.length)) (hok : ∀ k, okL k → k < w1.heap.size → ok' k) (hokF : ∀ k, okF k → ok' k) : Kd.S k40 40 w' base ok' (.slice AF N cF) (impl_classesOf.fir L) := by
 obtain ⟨f, hf⟩ := impl_classesOf.S_at hS
 have hbs := Kd.R_base hO
 obtain ⟨h0, inner2, ho, hr⟩ := Kd.R_lower hO hbase
 have hl2 : (impl_classesOf.rows w1 A L L.length).length = (impl_classesOf.fir L).zipIdx.length := by rw [List.length_zipIdx]; exact impl_classesOf.rows_fir w1 A L
 rw [hl2] at ho
 have hnd : ((List.range L.length).filter fun j => impl_classesOf.isF (L.getD j z40)).Nodup := List.nodup_range.filter _
 refine ⟨fun k => ((List.range L.length).filter fun j => impl_classesOf.isF (L.getD j z40)).idxOf (f k), fun k hk => hokF k (h0 k hk), inner2, ho, by have := hr.1; rw [hl2] at this; exact this, fun j p hp => ?_⟩
 rw [List.getElem?_zipIdx, Nat.zero_add, impl_classesOf.fir_sel, List.getElem?_map] at hp
 obtain ⟨x, hx, rfl⟩ := Option.map_eq_some_iff.1 hp
 obtain ⟨q, hq, rfl⟩ := Option.map_eq_some_iff.1 hx
 have hqL := List.mem_range.1 (List.mem_filter.1 (List.mem_of_getElem? hq)).1
 have hrow : (impl_classesOf.rows w1 A L L.length)[j]? = some [.int .i64 (L.getD q z40).f0, impl_classesOf.cel w1 A q] := by
  unfold impl_classesOf.rows
  rw [List.getElem?_map, hq]; rfl
 have h4 : (inner2.drop (j * 2)).take 2 = [.int .i64 (L.getD q z40).f0, impl_classesOf.cel w1 A q] := (hr.2 j _ hrow).1
 have hidx : ((List.range L.length).filter fun j => impl_classesOf.isF (L.getD j z40)).idxOf q = j := by
  obtain ⟨hj, rfl⟩ := List.getElem?_eq_some_iff.1 hq
  exact List.Nodup.idxOf_getElem hnd j hj
 show k40.M w' base _ (L.getD q z40) ((inner2.drop (j * 2)).take 2)
 rw [h4]
 refine k40_mkM _ _ _ _ (Kd.R_mono (Kd.R_below (Kd.R_bound (hf q hqL)) hb) (fun k hk => ⟨⟨hok k hk.1.1.1 hk.2.2.1, fun e => ?_⟩, by show List.idxOf (f k) _ = j; rw [hk.1.2]; exact hidx⟩))
 have h5 := hbs k e.symm
 have h6 := hk.2.2.1
 omega
/-- The rows of marks: their contents do not matter. -/
structure impl_classesOf.Jn (b1 bA G : Nat) (w : World) (v : Value) (N m : Nat) : Prop where mk ::
 out : ∃ bl : List (Nat × Nat), bl.length = m ∧ (Kd.raw 1).R 54 w b1 (fun k_ => k_ ≠ G) v (bl.map fun b => [.slice (some ⟨b.1, 0, none⟩) N b.2]) ∧ (∀ k, v.ownBlock = some k → bA ≤ k) ∧ ∀ b ∈ bl, bA ≤ b.1 ∧ b.1 ≠ G ∧ ∃ xs : List Bool, xs.length = N ∧ Kd.R Kd.bool 4 w b1 (fun k_ => k_ = b.1) (.slice (some ⟨b.1, 0, none⟩) N b.2) xs
theorem impl_classesOf.Jn.step {b1 bA G N m : Nat} {w w1 : World} {v : Value} (h : impl_classesOf.Jn b1 bA G w v N m) (hm : ∀ k, k ≠ G → k < w.heap.size → w1.heap[k]? = w.heap[k]?) : impl_classesOf.Jn b1 bA G w1 v N m := by
 obtain ⟨bl, h1, h2, h0, h3⟩ := h.out
 refine ⟨bl, h1, Kd.R_step h2 hm, h0, fun b hb => ?_⟩
 obtain ⟨h7, h4, xs, h5, h6⟩ := h3 b hb
 exact ⟨h7, h4, xs, h5, Kd.R_step h6 (fun k hk hlt => hm k (fun e => h4 (hk.symm.trans e)) hlt)⟩
theorem impl_classesOf.Jn.below {b1 bA G N m : Nat} {w w1 : World} {v : Value} (h : impl_classesOf.Jn b1 bA G w v N m) (hb : Below w.heap.size w w1) : impl_classesOf.Jn b1 bA G w1 v N m := h.step (fun k _ hlt => hb.block k hlt)
theorem impl_classesOf.clash {w : World} {k : Nat} {a b : Array Value} {s t : TypeId} (h : w.heap[k]? = some (.cells a s (0, 0))) (h2 : w.heap[k]? = some (.cells b t (0, 0))) (hne : s ≠ t) : False := by
 rw [h] at h2
 injection h2 with h3
 injection h3 with _ h4
 exact hne h4
theorem impl_classesOf.Jn.more {b1 bA G N m : Nat} {w w1 : World} {v v1 : Value} {g c : Nat} {xs : List Bool} {bl : List (Nat × Nat)} (h1 : bl.length = m) (h3 : ∀ b ∈ bl, bA ≤ b.1 ∧ b.1 ≠ G ∧ ∃ xs : List Bool, xs.length = N ∧ Kd.R Kd.bool 4 w b1 (fun k_ => k_ = b.1) (.slice (some ⟨b.1, 0, none⟩) N b.2) xs) (hx : xs.length = N) (hr : Kd.R Kd.bool 4 w b1 (fun k_ => k_ = g) (.slice (some ⟨g, 0, none⟩) N c) xs) (hg : bA ≤ g ∧ g ≠ G) (ho : (Kd.raw 1).R 54 w1 b1 (fun k_ => k_ ≠ G) v1 ((bl.map fun b => [Value.slice (some ⟨b.1, 0, none⟩) N b.2]) ++ [[.slice (some ⟨g, 0, none⟩) N c]])) (h0 : ∀ k, v1.ownBlock = some k → bA ≤ k) (hm : w.grownBy w1 v.ownBlock) (ht : ∀ k, v.ownBlock = some k → ∃ cells, w.heap[k]? = some (.cells cells 54 (0, 0))) : impl_classesOf.Jn b1 bA G w1 v1 N (m + 1) := by
 have hne : ∀ (b d : Nat) (ys : List Bool), Kd.R Kd.bool 4 w b1 (fun k_ => k_ = b) (.slice (some ⟨b, 0, none⟩) N d) ys → some b ≠ v.ownBlock := fun b d ys hR e => by
  obtain ⟨cs, hc⟩ := ht b e.symm
  obtain ⟨cs2, hc2⟩ := Kd.R_typed hR b rfl
  exact impl_classesOf.clash hc hc2 zq33
 refine ⟨bl ++ [(g, c)], by simp [h1], by rw [List.map_append]; exact ho, h0, fun b hb => ?_⟩
 rcases List.mem_append.1 hb with hb | hb
 ·obtain ⟨h7, h4, ys, h5, h6⟩ := h3 b hb
  exact ⟨h7, h4, ys, h5, Kd.R_step h6 (fun k hk hlt => hm.block k hlt (by rw [hk]; exact hne _ _ _ h6))⟩
 ·rw [List.mem_singleton] at hb
  subst hb
  exact ⟨hg.1, hg.2, xs, hx, Kd.R_step hr (fun k hk hlt => hm.block k hlt (by rw [hk]; exact hne _ _ _ hr))⟩
theorem impl_classesOf.keepZ {w w1 : World} {base : Nat} {ok : Nat → Prop} {vS v : Value} {Z : List Int} (hz : Kd.R (Kd.int .i64) 3 w base ok vS Z) (hg : w.grownBy w1 v.ownBlock) (ht : ∀ k, v.ownBlock = some k → ∃ cells, w.heap[k]? = some (.cells cells 54 (0, 0))) : Kd.R (Kd.int .i64) 3 w1 base ok vS Z :=
 Kd.R_mono (Kd.R_step (Kd.R_tight rfl hz) (fun k hk hlt => hg.block k hlt (fun e => by
  obtain ⟨cs, hc⟩ := ht k e.symm
  obtain ⟨cs2, hc2⟩ := Kd.R_typed hz k hk.symm
  exact impl_classesOf.clash hc hc2 zq33))) (fun k hk => hz.1 k hk.symm)
theorem impl_classesOf.Jn.keepS {b1 bA G N m S : Nat} {w w1 : World} {v : Value} (h : impl_classesOf.Jn b1 bA G w v N m) (hg : w.grownBy w1 (some S)) {cs : Array Value} (hs : w.heap[S]? = some (.cells cs 3 (0, 0))) : impl_classesOf.Jn b1 bA G w1 v N m := by
 obtain ⟨bl, h1, h2, h0, h3⟩ := h.out
 refine ⟨bl, h1, Kd.R_mono (Kd.R_step (Kd.R_tight rfl h2) (fun k hk hlt => hg.block k hlt (fun e => ?_))) (fun k hk => h2.1 k hk.symm), h0, fun b hb => ?_⟩
 ·obtain ⟨c2, hc2⟩ := Kd.R_typed h2 k hk.symm
  cases e
  exact impl_classesOf.clash hs hc2 zq33
 ·obtain ⟨h7, h4, xs, h5, h6⟩ := h3 b hb
  refine ⟨h7, h4, xs, h5, Kd.R_step h6 (fun k hk hlt => hg.block k hlt (fun e => ?_))⟩
  obtain ⟨c2, hc2⟩ := Kd.R_typed h6 b.1 rfl
  cases e
  subst hk
  exact impl_classesOf.clash hs hc2 zq33
theorem impl_classesOf.Jn.cel {b1 bA G N m i : Nat} {w : World} {v : Value} (h : impl_classesOf.Jn b1 bA G w v N m) (hi : i < m) : ∃ J c b cb : Nat, v = .slice (some ⟨J, 0, none⟩) m c ∧ w.cell? ⟨J, i, none⟩ = some (.slice (some ⟨b, 0, none⟩) N cb) := by
 obtain ⟨bl, h1, h2, h0, h3⟩ := h.out
 have hlm : (bl.map fun b => [Value.slice (some ⟨b.1, 0, none⟩) N b.2]).length = m := by rw [List.length_map, h1]
 obtain ⟨J, c, rfl, _⟩ := Kd.R_form h2 (by rw [hlm]; omega)
 obtain ⟨hn, hnc, hC⟩ := Kd.R_reads' h2
 obtain ⟨ad, e, hrd⟩ := hC.2.2 (by rw [hlm]; omega)
 cases e
 have hil : i < bl.length := zq10
 have hrow : (bl.map fun b => [Value.slice (some ⟨b.1, 0, none⟩) N b.2])[i]? = some [.slice (some ⟨bl[i].1, 0, none⟩) N bl[i].2] := by rw [List.getElem?_map, List.getElem?_eq_getElem hil]; rfl
 obtain ⟨cs, hcs, hK, hcell⟩ := hrd i _ hrow
 have hk := hK.1
 subst hk
 have h9 := hcell 0 _ rfl
 rw [add_at] at h9
 refine ⟨J, c, bl[i].1, bl[i].2, by rw [hlm], ?_⟩
 have e9 : 0 + (i * (Kd.raw 1).sz + 0) = i := by show 0 + (i * 1 + 0) = i; omega
 rw [e9] at h9
 exact h9
theorem impl_classesOf.keepT {w : World} {base : Nat} {ok : Nat → Prop} {v x : Value} {xs : List Int} {b q : Nat} {cs : Array Value} (h : Kd.R (Kd.int .i64) 3 w base ok v xs) (hb : w.heap[b]? = some (.cells cs 4 (0, 0))) : Kd.R (Kd.int .i64) 3 (w.setCell ⟨b, q, none⟩ x) base ok v xs :=
 Kd.R_mono (Kd.R_step (Kd.R_tight rfl h) (fun k hk hlt => Below.heap_setCell w ⟨b, q, none⟩ x k (fun e => by
  obtain ⟨c2, hc2⟩ := Kd.R_typed h k hk.symm
  exact impl_classesOf.clash hb (by rw [show b = k from by first | exact e.symm | exact e]; exact hc2) zq33))) (fun k hk => h.1 k hk.symm)
theorem impl_classesOf.Jn.put {b1 bA G N m J n c i b cb q : Nat} {w : World} (h : impl_classesOf.Jn b1 bA G w (.slice (some ⟨J, 0, none⟩) n c) N m) (hc : w.cell? ⟨J, i, none⟩ = some (.slice (some ⟨b, 0, none⟩) N cb)) (hi : i < m) (hq : q < N) : bA ≤ b ∧ b ≠ G ∧ (∃ cells, w.heap[b]? = some (.cells cells 4 (0, 0))) ∧ (∃ x, w.cell? ⟨b, q, none⟩ = some (.bool x)) ∧ impl_classesOf.Jn b1 bA G (w.setCell ⟨b, q, none⟩ (.bool true)) (.slice (some ⟨J, 0, none⟩) n c) N m := by
 obtain ⟨bl, h1, h2, h0, h3⟩ := h.out
 have hlm : (bl.map fun b => [Value.slice (some ⟨b.1, 0, none⟩) N b.2]).length = m := by rw [List.length_map, h1]
 obtain ⟨hn, hnc, hC⟩ := Kd.R_reads' h2
 obtain ⟨ad, e, hrd⟩ := hC.2.2 (by rw [hlm]; omega)
 cases e
 have hil : i < bl.length := zq10
 have hrow : (bl.map fun b => [Value.slice (some ⟨b.1, 0, none⟩) N b.2])[i]? = some [.slice (some ⟨bl[i].1, 0, none⟩) N bl[i].2] := by rw [List.getElem?_map, List.getElem?_eq_getElem hil]; rfl
 obtain ⟨cs, hcs, hK, hcell⟩ := hrd i _ hrow
 have hk := hK.1
 subst hk
 have h9 := hcell 0 _ rfl
 rw [add_at] at h9
 have e9 : 0 + (i * (Kd.raw 1).sz + 0) = i := by show 0 + (i * 1 + 0) = i; omega
 rw [e9, hc] at h9
 injection h9 with h9
 injection h9 with e1 e2 e3
 injection e1 with e1
 injection e1 with e1
 have hm := List.getElem_mem hil
 obtain ⟨b5, b6, xs, hx, hR⟩ := h3 _ hm
 rw [← e1] at b5 b6 hR
 obtain ⟨cells, hty⟩ := Kd.R_typed hR b rfl
 refine ⟨b5, b6, ⟨cells, hty⟩, ?_, bl, h1, ?_, h0, fun b' hb' => ?_⟩
 ·obtain ⟨ad2, e4, hz⟩ := Kd.at_bool (Kd.R_reads' hR).2.2 (q : Int) zq10 zq10
  cases e4
  rw [add_at, Int.toNat_natCast, Nat.zero_add] at hz
  exact ⟨_, hz⟩
 ·refine Kd.R_mono (Kd.R_step (Kd.R_tight rfl h2) (fun k hk hlt => Below.heap_setCell w ⟨b, q, none⟩ (.bool true) k (fun e => ?_))) (fun k hk => h2.1 k hk.symm)
  obtain ⟨c2, hc2⟩ := Kd.R_typed h2 k hk.symm
  exact impl_classesOf.clash hty (by rw [show b = k from by first | exact e.symm | exact e]; exact hc2) zq33
 ·obtain ⟨h7, h4, ys, h5, h6⟩ := h3 b' hb'
  by_cases hbb : b'.1 = b
  ·have h8 := (Kd.R_putg (enc := Value.bool) h6 (q : Int) true).1
   rw [Int.toNat_natCast, hbb] at h8
   exact ⟨h7, h4, ys.set q true, by rw [List.length_set]; exact h5, by rw [hbb]; exact h8⟩
  ·exact ⟨h7, h4, ys, h5, Kd.R_step h6 (fun k hk hlt => Below.heap_setCell w ⟨b, q, none⟩ (.bool true) k (fun e => hbb (by first | exact hk.symm.trans e | exact hk.symm.trans e.symm)))⟩
def impl_classesOf.T25 : Bool × List (List Nat × List Nat) := (true, [([], []), ([0], [0]), ([1], [1]), ([2], [2]), ([], []), ([3, 4], [3, 4]), ([5], [5]), ([], []), ([], []), ([], []), ([8, 9], [8, 9]), ([7, 10, 10], [7, 10]), ([6, 11, 0, 1, 2, 3, 4, 5, 6, 7, 8, 9, 10, 11], [6, 11]), ([12, 11, 0, 1, 2, 3, 4, 5, 6, 7, 8, 9, 10, 11], [12])])
def impl_classesOf.B25 : List Nat := [0, 1, 3, 7, 0, 31, 63, 0, 0, 0, 768, 1920, 4095, 8191]
theorem impl_classesOf.tab25 : rtab .any (opsOf Try.f18 25) = impl_classesOf.T25 := by kernel_rfl
theorem impl_classesOf.bits25 : waitsOk impl_classesOf.T25.2 impl_classesOf.B25 = true := by kernel_rfl
def impl_classesOf.T14 : Bool × List (List Nat × List Nat) := (true, [([], []), ([], []), ([1], [1]), ([2], [2]), ([3], [3]), ([], []), ([5], [5]), ([6], [6]), ([7], [7]), ([8], [8]), ([9, 9], [9]), ([10], [10]), ([4, 11], [4, 11]), ([0, 0, 1, 2, 3, 4, 5, 6, 7, 8, 9, 10, 11, 12], [0]), ([13, 0, 1, 2, 3, 4, 5, 6, 7, 8, 9, 10, 11, 12], [13]), ([14, 12, 12, 0, 1, 2, 3, 4, 5, 6, 7, 8, 9, 10, 11, 12], [12, 14])])
def impl_classesOf.B14 : List Nat := [0, 0, 2, 6, 14, 0, 32, 96, 224, 480, 992, 2016, 4094, 8191, 16383, 32767]
theorem impl_classesOf.tab14 : rtab .any (opsOf Try.f18 14) = impl_classesOf.T14 := by kernel_rfl
theorem impl_classesOf.bits14 : waitsOk impl_classesOf.T14.2 impl_classesOf.B14 = true := by kernel_rfl
theorem impl_classesOf.infoB : (Try.prog.info? 4).map (fun i => (i.zero, i.size, i.bytes)) = some (some (.bool false), 1, 1) := by kernel_rfl
theorem impl_classesOf.infoBs : (Try.prog.info? 54).map (fun i => (i.zero, i.size, i.bytes)) = some (some (.slice none 0 0), 1, 24) := by kernel_rfl
theorem impl_classesOf.lit_C1 {W : World} {g e : Nat} {a : Value} (h : W.heap[g]? = some (.cells #[a] e (0, 0))) (ha : a.oneCell' = true) : Kd.C (Kd.raw 1) W (some ⟨g, 0, none⟩) 1 [[a]] :=
 ⟨rfl, zq33, fun _ => ⟨_, rfl, fun j p hj => by
  cases j with
  | zero =>
   simp at hj
   subst hj
   refine ⟨[a], rfl, ⟨rfl, rfl, fun u hu => by simp at hu; rcases hu with rfl; assumption⟩, fun i u hu => ?_⟩
   cases i with
   | zero => simp at hu; subst hu; rw [add_at]; exact blk_cell h 0
   | succ i => simp at hu
  | succ j => simp at hj⟩⟩
theorem impl_classesOf.lit_C {W : World} {g e : Nat} {a b : Value} (h : W.heap[g]? = some (.cells #[a, b] e (0, 0))) (ha : a.oneCell' = true) (hb : b.oneCell' = true) : Kd.C (Kd.raw 2) W (some ⟨g, 0, none⟩) 1 [[a, b]] :=
 ⟨rfl, zq33, fun _ => ⟨_, rfl, fun j p hj => by
  cases j with
  | zero =>
   simp at hj
   subst hj
   refine ⟨[a, b], rfl, ⟨rfl, rfl, fun u hu => by simp at hu; rcases hu with rfl | rfl <;> assumption⟩, fun i u hu => ?_⟩
   cases i with
   | zero => simp at hu; subst hu; rw [add_at]; exact blk_cell h 0
   | succ i => cases i with
    | zero => simp at hu; subst hu; rw [add_at]; exact blk_cell h 1
    | succ i => simp at hu
  | succ j => simp at hj⟩⟩
def impl_classesOf.T9 : Bool × List (List Nat × List Nat) := (true, [([], []), ([], []), ([1], [1]), ([2], [2]), ([3], [3]), ([], []), ([5], [5]), ([4, 6], [4, 6]), ([0, 0, 1, 2, 3, 4, 5, 6, 7], [0]), ([8, 0, 1, 2, 3, 4, 5, 6, 7], [8]), ([9, 7, 7, 0, 1, 2, 3, 4, 5, 6, 7], [7, 9])])
def impl_classesOf.B9 : List Nat := [0, 0, 2, 6, 14, 0, 32, 126, 255, 511, 1023]
theorem impl_classesOf.tab9 : rtab .any (opsOf Try.f18 9) = impl_classesOf.T9 := by kernel_rfl
theorem impl_classesOf.bits9 : waitsOk impl_classesOf.T9.2 impl_classesOf.B9 = true := by kernel_rfl
theorem impl_classesOf.calls (A0 : Option Addr) (c0 : Nat) (l0 : List Int) (F : List S40) (Z : List Int) (b : Bool) (w : World) (hr0 : Kd.C (Kd.int .i64) w A0 l0.length l0) (hc0 : l0.length ≤ c0) (h : impl_classesOf.f l0 = some (F, Z, b)) :
  Calls Try.prog 18 #[.slice A0 l0.length c0] w fun e w' => Below w.heap.size w w' ∧ ((b = false ∧ e = .returned (.tuple #[.pointer none, .bool false])) ∨ (b = true ∧ ∃ (g : Nat) (vF vS vJ : Value), e = .returned (.tuple #[.pointer (some ⟨g, 0, none⟩), .bool true]) ∧ w'.heap[g]? = some (.cells #[vF, vS, vJ] 46 (0, 0)) ∧ Kd.S k40 40 w' w.heap.size (fun k_ => k_ ≠ g) vF F ∧ Kd.R (Kd.int .i64) 3 w' w.heap.size (fun k_ => k_ ≠ g) vS Z)) := by
 have hu := Try.underlying40
 have hu2 := Try.underlying46
 have HR0 := am hr0
 have HC0 := am hc0
 clear hr0 hc0
 obtain ⟨⟨L, ok⟩, hli, h⟩ := Option.bind_eq_some_iff.1 h
 cases ok with
 | false =>
  have HLI := am hli
  clear hli
  rw [if_neg zq24] at h
  simp only [Option.some.injEq, Prod.mk.injEq] at h
  obtain ⟨rfl, rfl, rfl⟩ := h
  go_enter Try.func18, Try.ntmps18
  go_wp2_with (go_at_call 27; (with_reducible refine (impl_listed.calls A0 c0 l0 L false _ ?s1 HC0.out HLI.out).mono ?_); (case s1 => exact HR0.out); rintro e w1 ⟨v, rfl, hs, hb⟩; obtain ⟨A, c, e_⟩ := Kd.S_slice hs; subst e_; have HS := am hs; have HB := am hb; clear hs hb)
  go_ret2
  exact ⟨HB.out, .inl ⟨trivial, rfl⟩⟩
 | true =>
  rw [if_pos rfl] at h
  by_cases hf : impl_classesOf.Fine L
  case neg => rw [if_neg hf] at h; cases h
  rw [if_pos hf] at h
  simp only [Option.some.injEq, Prod.mk.injEq] at h
  obtain ⟨rfl, rfl, rfl⟩ := h
  have HLI := am hli
  have HF := am hf
  clear hli hf
  go_enter Try.func18, Try.ntmps18
  go_wp2_with (first | (go_at_call 27; (with_reducible refine (impl_listed.calls A0 c0 l0 L true _ ?s1 HC0.out HLI.out).mono ?_); (case s1 => exact HR0.out); rintro e w1 ⟨v, rfl, hs, hb⟩; obtain ⟨A, c, e_⟩ := Kd.S_slice hs; subst e_; have HS := am hs; have HB := am hb; clear hs hb) | ((with_reducible refine gate_dst (N := 21) rfl ?_); refine zE 21 (cs := #[.slice none 0 0, .slice none 0 0, .slice none 0 0]) 46 ?_; intro G hgb_ w2 hbox hb; have hz_G0 : w2.cell? ⟨G, 0, none⟩ = some (.slice none 0 0) := blk_cell hbox 0; have hz_G1 : w2.cell? ⟨G, 1, none⟩ = some (.slice none 0 0) := blk_cell hbox 1; have hz_G2 : w2.cell? ⟨G, 2, none⟩ = some (.slice none 0 0) := blk_cell hbox 2; have HB1 := am hb; have BKG := am hbox; have HG := am hgb_; clear hz_G0 hz_G1 hz_G2; clear hbox hb hgb_))
  have hq_ := Kd.R_reads' (Kd.S_R HS.out)
  have HCL := am hq_.2.2
  have HLN := am HF.out.1
  clear hq_
  go_loopg [24] L.length (fun kq v24 w' => ∃ (i : Nat) (vF : Value), v24 = .int .i64 (i : Int) ∧ Aside0 (i + kq = L.length) ∧ Aside0 (Below w1.heap.size w1 w') ∧ Aside0 (w'.heap[G]? = some (.cells #[vF, .slice none 0 0, .slice none 0 0] 46 (0, 0))) ∧ Aside0 ((Kd.raw 2).R 40 w' w1.heap.size (fun k_ => k_ ≠ G) vF (impl_classesOf.rows w1 A L i)))
  case atStart => exact ⟨0, .slice none 0 0, rfl, ⟨zq10⟩, HB1, BKG, ⟨Kd.R_nil _ _ _ _ _⟩⟩
  case round =>
   clear HB1 BKG
   obtain ⟨i, vF, rfl, HI, HB1, BKG, HO⟩ := hrel
   cases gk with
   | zero =>
    have hi : i = L.length := by have := HI.out; omega
    subst hi
    have ct : decide ((L.length : Int) < (L.length : Int)) = false := decide_eq_false zq10
    have hrl := impl_classesOf.rows_length w1 A L L.length
    have hrf := impl_classesOf.rows_fir w1 A L
    obtain ⟨AF, cF, eF⟩ := Kd.R_slice HO.out
    subst eF
    obtain ⟨N, hN⟩ : ∃ q_, q_ = (impl_classesOf.rows w1 A L L.length).length := ⟨_, rfl⟩
    rw [← hN] at HO BKG hrl hrf
    clear hN
    have HNF := am hrf
    have hn1 := HLN.out
    have HNL := am (show N ≤ 1000 from zq10)
    have hN0 : (0 : Int) ≤ (N : Int) := Int.natCast_nonneg N
    have hN1 : N ≤ 1000 := HNL.out
    clear hrf hrl hn1
    obtain ⟨wA, hwA⟩ : ∃ q_, q_ = wr := ⟨_, rfl⟩
    subst hwA
    have hc0 : wA.cell? ⟨G, 0, none⟩ = some (.slice AF N cF) := blk_cell BKG.out 0
    have HOA := HO
    have HBA := am HB1.out.size
    go_wp2_with ((with_reducible refine gate_dst (N := 51) rfl ?_); refine Kd.R_make (Kd.int .i64) _ 3 rfl (N := 51) rfl 22 _ _ rfl (N : Int) rfl rfl Try.underlying22 (.int .i64 0) 8 info3 rfl zq33 zq10 0 (ok := fun k_ => k_ ≠ G) (okp := fun _ => False) rfl (fun _ hk => hk.elim) (fun e_ => by have := blk_lt BKG.out; omega) hN0 (by rw [Int.toNat_natCast]; omega) (Below.refl _ _) (Nat.le_refl _) ?_; intro vS wB hoS hb hg_ hnew_; rw [Int.toNat_natCast] at hoS; obtain ⟨AS, cS, eS⟩ := Kd.R_slice hoS; rw [List.length_replicate] at eS; subst eS; have n0_ := am (below_step HB1.out hb); have n1_ := am (blk_below BKG.out hb); have n2_ := am (KeepBut.of_below hb G none); have HZ := am hoS; clear HB1 BKG hb hg_ hnew_ hoS; have HB1 := n0_; have BKG := n1_; have KA := n2_; clear n0_ n1_ n2_; have hs_ : wB.cell? ⟨G, 1, none⟩ = some (.slice none 0 0) := blk_cell BKG.out 1; have hf_ := blk_frozen BKG.out 1; have hcF : wB.cell? ⟨G, 0, none⟩ = some (.slice AF N cF) := blk_cell BKG.out 0; have hcF2 : (wB.setCell ⟨G, 1, none⟩ (.slice AS N cS)).cell? ⟨G, 0, none⟩ = some (.slice AF N cF) := blk_cell (blk_put (cs := #[.slice AF N cF, .slice none 0 0, .slice none 0 0]) BKG.out 1 _ rfl) 0)
    try clear hs_
    try clear hf_
    try clear hcF
    try clear hcF2
    try clear hc0
    go_loopg [59] N (fun kq v59 w' => ∃ (i : Nat) (vJ : Value), v59 = .int .i64 (i : Int) ∧ Aside0 (i + kq = N) ∧ Aside0 (Below w1.heap.size w1 w') ∧ Aside0 (KeepBut wA w' G none) ∧ Aside0 (w'.heap[G]? = some (.cells #[.slice AF N cF, .slice AS N cS, vJ] 46 (0, 0))) ∧ Aside0 (Kd.R (Kd.int .i64) 3 w' wA.heap.size (fun k_ => k_ ≠ G) (.slice AS N cS) (List.replicate N 0)) ∧ Aside0 (impl_classesOf.Jn w1.heap.size wA.heap.size G w' (vJ) N (i)))
    case atStart => exact ⟨0, .slice none 0 0, rfl, ⟨zq10⟩, ⟨below_set HB1.out (Nat.le_of_eq HG.out.symm)⟩, ⟨KeepBut.set_ KA.out 1 _⟩, ⟨blk_put (cs := #[.slice AF N cF, .slice none 0 0, .slice none 0 0]) BKG.out 1 _ rfl⟩, ⟨Kd.R_step HZ.out (fun k_ hk_ _ => Below.heap_setCell wB ⟨G, 1, none⟩ _ k_ hk_)⟩, ⟨⟨[], rfl, Kd.R_nil _ _ _ _ _, fun k_ h_ => (by cases h_), fun b hb => (by cases hb)⟩⟩⟩
    case round =>
     clear HB1 BKG KA HZ
     obtain ⟨i, vJ, rfl, HI2, HB1, KA, BKG, HZ, HJ⟩ := hrel
     cases gk with
     | zero =>
      have hi3 : i = N := by have := HI2.out; omega
      rw [hi3] at HJ
      have ct : decide ((i : Int) < (N : Int)) = false := decide_eq_false zq10
      have ct2 : decide (i < N) = false := decide_eq_false zq10
      clear hi3
      go_wp2
      clear ct ct2 HI2
      go_loopg [79] L.length (fun kq v79 w' => ∃ i : Nat, v79 = .int .i64 (i : Int) ∧ Aside0 (i + kq = L.length) ∧ Aside0 (Below w1.heap.size w1 w') ∧ Aside0 (KeepBut wA w' G none) ∧ Aside0 (w'.heap[G]? = some (.cells #[.slice AF N cF, .slice AS N cS, vJ] 46 (0, 0))) ∧ Aside0 (Kd.R (Kd.int .i64) 3 w' wA.heap.size (fun k_ => k_ ≠ G) (.slice AS N cS) (impl_classesOf.zs L N i)) ∧ Aside0 (impl_classesOf.Jn w1.heap.size wA.heap.size G w' (vJ) N (N)))
      case atStart => exact ⟨0, rfl, ⟨zq10⟩, HB1, KA, BKG, HZ, HJ⟩
      case round =>
       clear HB1 BKG KA HZ HJ
       obtain ⟨i, rfl, HI3, HB1, KA, BKG, HZ, HJ⟩ := hrel
       cases gk with
       | zero =>
        have hi : i = L.length := by have := HI3.out; omega
        subst hi
        have ct : decide ((L.length : Int) < (L.length : Int)) = false := decide_eq_false zq10
        go_wp2
        go_ret2
        exact ⟨below_step HB.out HB1.out, .inr ⟨trivial, G, _, _, _, rfl, BKG.out, impl_classesOf.whole HS.out HB.out.size (Nat.le_refl _) HB1.out (Kd.R_step HOA.out (fun k_ hk_ hlt_ => KA.out.2 k_ hlt_ hk_ zq24)) (fun k_ _ hlt_ => by have := HG.out; omega) (fun _ hk_ => hk_), by rw [← impl_classesOf.zs_all HNF.out]; exact Kd.R_lower HZ.out (Nat.le_trans HB.out.size (HBA.out))⟩⟩
       | succ g3_ =>
        have hlt : i < L.length := by have := HI3.out; omega
        obtain ⟨o, ho⟩ : ∃ o, o = L.getD i z40 := ⟨_, rfl⟩
        have hone := HF.out.2 i hlt
        rw [← ho] at hone
        obtain ⟨k1, hn1⟩ := hone.nfs
        have HN1 := am hn1
        have HHIT := am hone.hit
        have HCAN := am hone.can
        have HOL := am hone.len
        obtain ⟨ad, A1, c1, e1, hx0, hx1, hl1, hC1⟩ := at_T40 HCL.out (i : Int) zq10 zq10
        have er : rd_T40 L (i : Int) = o := by unfold rd_T40; rw [Int.toNat_natCast, ho]
        rw [er] at hx0 hx1 hl1 hC1
        rw [Int.toNat_natCast] at hx0 hx1
        subst e1
        have hy0 := pw_cell_below HB1.out hx0
        have hy1 := pw_cell_below HB1.out hx1
        have HC1 := am hC1
        have HL1 := am hl1
        have HOE := am ho
        have p1 : ((0 : Int) ≤ (i : Int)) = True := eq_true zq10
        have p2 : ((i : Int) < (L.length : Int)) = True := eq_true zq10
        have ct : decide ((i : Int) < (L.length : Int)) = true := decide_eq_true zq10
        have ct2 : decide (i < L.length) = true := decide_eq_true hlt
        have HLT := am hlt
        have w1_ : wrap64 ((i : Int) + 1) = ((i + 1 : Nat) : Int) := by have := HLN.out; unfold wrap64; omega
        have w2_ : IntKind.i64.wrap ((i : Int) + 1) = ((i + 1 : Nat) : Int) := by rw [IntKind.wrap_i64]; have := HLN.out; omega
        clear hx0 hx1 hl1 hC1 ho er hlt hone hn1
        go_upto_region 19 with (fail)
        have hk_ := blk_new wr (.cells #[.int .i64 o.f0, .slice A1 o.f1.length c1] 40 (0, 0))
        have hb_ := below_alloc (Below.refl wr.heap.size wr) (.cells #[.int .i64 o.f0, .slice A1 o.f1.length c1] 40 (0, 0))
        generalize World.alloc wr (.cells #[.int .i64 o.f0, .slice A1 o.f1.length c1] 40 (0, 0)) = w3 at hk_ hb_ ⊢
        obtain ⟨gl, hgl⟩ : ∃ q_, q_ = wr.heap.size := ⟨_, rfl⟩
        rw [← hgl] at hk_ ⊢
        have HGL := am (show wA.heap.size ≤ gl ∧ G ≠ gl from ⟨by rw [hgl]; exact keep_size KA.out, by rw [hgl]; exact Nat.ne_of_lt (blk_lt BKG.out)⟩)
        replace HB1 := am (below_step HB1.out hb_)
        replace KA := am (KeepBut.trans KA.out (KeepBut.of_below hb_ G none) (.inl rfl))
        replace BKG := am (blk_below BKG.out hb_)
        replace HZ := am (Kd.R_below HZ.out hb_)
        replace HJ := am (HJ.out.below hb_)
        have BKL := am hk_
        clear hk_ hb_ hgl hy0 hy1
        obtain ⟨mi, hmi⟩ := Int.eq_ofNat_of_zero_le HHIT.out.2.1
        have HHE := am HHIT.out.1
        have HMI := am (show mi < N from by have h_ := HHIT.out.2.2; rw [hmi] at h_; have := HNF.out; omega)
        have HME := am hmi
        obtain ⟨Sb, cS2, eS, hSb, _, _⟩ := Kd.R_form HZ.out (by rw [impl_classesOf.zs_length]; have := HMI.out; omega)
        injection eS with e1 e2 e3
        subst e1
        clear e2 e3
        have HSB := am hSb
        clear hSb
        have hcl0 : w3.cell? ⟨gl, 0, none⟩ = some (.int .i64 o.f0) := blk_cell BKL.out 0
        have hcl1 : w3.cell? ⟨gl, 1, none⟩ = some (.slice A1 o.f1.length c1) := blk_cell BKL.out 1
        go_upto_region 20 with (first | (go_at_call 30; (with_reducible refine (impl_classesOf.number G AF cF (impl_classesOf.fir L) o.f0 A1 c1 o.f1 (impl_classesOf.nf o.f1) k1 _ ?s1 ?s2 ?s3 HL1.out HN1.out HHE.out ?s4).mono ?_); (case s1 => rw [← HNF.out]; exact impl_classesOf.firC HCL.out HB1.out (Kd.R_step HOA.out (fun k_ hk_ hlt_ => KA.out.2 k_ hlt_ hk_ zq24))); (case s2 => rw [← HNF.out]; exact blk_cell BKG.out 0); (case s3 => exact Kd.C_below HC1.out HB1.out); (case s4 => rw [← HNF.out]; exact HNL.out); rintro e w7 ⟨rfl, hb⟩; rw [hmi]; have m5_ := am (blk_below BKL.out hb); replace HB1 := am (below_step HB1.out hb); replace KA := am (KeepBut.trans KA.out (KeepBut.of_below hb G none) (.inl rfl)); replace BKG := am (blk_below BKG.out hb); replace HZ := am (Kd.R_below HZ.out hb); replace HJ := am (HJ.out.below hb); clear BKL; have BKL := m5_; clear m5_; clear hb))
        clear hcl0 hcl1 hmi
        have hg1 : w7.cell? ⟨G, 1, none⟩ = some (.slice (some ⟨Sb, 0, none⟩) N cS) := blk_cell BKG.out 1
        obtain ⟨ad2, e1, hz1⟩ := Kd.at_int (Kd.R_reads' HZ.out).2.2 (mi : Int) (Int.natCast_nonneg mi) (by have h_ := HMI.out; have h2_ := impl_classesOf.zs_length L N i; omega)
        obtain rfl := Option.some.inj e1
        clear e1
        obtain ⟨cells, hcs⟩ := Kd.R_typed HZ.out Sb rfl
        have hfz := blk_frozen hcs mi
        have ea : (⟨Sb, 0, none⟩ : Addr).add mi = ⟨Sb, mi, none⟩ := by simp [Addr.add]; omega
        rw [Int.toNat_natCast, ea] at hz1
        clear hcs ea
        have q1 : ((0 : Int) ≤ (mi : Int)) = True := eq_true zq10
        have q2 : ((mi : Int) < (N : Int)) = True := eq_true (by have := HMI.out; omega)
        have q3 : (mi < N) = True := eq_true HMI.out
        go_upto_region 21 with (fail)
        clear hg1 hz1 hfz q1 q2 q3
        have hp_ := Kd.R_putg HZ.out (mi : Int) (wrap64 (rd (impl_classesOf.zs L N i) (mi : Int) + 1))
        rw [Int.toNat_natCast] at hp_
        obtain ⟨cells, hcs⟩ := Kd.R_typed HZ.out Sb rfl
        have hzn : impl_classesOf.zs L N (i + 1) = (impl_classesOf.zs L N i).set mi (wrap64 (rd (impl_classesOf.zs L N i) (mi : Int) + 1)) := by rw [impl_classesOf.zs_next HLT.out, ← HOE.out, HME.out]; unfold impl_classesOf.bump; rw [Int.toNat_natCast]
        rw [← hzn] at hp_
        have n0_ := am (below_set (j := mi) (v := .int .i64 (wrap64 (rd (impl_classesOf.zs L N i) (mi : Int) + 1))) HB1.out (Nat.le_trans HBA.out HSB.out))
        have n1_ := am (keep_far KA.out (p := ⟨Sb, mi, none⟩) HSB.out (.int .i64 (wrap64 (rd (impl_classesOf.zs L N i) (mi : Int) + 1))))
        have n2_ := am ((Below.heap_setCell w7 ⟨Sb, mi, none⟩ (.int .i64 (wrap64 (rd (impl_classesOf.zs L N i) (mi : Int) + 1))) G (fun e_ => HZ.out.1 Sb rfl e_.symm)).trans BKG.out)
        have n4_ := am (HJ.out.keepS hp_.2 hcs)
        have n5_ := am ((Below.heap_setCell w7 ⟨Sb, mi, none⟩ (.int .i64 (wrap64 (rd (impl_classesOf.zs L N i) (mi : Int) + 1))) gl (fun e_ => impl_classesOf.clash (by rw [e_] at BKL; exact BKL.out) hcs zq33)).trans BKL.out)
        have n3_ := am hp_.1
        generalize World.setCell w7 ⟨Sb, mi, none⟩ (.int .i64 (wrap64 (rd (impl_classesOf.zs L N i) (mi : Int) + 1))) = w8 at n0_ n1_ n2_ n3_ n4_ n5_ ⊢
        clear HB1 KA BKG HZ HJ BKL hp_ hcs hzn
        have HB1 := n0_
        have KA := n1_
        have BKG := n2_
        have HZ := n3_
        have HJ := n4_
        have BKL := n5_
        clear n0_ n1_ n2_ n3_ n4_ n5_
        have hcl1 : w8.cell? ⟨gl, 1, none⟩ = some (.slice A1 o.f1.length c1) := blk_cell BKL.out 1
        go_wp2
        clear hcl1
        go_loopg [98] o.f1.length (fun kq v98 w' => ∃ a : Nat, v98 = .int .i64 (a : Int) ∧ Aside0 (a + kq = o.f1.length) ∧ Aside0 (w'.heap[gl]? = some (.cells #[.int .i64 o.f0, .slice A1 o.f1.length c1] 40 (0, 0))) ∧ Aside0 (Below w1.heap.size w1 w') ∧ Aside0 (KeepBut wA w' G none) ∧ Aside0 (w'.heap[G]? = some (.cells #[.slice AF N cF, .slice (some ⟨Sb, 0, none⟩) N cS, vJ] 46 (0, 0))) ∧ Aside0 (Kd.R (Kd.int .i64) 3 w' wA.heap.size (fun k_ => k_ ≠ G) (.slice (some ⟨Sb, 0, none⟩) N cS) (impl_classesOf.zs L N (i + 1))) ∧ Aside0 (impl_classesOf.Jn w1.heap.size wA.heap.size G w' (vJ) N (N)))
        case atStart => exact ⟨0, rfl, ⟨zq10⟩, BKL, HB1, KA, BKG, HZ, HJ⟩
        case round =>
         clear HB1 BKG KA HZ HJ BKL
         obtain ⟨a, rfl, HA, BKL, HB1, KA, BKG, HZ, HJ⟩ := hrel
         cases gk with
         | zero =>
          have hi : a = o.f1.length := by have := HA.out; omega
          have ct5 : decide ((a : Int) < (o.f1.length : Int)) = false := decide_eq_false zq10
          have ct6 : decide (a < o.f1.length) = false := decide_eq_false zq10
          clear hi
          go_wp2
          go_roundg g3_
          case measure => omega
          case rel => exact ⟨i + 1, zq3, ⟨by have := HI3.out; omega⟩, HB1, KA, BKG, HZ, HJ⟩
         | succ g4_ =>
          have hla : a < o.f1.length := by have := HA.out; omega
          have ct5 : decide ((a : Int) < (o.f1.length : Int)) = true := decide_eq_true zq10
          have ct6 : decide (a < o.f1.length) = true := decide_eq_true hla
          have w3_ : wrap64 ((a : Int) + 1) = ((a + 1 : Nat) : Int) := by have := HOL.out; unfold wrap64; omega
          have w4_ : IntKind.i64.wrap ((a : Int) + 1) = ((a + 1 : Nat) : Int) := by rw [IntKind.wrap_i64]; have := HOL.out; omega
          obtain ⟨b, hb1, hb2⟩ := HCAN.out a hla
          have HB2 := am hb2
          have HLA := am hla
          clear hb2 hla
          have hcl0 : wr.cell? ⟨gl, 0, none⟩ = some (.int .i64 o.f0) := blk_cell BKL.out 0
          have hcl1 : wr.cell? ⟨gl, 1, none⟩ = some (.slice A1 o.f1.length c1) := blk_cell BKL.out 1
          cases b with
          | false =>
           have HCF := am hb1
           clear hb1
           go_wp2_with (go_at_call 31; (with_reducible refine (impl_canFlip.calls o.f0 A1 c1 o.f1 (a : Int) _ _ ?s1 HL1.out HCF.out).mono ?_); (case s1 => exact Kd.C_below HC1.out HB1.out); rintro e w7 ⟨rfl, hb⟩; have m5_ := am (blk_below BKL.out hb); replace HB1 := am (below_step HB1.out hb); replace KA := am (KeepBut.trans KA.out (KeepBut.of_below hb G none) (.inl rfl)); replace BKG := am (blk_below BKG.out hb); replace HZ := am (Kd.R_below HZ.out hb); replace HJ := am (HJ.out.below hb); clear BKL; have BKL := m5_; clear m5_; clear hb hcl0 hcl1; have hcl0 : w7.cell? ⟨gl, 0, none⟩ = some (.int .i64 o.f0) := blk_cell BKL.out 0; have hcl1 : w7.cell? ⟨gl, 1, none⟩ = some (.slice A1 o.f1.length c1) := blk_cell BKL.out 1)
           go_roundg g4_
           case measure => omega
           case rel => exact ⟨a + 1, zq3, ⟨by have := HA.out; omega⟩, BKL, HB1, KA, BKG, HZ, HJ⟩
          | true =>
           have HCF := am hb1
           clear hb1
           obtain ⟨n2, y2, hfl, ⟨k5, hn5⟩, hhit⟩ := HB2.out rfl
           have HFL := am hfl
           have HN5 := am hn5
           have HH5 := am hhit
           clear hfl hn5 hhit
           go_upto_region 25 with (go_at_call 31; (with_reducible refine (impl_canFlip.calls o.f0 A1 c1 o.f1 (a : Int) _ _ ?s1 HL1.out HCF.out).mono ?_); (case s1 => exact Kd.C_below HC1.out HB1.out); rintro e w7 ⟨rfl, hb⟩; have m5_ := am (blk_below BKL.out hb); replace HB1 := am (below_step HB1.out hb); replace KA := am (KeepBut.trans KA.out (KeepBut.of_below hb G none) (.inl rfl)); replace BKG := am (blk_below BKG.out hb); replace HZ := am (Kd.R_below HZ.out hb); replace HJ := am (HJ.out.below hb); clear BKL; have BKL := m5_; clear m5_; clear hb hcl0 hcl1; have hcl0 : w7.cell? ⟨gl, 0, none⟩ = some (.int .i64 o.f0) := blk_cell BKL.out 0; have hcl1 : w7.cell? ⟨gl, 1, none⟩ = some (.slice A1 o.f1.length c1) := blk_cell BKL.out 1)
           clear hcl0 hcl1
           obtain ⟨mj, hmj⟩ := Int.eq_ofNat_of_zero_le HH5.out.2.1
           have HH6 := am HH5.out.1
           have HMJ := am (show mj < N from by have h_ := HH5.out.2.2; rw [hmj] at h_; have := HNF.out; omega)
           have HMJE := am hmj
           clear hmj HH5
           obtain ⟨J, cJ, b, cb, eJ, hcj⟩ := HJ.out.cel HMI.out
           subst eJ
           have HCJ := am hcj
           clear hcj
           have q1 : ((0 : Int) ≤ (mi : Int)) = True := eq_true zq10
           have q2 : ((mi : Int) < (N : Int)) = True := eq_true (by have := HMI.out; omega)
           have q3 : (mi < N) = True := eq_true HMI.out
           have q4 : ((0 : Int) ≤ (mj : Int)) = True := eq_true zq10
           have q5 : ((mj : Int) < (N : Int)) = True := eq_true (by have := HMJ.out; omega)
           have q6 : (mj < N) = True := eq_true HMJ.out
           have qJ : (⟨J, 0, none⟩ : Addr).add mi = ⟨J, mi, none⟩ := by rw [add_at, Nat.zero_add]
           have qb : (⟨b, 0, none⟩ : Addr).add mj = ⟨b, mj, none⟩ := by rw [add_at, Nat.zero_add]
           have m5_ := am (blk_drew BKL.out)
           replace HB1 := am (below_drew1 HB1.out)
           replace KA := am (keep_drew KA.out)
           replace BKG := am (blk_drew BKG.out)
           replace HZ := am (Kd.R_drew HZ.out)
           replace HJ := am (HJ.out.below (below_drew1 (Below.refl _ _)))
           have m6_ := am (show w7.drew.cell? ⟨J, mi, none⟩ = some (.slice (some ⟨b, 0, none⟩) N cb) from HCJ.out)
           clear HCJ BKL
           have HCJ := m6_
           have BKL := m5_
           clear m5_ m6_
           refine start_ (n := 14) (S := fun w' => w'.cell? ⟨G, 2, none⟩ = some (.slice (some ⟨J, 0, none⟩) N cJ) ∧ w'.cell? ⟨J, mi, none⟩ = some (.slice (some ⟨b, 0, none⟩) N cb) ∧ w'.cell? ⟨gl, 0, none⟩ = some (.int .i64 o.f0) ∧ w'.cell? ⟨gl, 1, none⟩ = some (.slice A1 o.f1.length c1)) (ds := [13]) #[false, false, false, false, false, false, false, false, false, false, false, false, false, false] zq20 rfl rfl (⟨blk_cell BKG.out 2, HCJ.out, blk_cell BKL.out 0, blk_cell BKL.out 1⟩) (fun hHeld => ?_)
           refine with_tabW impl_classesOf.tab25 impl_classesOf.bits25 (fun HT_ HW_ => ?_)
           generalize w7.drew = w4 at HB1 KA BKG HZ HJ BKL HCJ hHeld ⊢
           refine zU 0 104 HT_ ?_
           refine zU 1 105 HT_ ?_
           refine zU 2 106 HT_ ?_
           refine zT 3 107 HT_ HW_ hHeld ?_
           refine zU 4 108 HT_ ?_
           refine zU 5 109 HT_ ?_
           refine zT 6 110 HT_ HW_ hHeld ?_
           refine zU 7 111 HT_ ?_
           refine zT 8 112 HT_ HW_ hHeld ?_
           refine zU 9 113 HT_ ?_
           refine zO 10 114 HT_ fun K hK => ?_
           refine goes_ Try.func32 zq20 rfl #[.agg #[.int .i64 o.f0, .slice A1 o.f1.length c1], .int .i64 (a : Int)] (by rfl) rfl rfl (by (try simp only [List.map_toArray, List.map_cons, List.map_nil]); first | done | rfl) ?_
           refine (impl_flipped.calls o.f0 A1 c1 o.f1 (a : Int) n2 y2 _ (Kd.C_below HC1.out HB1.out) HL1.out HFL.out).mono ?_
           rintro e w5 ⟨v2, rfl, hr2, hb⟩
           obtain ⟨A2, c2, e2⟩ := Kd.R_slice hr2
           subst e2
           refine ⟨_, rfl, ?_⟩
           have HR2 := am (Kd.R_reads' hr2).2.2
           have HL2 := am (Kd.R_reads' hr2).2.1
           have m6_ := am (pw_cell_below hb HCJ.out)
           have m5_ := am (blk_below BKL.out hb)
           replace HB1 := am (below_step HB1.out hb)
           replace KA := am (KeepBut.trans KA.out (KeepBut.of_below hb G none) (.inl rfl))
           replace BKG := am (blk_below BKG.out hb)
           replace HZ := am (Kd.R_below HZ.out hb)
           replace HJ := am (HJ.out.below hb)
           clear BKL
           have BKL := m5_
           clear m5_
           clear HCJ
           have HCJ := m6_
           clear m6_
           clear hb hr2 hHeld
           refine hK.out _ _ (⟨blk_cell BKG.out 2, HCJ.out, blk_cell BKL.out 0, blk_cell BKL.out 1⟩) (fun hHeld => ?_)
           clear hK K
           refine zN 114 ?_
           refine zO 11 115 HT_ fun K hK => ?_
           refine goes_ Try.func30 zq20 rfl #[.pointer (some ⟨G, 0, none⟩), .agg #[.int .i64 n2, .slice A2 y2.length c2]] (by rfl) rfl rfl (by (try simp only [List.map_toArray, List.map_cons, List.map_nil]); first | done | rfl) ?_
           refine (impl_classesOf.number G AF cF (impl_classesOf.fir L) n2 A2 c2 y2 (impl_classesOf.nf y2) k5 _ (by rw [← HNF.out]; exact impl_classesOf.firC HCL.out HB1.out (Kd.R_step HOA.out (fun k_ hk_ hlt_ => KA.out.2 k_ hlt_ hk_ zq24))) (by rw [← HNF.out]; exact blk_cell BKG.out 0) HR2.out HL2.out HN5.out HH6.out (by rw [← HNF.out]; exact HNL.out)).mono ?_
           rintro e w6 ⟨rfl, hb⟩
           rw [HMJE.out]
           refine ⟨_, rfl, ?_⟩
           have m6_ := am (pw_cell_below hb HCJ.out)
           have m5_ := am (blk_below BKL.out hb)
           replace HB1 := am (below_step HB1.out hb)
           replace KA := am (KeepBut.trans KA.out (KeepBut.of_below hb G none) (.inl rfl))
           replace BKG := am (blk_below BKG.out hb)
           replace HZ := am (Kd.R_below HZ.out hb)
           replace HJ := am (HJ.out.below hb)
           clear BKL
           have BKL := m5_
           clear m5_
           clear HCJ
           have HCJ := m6_
           clear m6_
           clear hb hHeld
           refine hK.out _ _ (⟨blk_cell BKG.out 2, HCJ.out, blk_cell BKL.out 0, blk_cell BKL.out 1⟩) (fun hHeld => ?_)
           clear hK K
           refine zN 115 ?_
           refine zU 12 116 HT_ ?_
           refine last_ (i := 13) (N := none) #[true, true, true, true, true, true, true, true, true, true, true, true, true, true] rfl rfl (one_of HT_.out zq20) zq33 (fun K hK => ?_)
           obtain ⟨hb1, hb2, ⟨cells, hty⟩, ⟨x, hz⟩, hjn⟩ := HJ.out.put HCJ.out HMI.out HMJ.out
           have hf_ := blk_frozen hty mj
           have n0_ := am (below_set (j := mj) (v := .bool true) HB1.out (Nat.le_trans HBA.out hb1))
           have n1_ := am (keep_far KA.out (p := ⟨b, mj, none⟩) hb1 (.bool true))
           have n2_ := am ((Below.heap_setCell w6 ⟨b, mj, none⟩ (.bool true) G (fun e_ => hb2 e_.symm)).trans BKG.out)
           have n3_ := am (impl_classesOf.keepT (x := .bool true) (q := mj) HZ.out hty)
           have n4_ := am hjn
           have n5_ := am ((Below.heap_setCell w6 ⟨b, mj, none⟩ (.bool true) gl (fun e_ => impl_classesOf.clash (by rw [e_] at BKL; exact BKL.out) hty zq33)).trans BKL.out)
           clear hb1 hb2 hty hjn
           refine skip_ (w1 := ?_) (by rfl) rfl ?_ ?_
           rotate_left
           ·go_simp
            rfl
           refine hK.out _ _ ?_
           clear hK K
           refine done_ (done_of HT_.out zq20) ?_
           go_wp2
           go_roundg g4_
           case measure => omega
           case rel => exact ⟨a + 1, zq3, ⟨by have := HA.out; omega⟩, n5_, n0_, n1_, n2_, n3_, n4_⟩
     | succ g2_ =>
      have HNP := am (show 0 < N from by have := HI2.out; omega)
      have hlt2 : i < N := by have := HI2.out; omega
      have ct : decide ((i : Int) < (N : Int)) = true := decide_eq_true zq10
      have ct2 : decide (i < N) = true := decide_eq_true hlt2
      have w1_ : wrap64 ((i : Int) + 1) = ((i + 1 : Nat) : Int) := by unfold wrap64; omega
      have w2_ : IntKind.i64.wrap ((i : Int) + 1) = ((i + 1 : Nat) : Int) := by rw [IntKind.wrap_i64]; omega
      clear hlt2
      go_upto_region 14 with (fail)
      replace HB1 := am (below_drew1 HB1.out)
      replace KA := am (keep_drew KA.out)
      replace BKG := am (blk_drew BKG.out)
      replace HZ := am (Kd.R_drew HZ.out)
      replace HJ := am (HJ.out.below (below_drew1 (Below.refl _ _)))
      refine start_ (n := 16) (S := fun w' => w'.cell? ⟨G, 0, none⟩ = some (.slice AF N cF) ∧ w'.cell? ⟨G, 2, none⟩ = some vJ) (ds := [15]) #[false, false, false, false, false, false, false, false, false, false, false, false, false, false, false, false] zq20 rfl rfl (⟨blk_cell BKG.out 0, blk_cell BKG.out 2⟩) (fun hHeld => ?_)
      refine with_tabW impl_classesOf.tab14 impl_classesOf.bits14 (fun HT_ HW_ => ?_)
      generalize wr.drew = w4 at HB1 KA BKG HZ HJ hHeld ⊢
      refine zU 0 61 HT_ ?_
      refine zU 1 62 HT_ ?_
      refine zU 2 63 HT_ ?_
      refine zU 3 64 HT_ ?_
      refine zT 4 65 HT_ HW_ hHeld ?_
      refine zU 5 66 HT_ ?_
      refine zU 6 67 HT_ ?_
      refine zU 7 68 HT_ ?_
      refine zT 8 69 HT_ HW_ hHeld ?_
      refine zU 9 70 HT_ ?_
      refine zO 10 71 HT_ fun K hK => ?_
      refine Kd.R_make_step Kd.bool (w0 := w4) w4.heap.size 4 (by rfl) rfl 54 _ _ rfl (N : Int) rfl rfl Try.underlying54 (.bool false) 1 impl_classesOf.infoB rfl zq33 zq10 false (ok := fun k_ => w4.heap.size ≤ k_) (okp := fun _ => False) rfl (fun _ h_ => h_.elim) (Nat.le_refl _) hN0 (by rw [Int.toNat_natCast]; omega) (Below.refl _ _) (Nat.le_refl _) ?_
      intro vB w5 ho hb hg_ hnew_
      rw [Int.toNat_natCast] at ho
      obtain ⟨gb, cb, eB, hgb, _, _⟩ := Kd.R_form ho (by rw [List.length_replicate]; exact HNP.out)
      rw [List.length_replicate] at eB
      subst eB
      have HRB := am (Kd.R_mono (Kd.R_tight rfl (Kd.R_lower ho HB1.out.size)) (fun k_ h_ => Option.some.inj (show some k_ = some gb from h_)))
      have HGB := am (show wA.heap.size ≤ gb ∧ gb ≠ G from ⟨Nat.le_trans (keep_size KA.out) hgb, fun e_ => by have := blk_lt BKG.out; omega⟩)
      clear hg_ hnew_ ho hgb
      replace HB1 := am (below_step HB1.out hb)
      replace KA := am (KeepBut.trans KA.out (KeepBut.of_below hb G none) (.inl rfl))
      replace BKG := am (blk_below BKG.out hb)
      replace HZ := am (Kd.R_below HZ.out hb)
      replace HJ := am (HJ.out.below hb)
      clear hb hHeld
      refine hK.out _ _ (⟨blk_cell BKG.out 0, blk_cell BKG.out 2⟩) (fun hHeld => ?_)
      clear hK K
      refine zN 71 ?_
      refine zO 11 72 HT_ fun K hK => ?_
      refine value_ (w1 := w5.alloc (.cells #[.slice (some ⟨gb, 0, none⟩) N cb] 54 (0, 0))) (v := .slice (some ⟨w5.heap.size, 0, none⟩) 1 1) (by rfl) rfl ?_ ?_
      ·go_simp
      have hb_ := below_alloc (Below.refl w5.heap.size w5) (.cells #[.slice (some ⟨gb, 0, none⟩) N cb] 54 (0, 0))
      have hk_ := blk_new w5 (.cells #[.slice (some ⟨gb, 0, none⟩) N cb] 54 (0, 0))
      have m0_ := am (Kd.R_below HRB.out hb_)
      clear HRB
      have HRB := m0_
      clear m0_
      replace HB1 := am (below_step HB1.out hb_)
      replace KA := am (KeepBut.trans KA.out (KeepBut.of_below hb_ G none) (.inl rfl))
      replace BKG := am (blk_below BKG.out hb_)
      replace HZ := am (Kd.R_below HZ.out hb_)
      replace HJ := am (HJ.out.below hb_)
      obtain ⟨GL, hGL⟩ : ∃ q_, q_ = w5.heap.size := ⟨_, rfl⟩
      rw [← hGL] at hk_ ⊢
      have HKL := am hk_
      clear hk_ hb_ hGL hHeld
      generalize w5.alloc (.cells #[.slice (some ⟨gb, 0, none⟩) N cb] 54 (0, 0)) = w6 at HB1 KA BKG HZ HJ HRB HKL ⊢
      refine hK.out _ _ (⟨blk_cell BKG.out 0, blk_cell BKG.out 2⟩) (fun hHeld => ?_)
      clear hK K
      refine zN 72 ?_
      refine zO 12 73 HT_ fun K hK => ?_
      obtain ⟨bl, hj1, hj2, hj0, hj3⟩ := HJ.out.out
      have HJ1 := am hj1
      have HJ2 := am hj2
      have HJ0 := am hj0
      have HJ3 := am hj3
      clear hj1 hj2 hj0 hj3
      refine Kd.R_append_rows_step (Kd.raw 1) (w0 := w1) w1.heap.size (by rfl) (.tmp 65) (.tmp 72) 44 54 (.slice none 0 0) 24 rfl Try.underlying44 impl_classesOf.infoBs rfl zq33 zq10 vJ _ [[.slice (some ⟨gb, 0, none⟩) N cb]] (some ⟨GL, 0, none⟩) 1 1 (fun k_ => k_ ≠ G) (fun _ => False) rfl rfl HJ2.out (impl_classesOf.lit_C1 HKL.out rfl) (fun _ _ h_ => h_) (fun _ h_ => h_.elim) (fun k_ h_ e_ => by have := blk_lt BKG.out; omega) HB1.out HB1.out.size (by rw [List.length_map, HJ1.out]; have h2_ := HI2.out; have h3_ := HNL.out; omega) ?_
      intro v5 w7 ho hb hg hat
      have HJN := am (impl_classesOf.Jn.more (v := vJ) HJ1.out HJ3.out (by rw [List.length_replicate]) HRB.out HGB.out ho (fun k_ h_ => by rcases hat with e_ | ⟨b_, e_, hb2_⟩ <;> first | exact HJ0.out k_ (e_.symm.trans h_) | (rw [h_] at e_; cases e_; exact Nat.le_trans (keep_size KA.out) hb2_)) hg (fun k_ h_ => Kd.R_typed HJ2.out k_ h_))
      have n1_ := am (KeepBut.trans KA.out (KeepBut.of_grown hg G) (by rcases hv_ : vJ.ownBlock with _ | b_ <;> first | exact .inl rfl | exact .inr ⟨b_, rfl, HJ0.out b_ hv_⟩))
      have n2_ := am (blk_grown BKG.out hg (fun e_ => (HJ2.out.1 _ e_.symm) rfl))
      have n3_ := am (impl_classesOf.keepZ HZ.out hg (fun k_ h_ => Kd.R_typed HJ2.out k_ h_))
      obtain ⟨A5, c5, e5⟩ := Kd.R_slice ho
      clear HB1 KA BKG HZ HJ HJ1 HJ2 HJ0 HJ3 HKL HRB HGB hHeld
      have HB1 := am hb
      have KA := n1_
      have BKG := n2_
      have HZ := n3_
      clear n1_ n2_ n3_ ho hb hg hat
      subst e5
      generalize (List.map _ bl ++ _).length = m5 at HJN ⊢
      refine hK.out _ _ (⟨blk_cell BKG.out 0, blk_cell BKG.out 2⟩) (fun hHeld => ?_)
      clear hK K
      refine zN 73 ?_
      refine zU 13 74 HT_ ?_
      refine zU 14 75 HT_ ?_
      refine last_ (i := 15) (N := none) #[true, true, true, true, true, true, true, true, true, true, true, true, true, true, true, true] rfl rfl (one_of HT_.out zq20) zq33 (fun K hK => ?_)
      have hs_ : w7.cell? ⟨G, 2, none⟩ = some vJ := blk_cell BKG.out 2
      have hf_ := blk_frozen BKG.out 2
      refine skip_ (w1 := ?_) (by rfl) rfl ?_ ?_
      rotate_left
      ·go_simp
       rfl
      refine hK.out _ _ ?_
      clear hK K
      refine done_ (done_of HT_.out zq20) ?_
      go_wp2
      go_roundg g2_
      case measure => omega
      case rel => exact ⟨i + 1, _, zq3, ⟨by have := HI2.out; omega⟩, ⟨below_set HB1.out (Nat.le_of_eq HG.out.symm)⟩, ⟨KeepBut.set_ KA.out 2 _⟩, ⟨blk_put (cs := #[.slice AF N cF, .slice AS N cS, vJ]) BKG.out 2 _ rfl⟩, ⟨Kd.R_step HZ.out (fun k_ hk_ _ => Below.heap_setCell w7 ⟨G, 2, none⟩ _ k_ hk_)⟩, ⟨HJN.out.step (fun k_ hk_ _ => Below.heap_setCell w7 ⟨G, 2, none⟩ _ k_ hk_)⟩⟩
   | succ g1_ =>
    have hlt : i < L.length := by have := HI.out; omega
    obtain ⟨o, ho⟩ : ∃ o, o = L.getD i z40 := ⟨_, rfl⟩
    have hone := HF.out.2 i hlt
    rw [← ho] at hone
    obtain ⟨k1, hn1⟩ := hone.nfs
    obtain ⟨k2, hn2⟩ := hone.eqs
    have HN1 := am hn1
    have HN2 := am hn2
    obtain ⟨ad, A1, c1, e1, hx0, hx1, hl1, hC1⟩ := at_T40 HCL.out (i : Int) zq10 zq10
    have er : rd_T40 L (i : Int) = o := by unfold rd_T40; rw [Int.toNat_natCast, ho]
    rw [er] at hx0 hx1 hl1 hC1
    rw [Int.toNat_natCast] at hx0 hx1
    subst e1
    have HCE := am (show impl_classesOf.cel w1 (some ad) i = .slice A1 o.f1.length c1 from by show ((w1.cell? ⟨(ad.add (i * 2)).block, (ad.add (i * 2)).off + 1, none⟩).getD .nilIface) = _; rw [hx1]; rfl)
    have hy0 := pw_cell_below HB1.out hx0
    have hy1 := pw_cell_below HB1.out hx1
    have HC1 := am hC1
    have HL1 := am hl1
    have HOE := am ho
    have p1 : ((0 : Int) ≤ (i : Int)) = True := eq_true zq10
    have p2 : ((i : Int) < (L.length : Int)) = True := eq_true zq10
    have ct : decide ((i : Int) < (L.length : Int)) = true := decide_eq_true zq10
    have ct2 : decide (i < L.length) = true := decide_eq_true hlt
    have HLT := am hlt
    have w1_ : wrap64 ((i : Int) + 1) = ((i + 1 : Nat) : Int) := by have := HLN.out; unfold wrap64; omega
    have w2_ : IntKind.i64.wrap ((i : Int) + 1) = ((i + 1 : Nat) : Int) := by rw [IntKind.wrap_i64]; have := HLN.out; omega
    clear hx0 hx1 hl1 hC1 ho er hlt hone hn1 hn2
    go_upto_region 8 with (fail)
    have hk_ := blk_new wr (.cells #[.int .i64 o.f0, .slice A1 o.f1.length c1] 40 (0, 0))
    have hb_ := below_alloc (Below.refl wr.heap.size wr) (.cells #[.int .i64 o.f0, .slice A1 o.f1.length c1] 40 (0, 0))
    generalize World.alloc wr (.cells #[.int .i64 o.f0, .slice A1 o.f1.length c1] 40 (0, 0)) = w3 at hk_ hb_ ⊢
    obtain ⟨gl, hgl⟩ : ∃ q_, q_ = wr.heap.size := ⟨_, rfl⟩
    rw [← hgl] at hk_ ⊢
    have BKL := am hk_
    have n0_ := am (below_step HB1.out hb_)
    have n1_ := am (blk_below BKG.out hb_)
    have n2_ := am (Kd.R_below HO.out hb_)
    have HGL := am (show w1.heap.size ≤ gl ∧ G ≠ gl from ⟨by rw [hgl]; exact HB1.out.size, by rw [hgl]; exact Nat.ne_of_lt (blk_lt BKG.out)⟩)
    have HNE := am (show some gl ≠ vF.ownBlock from fun e_ => by have h_ := Kd.R_lt HO.out gl e_.symm; omega)
    clear HB1 BKG HO hk_ hb_ hgl hy0 hy1
    have HB1 := n0_
    have BKG := n1_
    have HO := n2_
    clear n0_ n1_ n2_
    have hcl : w3.cell? ⟨gl, 1, none⟩ = some (.slice A1 o.f1.length c1) := blk_cell BKL.out 1
    go_region_held3 (fun w' => w'.cell? ⟨gl, 1, none⟩ = some (.slice A1 o.f1.length c1)) (exact hcl) (first | (go_at_call 29; (with_reducible refine (impl_firstSame.calls k1 (fun _ => True) A1 c1 o.f1 (impl_classesOf.nf o.f1) _ ?s1 HN1.out).mono ?_); (case s1 => exact ⟨A1, c1, rfl, HL1.out, Kd.F_mono (Kd.C_F (Kd.heap_int .i64) (Kd.C_below HC1.out (below_drew1 HB1.out))) (fun _ _ => trivial)⟩); rintro e w7 ⟨v, rfl, ho, hb⟩; obtain ⟨AF, cF, e_⟩ := Kd.R_slice ho; subst e_; have hq_ := Kd.R_reads' ho; have HRR := am hq_.2.2; have HRC := am hq_.2.1; replace HB1 := am (below_step (below_drew1 HB1.out) hb); replace BKG := am (blk_below (blk_drew BKG.out) hb); replace HO := am (Kd.R_below (Kd.R_drew HO.out) hb); replace BKL := am (blk_below (blk_drew BKL.out) hb); clear hb ho hq_ hcl; have hcl : w7.cell? ⟨gl, 1, none⟩ = some (.slice A1 o.f1.length c1) := blk_cell BKL.out 1) | (go_at_call 28; (with_reducible refine (slices_Equal_int_int.calls k2 AF cF (impl_classesOf.nf o.f1) A1 c1 o.f1 _ _ ?s1 HRC.out ?s2 HL1.out HN2.out).mono ?_); (case s1 => exact HRR.out); (case s2 => exact Kd.C_below HC1.out HB1.out); rintro e w8 ⟨rfl, hd⟩; have hb := hd.below; replace HB1 := am (below_step (HB1.out) hb); replace BKG := am (blk_below (BKG.out) hb); replace HO := am (Kd.R_below (HO.out) hb); replace BKL := am (blk_below (BKL.out) hb); clear hb hd hcl HRR; have hcl : w8.cell? ⟨gl, 1, none⟩ = some (.slice A1 o.f1.length c1) := blk_cell BKL.out 1))
    by_cases hq : impl_classesOf.isF o = true
    ·rw [hq]
     have HQ := am hq
     clear hq
     go_upto_region 9 with (fail)
     replace HB1 := am (below_drew1 HB1.out)
     replace BKG := am (blk_drew BKG.out)
     replace HO := am (Kd.R_drew HO.out)
     replace BKL := am (blk_drew BKL.out)
     clear hcl
     refine start_ (n := 11) (S := fun w' => w'.cell? ⟨G, 0, none⟩ = some vF ∧ w'.cell? ⟨gl, 0, none⟩ = some (.int .i64 o.f0) ∧ w'.cell? ⟨gl, 1, none⟩ = some (.slice A1 o.f1.length c1)) (ds := [10]) #[false, false, false, false, false, false, false, false, false, false, false] zq20 rfl rfl (⟨blk_cell BKG.out 0, blk_cell BKL.out 0, blk_cell BKL.out 1⟩) (fun hHeld => ?_)
     refine with_tabW impl_classesOf.tab9 impl_classesOf.bits9 (fun HT_ HW_ => ?_)
     generalize w8.drew = w4 at HB1 BKG HO BKL hHeld ⊢
     refine zU 0 34 HT_ ?_
     refine zU 1 35 HT_ ?_
     refine zU 2 36 HT_ ?_
     refine zU 3 37 HT_ ?_
     refine zT 4 38 HT_ HW_ hHeld ?_
     refine zT 5 39 HT_ HW_ hHeld ?_
     refine zO 6 40 HT_ fun K hK => ?_
     refine value_ (w1 := w4.alloc (.cells #[.int .i64 o.f0, .slice A1 o.f1.length c1] 40 (0, 0))) (v := .slice (some ⟨w4.heap.size, 0, none⟩) 1 1) (by rfl) rfl ?_ ?_
     ·go_simp
     have hb_ := below_alloc (Below.refl w4.heap.size w4) (.cells #[.int .i64 o.f0, .slice A1 o.f1.length c1] 40 (0, 0))
     have hk_ := blk_new w4 (.cells #[.int .i64 o.f0, .slice A1 o.f1.length c1] 40 (0, 0))
     have n0_ := am (below_step HB1.out hb_)
     have n1_ := am (blk_below BKG.out hb_)
     have n2_ := am (Kd.R_below HO.out hb_)
     have n3_ := am (blk_below BKL.out hb_)
     obtain ⟨GL, hGL⟩ : ∃ q_, q_ = w4.heap.size := ⟨_, rfl⟩
     rw [← hGL] at hk_ ⊢
     have HKL := am hk_
     clear HB1 BKG HO BKL hk_ hb_ hGL hHeld
     have HB1 := n0_
     have BKG := n1_
     have HO := n2_
     have BKL := n3_
     clear n0_ n1_ n2_ n3_
     generalize w4.alloc (.cells #[.int .i64 o.f0, .slice A1 o.f1.length c1] 40 (0, 0)) = w5 at HB1 BKG HO BKL HKL ⊢
     refine hK.out _ _ (⟨blk_cell BKG.out 0, blk_cell BKL.out 0, blk_cell BKL.out 1⟩) (fun hHeld => ?_)
     clear hK K
     refine zN 40 ?_
     refine zO 7 41 HT_ fun K hK => ?_
     refine Kd.R_append_rows_step (Kd.raw 2) (w0 := w1) w1.heap.size (by rfl) (.tmp 38) (.tmp 40) 23 40 (.agg #[(.int .i64 0), (.slice none 0 0)]) 32 rfl Try.underlying23 info40 rfl zq33 zq10 vF (impl_classesOf.rows w1 (some ad) L i) [[.int .i64 o.f0, .slice A1 o.f1.length c1]] (some ⟨GL, 0, none⟩) 1 1 (fun k_ => k_ ≠ G) (fun _ => False) rfl rfl HO.out (impl_classesOf.lit_C HKL.out rfl rfl) (fun _ _ h_ => h_) (fun _ h_ => h_.elim) (fun k_ h_ e_ => by have := blk_lt BKG.out; omega) HB1.out HB1.out.size (by have h1_ := impl_classesOf.rows_length w1 (some ad) L i; have h2_ := HLT.out; have h3_ := HLN.out; omega) ?_
     intro v5 w6 ho hb hg hat
     have n1_ := am (blk_grown BKG.out hg (fun e_ => (HO.out.1 _ e_.symm) rfl))
     have n3_ := am (blk_grown BKL.out hg HNE.out)
     clear HB1 BKG HO BKL HKL hHeld
     have HB1 := am hb
     have BKG := n1_
     have HO := am ho
     have BKL := n3_
     clear n1_ n3_ ho hb hg hat
     obtain ⟨A5, c5, e5⟩ := Kd.R_slice HO.out
     subst e5
     obtain ⟨m5, hm5⟩ : ∃ q_, q_ = (impl_classesOf.rows w1 (some ad) L i ++ [[Value.int IntKind.i64 o.f0, Value.slice A1 o.f1.length c1]]).length := ⟨_, rfl⟩
     rw [← hm5] at HO ⊢
     clear hm5
     refine hK.out _ _ (⟨blk_cell BKG.out 0, blk_cell BKL.out 0, blk_cell BKL.out 1⟩) (fun hHeld => ?_)
     clear hK K
     refine zN 41 ?_
     refine zU 8 42 HT_ ?_
     refine zU 9 43 HT_ ?_
     refine last_ (i := 10) (N := none) #[true, true, true, true, true, true, true, true, true, true, true] rfl rfl (one_of HT_.out zq20) zq33 (fun K hK => ?_)
     have hs_ : w6.cell? ⟨G, 0, none⟩ = some vF := blk_cell BKG.out 0
     have hf_ := blk_frozen BKG.out 0
     refine skip_ (w1 := ?_) (by rfl) rfl ?_ ?_
     rotate_left
     ·go_simp
      rfl
     refine hK.out _ _ ?_
     clear hK K
     refine done_ (done_of HT_.out zq20) ?_
     go_wp2
     go_roundg g1_
     case measure => omega
     case rel => exact ⟨i + 1, _, zq3, ⟨by have := HI.out; omega⟩, ⟨below_set HB1.out (Nat.le_of_eq HG.out.symm)⟩, ⟨blk_put (cs := #[vF, .slice none 0 0, .slice none 0 0]) BKG.out 0 _ rfl⟩, ⟨by rw [impl_classesOf.rows_next, ← HOE.out, HQ.out, if_pos rfl, HCE.out]; exact Kd.R_step HO.out (fun k_ hk_ _ => Below.heap_setCell w6 ⟨G, 0, none⟩ _ k_ hk_)⟩⟩
    ·have hq2 : impl_classesOf.isF o = false := by simpa using hq
     rw [hq2]
     have HQ := am hq2
     clear hq hq2
     go_wp2
     go_roundg g1_
     case measure => omega
     case rel => exact ⟨i + 1, vF, zq3, ⟨by have := HI.out; omega⟩, HB1, BKG, ⟨by rw [impl_classesOf.rows_next, ← HOE.out, HQ.out, if_neg zq24, List.append_nil]; exact HO.out⟩⟩
/-! ### impl_SizesOfClasses: function 14 -/
theorem impl_SizesOfClasses.no (l0 : List Int) (F : List S40) (Z : List Int) (h : impl_classesOf.f l0 = some (F, Z, false)) : F = [] ∧ Z = [] := by
 obtain ⟨⟨L, ok⟩, hli, h⟩ := Option.bind_eq_some_iff.1 h
 cases ok with
 | false =>
  rw [if_neg zq24] at h
  simp only [Option.some.injEq, Prod.mk.injEq] at h
  exact ⟨h.1.symm, h.2.1.symm⟩
 | true =>
  rw [if_pos rfl] at h
  split at h
  ·simp at h
  ·cases h
noncomputable def impl_SizesOfClasses.f (l0 : List Int) : Option (List Int × Bool) := (impl_classesOf.f l0).bind fun t => some (t.2.1, t.2.2)
set_option maxHeartbeats 2000000 in
theorem impl_SizesOfClasses.calls (A0 : Option Addr) (c0 : Nat) (l0 : List Int) (r1 : List Int) (r2 : Bool) (w : World) (hr0 : Kd.C (Kd.int .i64) w A0 l0.length l0) (hc0 : l0.length ≤ c0) (h : impl_SizesOfClasses.f l0 = some (r1, r2)) :
  Calls Try.prog 14 #[.slice A0 l0.length c0] w fun e w' => ∃ v0_ : Value, e = .returned (.tuple #[v0_, .bool r2]) ∧ Kd.R (Kd.int .i64) 3 w' w.heap.size (fun _ => True) v0_ r1 ∧ Below w.heap.size w w' := by
 have hu2 := Try.underlying46
 obtain ⟨⟨F, Z, b⟩, ha, h⟩ := Option.bind_eq_some_iff.1 h
 simp only [Option.some.injEq, Prod.mk.injEq] at h
 obtain ⟨rfl, rfl⟩ := h
 have HR0 := am hr0
 have HC0 := am hc0
 have HA := am ha
 clear hr0 hc0 ha
 cases b with
 | false =>
  obtain ⟨rfl, rfl⟩ := impl_SizesOfClasses.no l0 F Z HA.out
  go_enter Try.func14, Try.ntmps14
  go_wp2_with (go_at_call 18; (with_reducible refine (impl_classesOf.calls A0 c0 l0 [] [] false _ ?s1 HC0.out HA.out).mono ?_); (case s1 => exact HR0.out); rintro e w1 ⟨hb, hx⟩; have HB := am hb; clear hb; obtain rfl := (hx.resolve_right (fun h_ => by cases h_.1)).2; clear hx)
  go_ret2
  exact ⟨_, rfl, Kd.R_nil _ _ _ _ _, HB.out⟩
 | true =>
  go_enter Try.func14, Try.ntmps14
  go_wp2_with (go_at_call 18; (with_reducible refine (impl_classesOf.calls A0 c0 l0 F Z true _ ?s1 HC0.out HA.out).mono ?_); (case s1 => exact HR0.out); rintro e w1 ⟨hb, hx⟩; have HB := am hb; clear hb; obtain ⟨_, g, vF, vS, vJ, rfl, hbox, hS, hR⟩ := hx.resolve_left (fun h_ => by cases h_.1); obtain ⟨A, c, eV⟩ := Kd.R_slice hR; subst eV; have HS := am hR; have hz : w1.cell? ⟨g, 1, none⟩ = some (.slice A Z.length c) := blk_cell hbox 1; clear hx hbox hS hR)
  go_ret2
  exact ⟨_, rfl, Kd.R_mono HS.out (fun _ _ => trivial), HB.out⟩
/-! ### laws_heldIntS: function 15 -/
def laws_heldIntS.l0 : Nat → List Int → Int → Int → Option (Int)
 | 0, _, _, _ => none
 | k + 1, x0, x1, x5 => if x5 < (x0.length : Int) then (if 0 ≤ x5 then (if (rd x0 x5) = x1 then (laws_heldIntS.l0 k x0 (wrap64 (x1 + 1)) (wrap64 (x5 + 1))) else (some (-1))) else (none)) else (some x1)
def laws_heldIntS.f (k : Nat) (l0 : List Int) (a1 : Int) : Option (Int) := laws_heldIntS.l0 k l0 a1 0
theorem laws_heldIntS.mono_l : ∀ k, (∀ y0 y1 y2, LeO (laws_heldIntS.l0 k y0 y1 y2) (laws_heldIntS.l0 (k + 1) y0 y1 y2))
 | 0 => fun _ _ _ r h => by simp [laws_heldIntS.l0] at h
 | k + 1 => by
  have ih0 := laws_heldIntS.mono_l k
  ·intro y0 y1 y2
   unfold laws_heldIntS.l0
   repeat' first | (with_reducible first | exact ih0 _ _ _ | exact LeO.refl _ | exact LeO.none _ | refine LeO.ite ?_ ?_ | refine LeO.bind ?_ (fun _ => ?_))
theorem laws_heldIntS.mono : ∀ a0 a1 k, LeO (laws_heldIntS.f k a0 a1) (laws_heldIntS.f (k + 1) a0 a1) := by
 intro a0 a1 k
 have ih0 := laws_heldIntS.mono_l k
 unfold laws_heldIntS.f
 repeat' first | (with_reducible first | exact ih0 _ _ _ | exact LeO.refl _ | exact LeO.none _ | refine LeO.ite ?_ ?_ | refine LeO.bind ?_ (fun _ => ?_))
theorem laws_heldIntS.calls (k : Nat) (A0 : Option Addr) (c0 : Nat) (l0 : List Int) (a1 : Int) (r : Int) (w : World) (hr0 : Kd.C (Kd.int .i64) w A0 l0.length l0) (hc0 : l0.length ≤ c0) (h : laws_heldIntS.f k l0 a1 = some r) :
  Calls Try.prog 15 #[.slice A0 l0.length c0, .int .i64 a1] w fun e w' => e = .returned (.int .i64 r) ∧ Drawn0 w w' := by
 have HR0 := am hr0
 have HC0 := am hc0
 clear hr0 hc0
 have H : (laws_heldIntS.l0 k l0 a1 0) = some r := h
 clear h
 have H' := am H
 clear H
 go_enter Try.func15, Try.ntmps15
 go_wp2
 go_loopg [1, 5] k (fun kq v1 v5 w' => ∃ (x1_1 : Int) (x5_1 : Int), v1 = .int .i64 x1_1 ∧ v5 = .int .i64 x5_1 ∧ Aside0 (laws_heldIntS.l0 kq l0 x1_1 x5_1 = some r) ∧ Aside0 (kq ≤ k) ∧ Drawn0 w w')
 case atStart => exact ⟨(a1), (0), zq3, zq3, H', ⟨Nat.le_refl _⟩, zq4⟩
 case round =>
  clear H'
  try clear c1
  try clear p2
  obtain ⟨x1_1, x5_1, rfl, rfl, HA, HK1, ⟨m1, rfl⟩⟩ := hrel
  cases gk with
  | zero => exact absurd HA.out (by simp [laws_heldIntS.l0])
  | succ k1 =>
   have H := HA.out
   clear HA
   simp only [laws_heldIntS.l0] at H
   by_cases c3 : x5_1 < (l0.length : Int)
   ·rw [if_pos c3] at H
    have c3b0 : decide (x5_1 < (l0.length : Int)) = true := decide_eq_true c3
    clear c3
    by_cases c4 : 0 ≤ x5_1
    ·rw [if_pos c4] at H
     have c4b0 : decide (0 ≤ x5_1) = true := decide_eq_true c4
     clear c4
     by_cases c5 : (rd l0 x5_1) = x1_1
     ·rw [if_pos c5] at H
      have c5b0 : ((rd l0 x5_1) == x1_1) = true := beq_iff_eq.mpr c5
      have c5b1 : ((rd l0 x5_1) != x1_1) = false := bne_eq_false_iff_eq.mpr c5
      clear c5
      have H' := am H
      clear H
      have p306 : 0 ≤ (x5_1 : Int) := of_decide_eq_true zq0
      have q306 : x5_1 < (l0.length : Int) := of_decide_eq_true zq0
      obtain ⟨ad306, e306, hx306_0⟩ := Kd.at_int HR0.out x5_1 p306 q306
      cases e306
      replace p306 := eq_true p306
      replace q306 := eq_true q306
      go_wp2
      go_roundg k1
      case measure => have := HK1.out; omega
      case rel => exact ⟨(wrap64 (x1_1 + 1)), (wrap64 (x5_1 + 1)), zq3, zq3, H', ⟨zq32⟩, zq4⟩
     ·rw [if_neg c5] at H
      have c5b0 : ((rd l0 x5_1) == x1_1) = false := beq_eq_false_iff_ne.mpr c5
      have c5b1 : ((rd l0 x5_1) != x1_1) = true := bne_iff_ne.mpr c5
      obtain rfl := Option.some.inj H
      have p306 : 0 ≤ (x5_1 : Int) := of_decide_eq_true zq0
      have q306 : x5_1 < (l0.length : Int) := of_decide_eq_true zq0
      obtain ⟨ad306, e306, hx306_0⟩ := Kd.at_int HR0.out x5_1 p306 q306
      cases e306
      replace p306 := eq_true p306
      replace q306 := eq_true q306
      go_wp2
      go_ret
      exact ⟨zq3, zq4⟩
    ·rw [if_neg c4] at H
     exact absurd H zq24
   ·rw [if_neg c3] at H
    have c3b0 : decide (x5_1 < (l0.length : Int)) = false := decide_eq_false c3
    clear c3
    obtain rfl := Option.some.inj H
    go_wp2
    go_ret
    exact ⟨zq3, zq4⟩
end
end Go.Proofs.Ytlmiiijjjcddkaa.PKb
